/- The law TideLeft. -/
import Derived.Test.YtadjbgghbjacbaaCS26
set_option linter.all false
namespace Go.Proofs
open Go.Fs
set_option linter.unusedSimpArgs false
set_option linter.unusedVariables false
set_option maxHeartbeats 4000000
set_option maxRecDepth 8000

theorem toBits_snoc (l : List Nat) (a : Nat) : toBits (l ++ [a]) = toBits l ||| 2 ^ a := by
  refine Nat.eq_of_testBit_eq fun k => ?_
  rw [Nat.testBit_or, toBits_test, toBits_test, Nat.testBit_two_pow, Bool.eq_iff_iff]
  simp
  constructor
  · rintro (h | h)
    · exact .inl h
    · exact .inr h.symm
  · rintro (h | h)
    · exact .inl h
    · exact .inr h.symm
theorem sub_and_test2 (n b k : Nat) : (2 ^ n - 1 - ((2 ^ n - 1) &&& b)).testBit k = (decide (k < n) && !b.testBit k) := by
  have h : 2 ^ n - 1 - ((2 ^ n - 1) &&& b) = 2 ^ n - ((b % 2 ^ n) + 1) := by
    rw [Nat.and_comm, Nat.and_two_pow_sub_one_eq_mod]
    omega
  rw [h, Nat.testBit_two_pow_sub_succ (Nat.mod_lt _ (Nat.two_pow_pos n)), Nat.testBit_mod_two_pow]
  by_cases c : k < n <;> simp [c]
theorem TideLeft_true (t : Tb) (u : Int) (hu : InR .u8 u) : CallP Try.prog 12 [Enc.enc t, AV.int .u8 u] (· = Enc.enc true) := by
  cases c0 : (thinB t && decide (faultT t = 0))
  · simp only [enc_fnl, enc_fnb, enc_fnc, enc_refc, enc_arr, enc_int, enc_bool, enc_list, enc_rg, enc_mk, enc_tb]
    refine callP_of_vc (Φ := P51) Try.func12 rfl (by rfl) (by rw [Try.ntmps12]; simp) mixed P51_ok (by simp [AV.strip, Tk.strip]) ?_
    rw [Try.ntmps12]
    simp only [Try.f12, startSt, tmFrom]
    simp (maxSteps := 4000000) only [go_sem, AV.one, drawV, intsOf, keyIdx, over, putO, memAt, List.map_cons, List.length_cons, ↓reduceIte, snap_trues, imm_trues, enc_pair, enc_iterv, zdrop, one_i, one_b, one_sl, one_ptr, one_ref, one_nilp, one_mp, one_fn, one_nilf, c0]
    all_goals (repeat' (first | with_reducible rfl | with_reducible apply And.intro | ((with_reducible show drawOK _ = true); rfl))) <;> (try first | omega | (simp only [InR]; omega) | with_reducible assumption)
  have c12 : thinB t = true ∧ faultT t = 0 := by simpa using c0
  obtain ⟨c1, c2⟩ := c12
  have hl := thin_len c1
  have hv := fault_ok c2
  have hm5 := hv.mok.len
  obtain ⟨ls, hls, hle⟩ := leaveL_least hv
  have hinc := hle.inc
  have hlen := inc_len hinc
  have hlc : (castL ls).length = ls.length := by simp [castL]
  have e1 : leaveQ t = (castL ls, 0) := by unfold leaveQ; rw [if_pos c2, hls]
  have hpn := Nat.two_pow_pos t.marks.length
  have hpi := pow_bd t.marks.length (by omega)
  have hpc : ((2 : Int) ^ t.marks.length) = ((2 ^ t.marks.length : Nat) : Int) := by simp
  have hf : fullT t = ((2 ^ t.marks.length - 1 : Nat) : Int) := by unfold fullT; rw [hpc]; omega
  have hp256 : 2 ^ t.marks.length ≤ 256 := by omega
  have hu0 : 0 ≤ u := hu.1
  have hu1 : u ≤ 255 := hu.2
  have hB : toBits ls < 2 ^ t.marks.length := toBits_lt fun x hx => (hinc.mem x hx).2
  have f1 := some_fault c2 (2 ^ t.marks.length - 1 - ((2 ^ t.marks.length - 1) &&& toBits ls))
  have p1 : truthsL (someT t (2 ^ t.marks.length - 1 - ((2 ^ t.marks.length - 1) &&& toBits ls))) ≠ [] := by
    rw [some_truths c2]
    refine hle.poss.mono fun k hk hb => ?_
    rw [sub_and_test2, toBits_test] at hb
    simp [hk] at hb
    exact hb
  obtain ⟨L1, e2⟩ := (bnd_err f1).1 p1
  obtain ⟨n', hn'⟩ : ∃ n', u.toNat &&& (2 ^ t.marks.length - 1) = n' := ⟨_, rfl⟩
  have hn2 : n' < 2 ^ t.marks.length := by
    rw [← hn', Nat.and_two_pow_sub_one_eq_mod]
    exact Nat.mod_lt _ hpn
  have f2 := some_fault c2 (2 ^ t.marks.length - 1 - ((2 ^ t.marks.length - 1) &&& n'))
  have hand1 : (2 ^ t.marks.length - 1) &&& toBits ls ≤ 2 ^ t.marks.length - 1 := Nat.and_le_left
  have hand2 : (2 ^ t.marks.length - 1) &&& n' ≤ 2 ^ t.marks.length - 1 := Nat.and_le_left
  have hs1 := someN_len t (2 ^ t.marks.length - 1 - ((2 ^ t.marks.length - 1) &&& toBits ls)) t.marks.length
  have hs2 := someN_len t (2 ^ t.marks.length - 1 - ((2 ^ t.marks.length - 1) &&& n')) t.marks.length
  have a1 : (someT t (2 ^ t.marks.length - 1 - ((2 ^ t.marks.length - 1) &&& toBits ls))).heights.length ≤ 4096 := by show t.heights.length ≤ _; omega
  have a2 : (someT t (2 ^ t.marks.length - 1 - ((2 ^ t.marks.length - 1) &&& toBits ls))).levels.length ≤ 4096 := by show t.levels.length ≤ _; omega
  have a3 : (someT t (2 ^ t.marks.length - 1 - ((2 ^ t.marks.length - 1) &&& toBits ls))).marks.length ≤ 4096 := by show (someN _ _ _).length ≤ _; omega
  have b1 : (someT t (2 ^ t.marks.length - 1 - ((2 ^ t.marks.length - 1) &&& n'))).heights.length ≤ 4096 := by show t.heights.length ≤ _; omega
  have b2 : (someT t (2 ^ t.marks.length - 1 - ((2 ^ t.marks.length - 1) &&& n'))).levels.length ≤ 4096 := by show t.levels.length ≤ _; omega
  have b3 : (someT t (2 ^ t.marks.length - 1 - ((2 ^ t.marks.length - 1) &&& n'))).marks.length ≤ 4096 := by show (someN _ _ _).length ≤ _; omega
  have q1 : BOk ((2 ^ t.marks.length - 1 - ((2 ^ t.marks.length - 1) &&& toBits ls) : Nat) : Int) := ⟨by omega, by omega⟩
  have q2 : BOk ((2 ^ t.marks.length - 1 - ((2 ^ t.marks.length - 1) &&& n') : Nat) : Int) := ⟨by omega, by omega⟩
  have q3 : BOk (n' : Int) := ⟨by omega, by omega⟩
  have hbl := bitsL_len (b := n') (by omega)
  simp only [enc_fnl, enc_fnb, enc_fnc, enc_refc, enc_arr, enc_int, enc_bool, enc_list, enc_rg, enc_mk, enc_tb]
  refine callP_of_vc (Φ := P51) Try.func12 rfl (by rfl) (by rw [Try.ntmps12]; simp) mixed P51_ok (by simp [AV.strip, Tk.strip]) ?_
  rw [Try.ntmps12]
  simp only [Try.f12, startSt, tmFrom]
  simp (maxSteps := 4000000) only [go_sem, AV.one, drawV, intsOf, keyIdx, over, putO, memAt, List.map_cons, List.length_cons, ↓reduceIte, snap_trues, imm_trues, enc_pair, enc_iterv, zdrop, one_i, one_b, one_sl, one_ptr, one_ref, one_nilp, one_mp, one_fn, one_nilf, c0, e1]
  all_goals (repeat' (first | with_reducible rfl | with_reducible apply And.intro | ((with_reducible show drawOK _ = true); rfl))) <;> (try first | omega | (simp only [InR]; omega) | with_reducible assumption)
  refine loopN (ls.length) [] [1, 2, 4, 5] (fun i => [(8, .int .i64 i), (7, .int .i64 ((toBits (ls.take i) : Nat) : Int))]) (fun _ m => m) (fun _ => True) ?_ ?_ ?_ ?_
  · trivial
  · simp [bel_ints, cs_arr, dep_arr, cs_int, cs_bool, cs_list, cs_rg, cs_mk, AtHead, Same, AllO, Begins, LtAll, headSt, tokz_nil, tokz_cons, tokz1, lk, dep_int, dep_bool, dep_list, dep_rg, dep_mk, memAt, bel_map, bel_mapF, bel_mapO, bel_undef, bel_int, bel_boolv, bel_nilp, bel_nilf, bel_ptr, bel_arr, bel_mp, bel_yld, bel_agg, bel_tup, bel_ref, bel_only, bel_mpr, bel_fn, bel_sl_nil, bel_sl_nilF, bel_sl_nilO, bel_sl_cons, bel_sl_app, belO_cells, belO_tok, belO_dead, belO_deferred, belO_map, belO_iter, belO_loop, toBits]
  · intro i hi _
    have hi' := Int.ofNat_lt.2 hi
    have hg : ((castL ls).map EncE.cs).getD i [] = [AV.int .i64 ((at_ ls i : Nat) : Int)] := by
      rw [getD_mapA (by omega)]
      simp [castL, at_, hi, cs_int]
    have hx := hinc.mem _ (at_mem hi)
    have hin : inB ((at_ ls i : Nat) : Int) 0 (t.marks.length - 1) = true := (inB_iff _ _ _).2 ⟨by omega, by omega⟩
    have hk := pow_bd (at_ ls i) (by omega)
    have hk2 : ((2 : Int) ^ (at_ ls i)).toNat = 2 ^ (at_ ls i) := by
      rw [show ((2 : Int) ^ (at_ ls i)) = ((2 ^ (at_ ls i) : Nat) : Int) by simp]; exact Int.toNat_natCast _
    have hb : toBits (ls.take i) < 2 ^ t.marks.length := toBits_lt fun x hx => (hinc.mem x (List.mem_of_mem_take hx)).2
    by_cases z : i = 0
    · subst z
      have hi0 : (0 : Int) < (ls.length : Int) := by omega
      simp (maxSteps := 4000000) only [go_sem, AV.one, drawV, intsOf, keyIdx, over, putO, memAt, List.map_cons, List.length_cons, ↓reduceIte, snap_trues, imm_trues, enc_pair, enc_iterv, zdrop, one_i, one_b, one_sl, one_ptr, one_ref, one_nilp, one_mp, one_fn, one_nilf, hlc, hi0, hg, hin, hk2, bits64, Int.one_mul, Int.lt_irrefl, show ((0 : Int) - 1).toNat = 0 from rfl]
      all_goals (repeat' (first | with_reducible rfl | with_reducible apply And.intro | ((with_reducible show drawOK _ = true); rfl))) <;> (try first | omega | (simp only [InR]; omega) | with_reducible assumption)
      · simp [InR, toBits]
      refine nxt hi trivial ?_
      simp [bel_ints, cs_arr, dep_arr, cs_int, cs_bool, cs_list, cs_rg, cs_mk, AtHead, Same, AllO, Begins, LtAll, headSt, tokz_nil, tokz_cons, tokz1, lk, dep_int, dep_bool, dep_list, dep_rg, dep_mk, memAt, bel_map, bel_mapF, bel_mapO, bel_undef, bel_int, bel_boolv, bel_nilp, bel_nilf, bel_ptr, bel_arr, bel_mp, bel_yld, bel_agg, bel_tup, bel_ref, bel_only, bel_mpr, bel_fn, bel_sl_nil, bel_sl_nilF, bel_sl_nilO, bel_sl_cons, bel_sl_app, belO_cells, belO_tok, belO_dead, belO_deferred, belO_map, belO_iter, belO_loop, take_succ_at hi, toBits_snoc, -List.map_take]
      rw [show [at_ ls 0] = [] ++ [at_ ls 0] from rfl, toBits_snoc]
    · have z' : (0 : Int) < i := by omega
      have e3 : ((i : Int) - 1).toNat = i - 1 := by omega
      have hg2 : ((castL ls).map EncE.cs).getD (i - 1) [] = [AV.int .i64 ((at_ ls (i - 1) : Nat) : Int)] := by
        rw [getD_mapA (by omega)]
        simp [castL, at_, show i - 1 < ls.length by omega, cs_int]
      have hm : at_ ls (i - 1) < at_ ls i := by
        have := List.pairwise_iff_getElem.1 hinc.pair (i - 1) i (by omega) hi (by omega)
        rwa [at_get (by omega), at_get hi]
      have hm2 : ¬ (((at_ ls i : Nat) : Int) ≤ ((at_ ls (i - 1) : Nat) : Int)) := by omega
      simp (maxSteps := 4000000) only [go_sem, AV.one, drawV, intsOf, keyIdx, over, putO, memAt, List.map_cons, List.length_cons, ↓reduceIte, snap_trues, imm_trues, enc_pair, enc_iterv, zdrop, one_i, one_b, one_sl, one_ptr, one_ref, one_nilp, one_mp, one_fn, one_nilf, hlc, hi', z', e3, hg, hg2, hm2, hin, hk2, bits64, Int.one_mul]
      all_goals (repeat' (first | with_reducible rfl | with_reducible apply And.intro | ((with_reducible show drawOK _ = true); rfl))) <;> (try first | omega | (simp only [InR]; omega) | with_reducible assumption)
      refine nxt hi trivial ?_
      simp [bel_ints, cs_arr, dep_arr, cs_int, cs_bool, cs_list, cs_rg, cs_mk, AtHead, Same, AllO, Begins, LtAll, headSt, tokz_nil, tokz_cons, tokz1, lk, dep_int, dep_bool, dep_list, dep_rg, dep_mk, memAt, bel_map, bel_mapF, bel_mapO, bel_undef, bel_int, bel_boolv, bel_nilp, bel_nilf, bel_ptr, bel_arr, bel_mp, bel_yld, bel_agg, bel_tup, bel_ref, bel_only, bel_mpr, bel_fn, bel_sl_nil, bel_sl_nilF, bel_sl_nilO, bel_sl_cons, bel_sl_app, belO_cells, belO_tok, belO_dead, belO_deferred, belO_map, belO_iter, belO_loop, take_succ_at hi, toBits_snoc, -List.map_take]
  · intro _
    have hcast : ∀ i, i < t.marks.length → (n'.testBit i = true ↔ i ∈ ofBits n' t.marks.length) := fun i hi => by
      unfold ofBits; rw [List.mem_filter, List.mem_range]; simp [hi]
    have hbits := bitsL_cast hn2
    by_cases z : truthsL (someT t (2 ^ t.marks.length - 1 - ((2 ^ t.marks.length - 1) &&& n'))) = []
    · have e4 := (bnd_err f2).2 z
      simp (maxSteps := 4000000) only [go_sem, AV.one, drawV, intsOf, keyIdx, over, putO, memAt, List.map_cons, List.length_cons, ↓reduceIte, snap_trues, imm_trues, enc_pair, enc_iterv, zdrop, one_i, one_b, one_sl, one_ptr, one_ref, one_nilp, one_mp, one_fn, one_nilf, hlc, List.take_length, hf, hn', e2, e4, bits64]
      all_goals (repeat' (first | with_reducible rfl | with_reducible apply And.intro | ((with_reducible show drawOK _ = true); rfl))) <;> (try first | omega | (simp only [InR]; omega) | with_reducible assumption)
    · obtain ⟨L2, e4⟩ := (bnd_err f2).1 z
      have hP := (some_truths c2 _).1 z
      have hsh : shorterB (bitsL n') (castL ls) = false := by
        rw [hbits]
        refine hle.least _ (ofBits_inc _ _) (hP.mono fun k hk hb => ?_)
        rw [sub_and_test2]
        have := (hcast k hk)
        cases e : n'.testBit k
        · simp [hk]
        · exact absurd (this.1 e) hb
      simp (maxSteps := 4000000) only [go_sem, AV.one, drawV, intsOf, keyIdx, over, putO, memAt, List.map_cons, List.length_cons, ↓reduceIte, snap_trues, imm_trues, enc_pair, enc_iterv, zdrop, one_i, one_b, one_sl, one_ptr, one_ref, one_nilp, one_mp, one_fn, one_nilf, hlc, List.take_length, hf, hn', e2, e4, hsh, bits64]
      all_goals (repeat' (first | with_reducible rfl | with_reducible apply And.intro | ((with_reducible show drawOK _ = true); rfl))) <;> (try first | omega | (simp only [InR]; omega) | with_reducible assumption)
end Go.Proofs
