/- The law TideHigher. -/
import Derived.Test.YtadjbgghbjacbaaCS26
set_option linter.all false
namespace Go.Proofs
open Go.Fs
set_option linter.unusedSimpArgs false
set_option linter.unusedVariables false
set_option maxHeartbeats 4000000
set_option maxRecDepth 8000

theorem wet_sub {s : List Int} {a b : Int} (h : a ≤ b) : (wetL s b).Sublist (wetL s a) := by
  unfold wetL wetN
  refine List.Sublist.map _ ?_
  have : (List.range s.length).filter (fun i => decide (b < at_ s i)) = ((List.range s.length).filter (fun i => decide (a < at_ s i))).filter (fun i => decide (b < at_ s i)) := by
    rw [List.filter_filter]
    refine List.filter_congr fun i _ => ?_
    by_cases c : b < at_ s i
    · simp [c]; omega
    · simp [c]
  rw [this]
  exact List.filter_sublist
theorem wet_mem {s : List Int} {a x : Int} : x ∈ wetL s a ↔ ∃ i : Nat, i < s.length ∧ a < at_ s i ∧ x = (i : Int) := by
  unfold wetL wetN
  rw [List.mem_map]
  constructor
  · rintro ⟨i, hi, rfl⟩
    rw [List.mem_filter, List.mem_range] at hi
    exact ⟨i, hi.1, by simpa using hi.2, rfl⟩
  · rintro ⟨i, h1, h2, rfl⟩
    exact ⟨i, List.mem_filter.2 ⟨List.mem_range.2 h1, by simpa using h2⟩, rfl⟩
theorem wet_pair (s : List Int) (a : Int) : (wetL s a).Pairwise (· < ·) := by
  unfold wetL wetN
  rw [List.pairwise_map]
  refine (List.Pairwise.filter _ List.pairwise_lt_range).imp ?_
  intro x y h; omega
/-- The first wet hour: no hour before it is wet, and it is wet or the end. -/
theorem soonest_spec (s : List Int) (a : Int) : ∃ n : Nat, soonestL s a = n ∧ n ≤ s.length ∧ (∀ i, i < n → at_ s i ≤ a) ∧ (n < s.length → a < at_ s n) := by
  unfold soonestL
  cases hw : wetL s a with
  | nil =>
    refine ⟨s.length, by simp, Nat.le_refl _, fun i hi => ?_, fun h => by omega⟩
    by_cases c : a < at_ s i
    · have : (i : Int) ∈ wetL s a := wet_mem.2 ⟨i, hi, c, rfl⟩
      rw [hw] at this; cases this
    · omega
  | cons x r =>
    have hx : x ∈ wetL s a := by rw [hw]; simp
    obtain ⟨n, h1, h2, rfl⟩ := wet_mem.1 hx
    refine ⟨n, by simp [at_, List.getD], by omega, fun i hi => ?_, fun _ => h2⟩
    by_cases c : a < at_ s i
    · have hi2 : (i : Int) ∈ wetL s a := wet_mem.2 ⟨i, by omega, c, rfl⟩
      have hp := wet_pair s a
      rw [hw] at hi2 hp
      rcases List.mem_cons.1 hi2 with q | q
      · omega
      · have := (List.pairwise_cons.1 hp).1 _ q
        omega
    · omega
theorem soonest_mono {s : List Int} {a b : Int} (h : a ≤ b) : soonestL s a ≤ soonestL s b := by
  obtain ⟨n, h1, h2, h3, h4⟩ := soonest_spec s a
  obtain ⟨m, k1, k2, k3, k4⟩ := soonest_spec s b
  rw [h1, k1]
  by_cases c : n ≤ m
  · omega
  · have := h3 m (by omega)
    have := k4 (by omega)
    omega
theorem drop_atH {α : Type} [Inhabited α] {l : List α} {i : Nat} (h : i < l.length) : l.drop i = at_ l i :: l.drop (i + 1) := by
  rw [at_get h]; exact List.drop_eq_getElem_cons h
theorem TideHigher_true (t : Tb) (which low more : Int) (hw : InR .u16 which) (hlo : InR .u8 low) (hmo : InR .u8 more) : CallP Try.prog 7 [Enc.enc t, AV.int .u16 which, AV.int .u8 low, AV.int .u8 more] (· = Enc.enc true) := by
  have hw0 : 0 ≤ which := hw.1
  have hl0 : 0 ≤ low := hlo.1
  have hm0 : 0 ≤ more := hmo.1
  have hw1 : which ≤ 65535 := hw.2
  have hl1 : low ≤ 255 := hlo.2
  have hm1 : more ≤ 255 := hmo.2
  obtain ⟨a, ha⟩ : ∃ a, low % 100 = a := ⟨_, rfl⟩
  obtain ⟨b, hb⟩ : ∃ b, min 99 (a + more % 7) = b := ⟨_, rfl⟩
  have hab : a ≤ b := by omega
  obtain ⟨x, hx⟩ : ∃ x, (⟨t.last, t.heights, t.step, [a, b], t.marks⟩ : Tb) = x := ⟨_, rfl⟩
  have hxl : x.levels = [a, b] := by rw [← hx]
  cases c0 : (thinB x && decide (faultT x = 0))
  · simp only [enc_fnl, enc_fnb, enc_fnc, enc_refc, enc_arr, enc_int, enc_bool, enc_list, enc_rg, enc_mk, enc_tb]
    refine callP_of_vc (Φ := P51) Try.func7 rfl (by rfl) (by rw [Try.ntmps7]; simp) mixed P51_ok (by simp [AV.strip, Tk.strip]) ?_
    rw [Try.ntmps7]
    simp only [Try.f7, startSt, tmFrom]
    simp (maxSteps := 4000000) only [go_sem, AV.one, drawV, intsOf, keyIdx, over, putO, memAt, List.map_cons, List.length_cons, ↓reduceIte, snap_trues, imm_trues, enc_pair, enc_iterv, zdrop, one_i, one_b, one_sl, one_ptr, one_ref, one_nilp, one_mp, one_fn, one_nilf, ha, hb, hx, c0]
    all_goals (repeat' (first | with_reducible rfl | with_reducible apply And.intro | ((with_reducible show drawOK _ = true); rfl))) <;> (try first | omega | (simp only [InR]; omega) | with_reducible assumption)
  have c12 : thinB x = true ∧ faultT x = 0 := by simpa using c0
  obtain ⟨c1, c2⟩ := c12
  have hl := thin_len c1
  have hf := fok_of c2
  have hl9 := hf.l9
  have hll0 := hf.l0
  have hlen := hf.len
  have hv := hf.vok
  have hok := hv.hok
  have hmk := hv.mok
  have hpos : 0 < (listsL x).length := by
    rcases Nat.eq_zero_or_pos (listsL x).length with h | h
    · exact absurd (List.eq_nil_of_length_eq_zero h) hf.some
    · exact h
  obtain ⟨wn, ewn⟩ := Int.eq_ofNat_of_zero_le (Int.emod_nonneg which (show ((listsL x).length : Int) ≠ 0 by omega))
  have hwn := Int.emod_lt_of_pos which (show (0 : Int) < (listsL x).length by omega)
  rw [ewn] at hwn
  have hwn' : wn < (listsL x).length := by omega
  have hgs := getD_mapA (f := EncE.cs) hwn'
  have hsm := at_mem hwn'
  generalize at_ (listsL x) wn = s at hgs hsm
  have hso := (mem_lists hf s).1 hsm
  have hsl := hso.len
  have hll := listsL_len hok
  have hxlen : x.levels.length = 2 := by rw [hxl]; rfl
  have a0 : at_ x.levels 0 = a := by rw [hxl]; rfl
  have a1 : at_ x.levels 1 = b := by rw [hxl]; rfl
  have e1 : playQ x s = ([wetL s a, wetL s b], 0) := by
    unfold playQ
    rw [if_pos c2, if_pos ((listed_iff s).2 hso), hxl]; rfl
  have hsub := wet_sub (s := s) hab
  have hb0 := wetN_len s a s.length
  have hb1 := wetN_len s b s.length
  have hb0' : (wetL s a).length ≤ s.length := hb0
  have hb1' : (wetL s b).length ≤ s.length := hb1
  generalize wetL s a = w0 at e1 hsub hb0'
  generalize wetL s b = w1 at e1 hsub hb1'
  have hrch : ∃ r0 r1 : Rg, ∃ er : Int, rchQ x 0 = (r0, er) ∧ rchQ x 1 = (r1, er) ∧ ((er = 0 ∧ r0.lo ≤ r1.lo ∧ r0.hi ≤ r1.hi) ∨ er = 11) := by
    by_cases c4 : truthsL x = []
    · exact ⟨_, _, _, rch_dry c2 c4 (by omega) (by omega), rch_dry c2 c4 (by omega) (by omega), .inr rfl⟩
    · refine ⟨_, _, _, rch_ok c2 c4 (by omega) (by omega), rch_ok c2 c4 (by omega) (by omega), .inl ⟨rfl, ?_⟩⟩
      show (reachL (truthsL x) (at_ x.levels 0)).lo ≤ (reachL (truthsL x) (at_ x.levels 1)).lo ∧ (reachL (truthsL x) (at_ x.levels 0)).hi ≤ (reachL (truthsL x) (at_ x.levels 1)).hi
      rw [a0, a1]
      have h0 := reachL_isB hv c4 a
      have h1 := reachL_isB hv c4 b
      obtain ⟨p, hp, e⟩ := h1.lo
      obtain ⟨q, hq, e'⟩ := h0.hi
      have g1 := (h0.all _ ⟨p, hp, rfl⟩).1
      have g2 := (h1.all _ ⟨q, hq, rfl⟩).2
      have g3 := soonest_mono (s := p) hab
      have g4 := soonest_mono (s := q) hab
      omega
  obtain ⟨r0, r1, er, e2, e3, hr⟩ := hrch
  have hall : ∀ (i : Nat), i < w1.length → ((w1.map EncE.cs).getD i [] = [AV.int .i64 (at_ w1 i)]) := fun i hi => by rw [getD_mapA hi]; rfl
  have hall0 : ∀ (i : Nat), i < w0.length → ((w0.map EncE.cs).getD i [] = [AV.int .i64 (at_ w0 i)]) := fun i hi => by rw [getD_mapA hi]; rfl
  have hr' : ∃ b1 b2, decide (r1.lo < r0.lo) = b1 ∧ decide (r1.hi < r0.hi) = b2 ∧ ((er = 0 ∧ b1 = false ∧ b2 = false) ∨ er = 11) := by
    refine ⟨_, _, rfl, rfl, ?_⟩
    rcases hr with ⟨h1, h2, h3⟩ | h
    · exact .inl ⟨h1, by simp; omega, by simp; omega⟩
    · exact .inr h
  obtain ⟨b1, b2, d1, d2, hr'⟩ := hr'
  rcases hr' with ⟨rfl, rfl, rfl⟩ | rfl
  all_goals
    simp only [enc_fnl, enc_fnb, enc_fnc, enc_refc, enc_arr, enc_int, enc_bool, enc_list, enc_rg, enc_mk, enc_tb]
    refine callP_of_vc (Φ := P51) Try.func7 rfl (by rfl) (by rw [Try.ntmps7]; simp) mixed P51_ok (by simp [AV.strip, Tk.strip]) ?_
    rw [Try.ntmps7]
    simp only [Try.f7, startSt, tmFrom]
    simp (maxSteps := 4000000) only [go_sem, AV.one, drawV, intsOf, keyIdx, over, putO, memAt, List.map_cons, List.length_cons, ↓reduceIte, snap_trues, imm_trues, enc_pair, enc_iterv, zdrop, one_i, one_b, one_sl, one_ptr, one_ref, one_nilp, one_mp, one_fn, one_nilf, ha, hb, hx, c0, ewn, hgs, e1, e2, e3, d1, d2, Int.cast_ofNat_Int]
    all_goals (repeat' (first | with_reducible rfl | with_reducible apply And.intro | ((with_reducible show drawOK _ = true); rfl))) <;> (try first | omega | (simp only [InR]; omega) | with_reducible assumption)
    refine loopB [] [8, 11] (fun b : Nat × Nat => [(18, .int .i64 b.1), (17, .int .i64 b.2)]) (fun _ m => m) (fun b => b.1 ≤ w1.length ∧ (w1.drop b.1).Sublist (w0.drop b.2)) (fun b => w1.length - b.1) (((0, 0) : Nat × Nat)) ?_ ?_ ?_
    · exact ⟨Nat.zero_le _, by simpa using hsub⟩
    · simp [bel_ints, cs_arr, dep_arr, cs_int, cs_bool, cs_list, cs_rg, cs_mk, AtHead, Same, AllO, Begins, LtAll, headSt, tokz_nil, tokz_cons, tokz1, lk, dep_int, dep_bool, dep_list, dep_rg, dep_mk, memAt, bel_map, bel_mapF, bel_mapO, bel_undef, bel_int, bel_boolv, bel_nilp, bel_nilf, bel_ptr, bel_arr, bel_mp, bel_yld, bel_agg, bel_tup, bel_ref, bel_only, bel_mpr, bel_fn, bel_sl_nil, bel_sl_nilF, bel_sl_nilO, bel_sl_cons, bel_sl_app, belO_cells, belO_tok, belO_dead, belO_deferred, belO_map, belO_iter, belO_loop, -List.map_map]
    · rintro ⟨i, j⟩ ⟨hi, hij⟩
      simp only at hi hij
      by_cases c : i < w1.length
      · have hi' : ((i : Nat) : Int) < ((w1.length : Nat) : Int) := by omega
        have hg1 := hall i c
        simp (maxSteps := 4000000) only [go_sem, AV.one, drawV, intsOf, keyIdx, over, putO, memAt, List.map_cons, List.length_cons, ↓reduceIte, snap_trues, imm_trues, enc_pair, enc_iterv, zdrop, one_i, one_b, one_sl, one_ptr, one_ref, one_nilp, one_mp, one_fn, one_nilf, hi']
        all_goals (repeat' (first | with_reducible rfl | with_reducible apply And.intro | ((with_reducible show drawOK _ = true); rfl))) <;> (try first | omega | (simp only [InR]; omega) | with_reducible assumption)
        refine loopB [] [8, 11, 18, 104, 105, 106, 107, 108] (fun j : Nat => [(17, .int .i64 j)]) (fun _ m => m) (fun j => (w1.drop i).Sublist (w0.drop j)) (fun j => w0.length - j) (j) ?_ ?_ ?_
        · exact hij
        · simp [bel_ints, cs_arr, dep_arr, cs_int, cs_bool, cs_list, cs_rg, cs_mk, AtHead, Same, AllO, Begins, LtAll, headSt, tokz_nil, tokz_cons, tokz1, lk, dep_int, dep_bool, dep_list, dep_rg, dep_mk, memAt, bel_map, bel_mapF, bel_mapO, bel_undef, bel_int, bel_boolv, bel_nilp, bel_nilf, bel_ptr, bel_arr, bel_mp, bel_yld, bel_agg, bel_tup, bel_ref, bel_only, bel_mpr, bel_fn, bel_sl_nil, bel_sl_nilF, bel_sl_nilO, bel_sl_cons, bel_sl_app, belO_cells, belO_tok, belO_dead, belO_deferred, belO_map, belO_iter, belO_loop, -List.map_map]
        · intro k hk
          have hkl : k < w0.length := by
            by_cases q : k < w0.length
            · exact q
            · have e : w0.drop k = [] := List.drop_eq_nil_of_le (by omega)
              rw [e, drop_atH c] at hk
              cases hk
          have hk' : ((k : Nat) : Int) < ((w0.length : Nat) : Int) := by omega
          have hk2 : decide (((k : Nat) : Int) = ((w0.length : Nat) : Int)) = false := by simp; omega
          have hg0 := hall0 k hkl
          cases c2 : decide (at_ w0 k = at_ w1 i)
          · simp (maxSteps := 4000000) only [go_sem, AV.one, drawV, intsOf, keyIdx, over, putO, memAt, List.map_cons, List.length_cons, ↓reduceIte, snap_trues, imm_trues, enc_pair, enc_iterv, zdrop, one_i, one_b, one_sl, one_ptr, one_ref, one_nilp, one_mp, one_fn, one_nilf, hk', hi', hg0, hg1, c2]
            all_goals (repeat' (first | with_reducible rfl | with_reducible apply And.intro | ((with_reducible show drawOK _ = true); rfl))) <;> (try first | omega | (simp only [InR]; omega) | with_reducible assumption)
            refine ⟨k + 1, ?_, by omega, atHead_weak ?_⟩
            · rw [drop_atH c, drop_atH hkl] at hk
              rw [drop_atH c]
              simp only [decide_eq_false_iff_not] at c2
              rcases List.sublist_cons_iff.1 hk with g | ⟨r, g1, g2⟩
              · exact g
              · simp only [List.cons.injEq] at g1
                exact absurd g1.1.symm c2
            · simp [bel_ints, cs_arr, dep_arr, cs_int, cs_bool, cs_list, cs_rg, cs_mk, AtHead, Same, AllO, Begins, LtAll, headSt, tokz_nil, tokz_cons, tokz1, lk, dep_int, dep_bool, dep_list, dep_rg, dep_mk, memAt, bel_map, bel_mapF, bel_mapO, bel_undef, bel_int, bel_boolv, bel_nilp, bel_nilf, bel_ptr, bel_arr, bel_mp, bel_yld, bel_agg, bel_tup, bel_ref, bel_only, bel_mpr, bel_fn, bel_sl_nil, bel_sl_nilF, bel_sl_nilO, bel_sl_cons, bel_sl_app, belO_cells, belO_tok, belO_dead, belO_deferred, belO_map, belO_iter, belO_loop, -List.map_map]
          · simp (maxSteps := 4000000) only [go_sem, AV.one, drawV, intsOf, keyIdx, over, putO, memAt, List.map_cons, List.length_cons, ↓reduceIte, snap_trues, imm_trues, enc_pair, enc_iterv, zdrop, one_i, one_b, one_sl, one_ptr, one_ref, one_nilp, one_mp, one_fn, one_nilf, hk', hk2, hi', hg0, hg1, c2]
            all_goals (repeat' (first | with_reducible rfl | with_reducible apply And.intro | ((with_reducible show drawOK _ = true); rfl))) <;> (try first | omega | (simp only [InR]; omega) | with_reducible assumption)
            refine ⟨(i + 1, k), ⟨by simp only; omega, ?_⟩, by simp only; omega, atHead_weak ?_⟩
            · simp only
              rw [drop_atH c] at hk
              exact List.sublist_of_cons_sublist hk
            · simp [bel_ints, cs_arr, dep_arr, cs_int, cs_bool, cs_list, cs_rg, cs_mk, AtHead, Same, AllO, Begins, LtAll, headSt, tokz_nil, tokz_cons, tokz1, lk, dep_int, dep_bool, dep_list, dep_rg, dep_mk, memAt, bel_map, bel_mapF, bel_mapO, bel_undef, bel_int, bel_boolv, bel_nilp, bel_nilf, bel_ptr, bel_arr, bel_mp, bel_yld, bel_agg, bel_tup, bel_ref, bel_only, bel_mpr, bel_fn, bel_sl_nil, bel_sl_nilF, bel_sl_nilO, bel_sl_cons, bel_sl_app, belO_cells, belO_tok, belO_dead, belO_deferred, belO_map, belO_iter, belO_loop, -List.map_map]
      · have hi' : ¬ (((i : Nat) : Int) < ((w1.length : Nat) : Int)) := by omega
        simp (maxSteps := 4000000) only [go_sem, AV.one, drawV, intsOf, keyIdx, over, putO, memAt, List.map_cons, List.length_cons, ↓reduceIte, snap_trues, imm_trues, enc_pair, enc_iterv, zdrop, one_i, one_b, one_sl, one_ptr, one_ref, one_nilp, one_mp, one_fn, one_nilf, hi']
        all_goals (repeat' (first | with_reducible rfl | with_reducible apply And.intro | ((with_reducible show drawOK _ = true); rfl))) <;> (try first | omega | (simp only [InR]; omega) | with_reducible assumption)
end Go.Proofs
