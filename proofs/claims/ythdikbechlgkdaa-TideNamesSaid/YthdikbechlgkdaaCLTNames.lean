/- The law TideNames (printed by tools/mkn2.py). -/
import Derived.Test.YthdikbechlgkdaaG13
set_option linter.all false
namespace Go.Proofs
open Go.Fs
set_option linter.unusedSimpArgs false
set_option linter.unusedVariables false
set_option maxHeartbeats 4000000
set_option maxRecDepth 8000
/-! The table of the examples, as one that may be changed. -/
def P5241 : Specs := vecT [8, 13, 14] P48
theorem P5241_app (g : FuncId) (h : ¬ (g = 4000000000)) : P5241 g = P48 g := by unfold P5241 vecT; rw [if_neg h]
theorem P5241_ok : SpecsOk Try.prog P5241 := vecT_ok P48_ok
theorem P5241_flag (d : Nat) : flagOf P5241 (some d) = if d ∈ ([8, 13, 14] : List Nat) then some d else none := flagOf_vecT _ _ d
attribute [go_sem] P5241_app P5241_flag
def ThreeR (k : Nat) (mem : List AObj) (r : AV) (m : List AObj) : Prop :=
  (∃ o0, r = .agg [.int .i64 3, .vec (mem.length + 2) 1 0 4 2, .int .i64 4, .vec (mem.length + 3) 1 0 3 1, .vec (mem.length + 1) 1 0 k 4] ∧
    m = mem ++ [o0, .vec [[.int .i64 1, .int .i64 3, .int .i64 9, .int .i64 9], [.int .i64 3, .int .i64 3, .int .i64 4, .int .i64 4]] 4 1, .vec [[.int .i64 2, .int .i64 4], [.int .i64 5, .int .i64 6], [.int .i64 8, .int .i64 9], [.int .i64 4, .int .i64 5]] 2 1, .vec [[.int .i64 5], [.int .i64 3], [.int .i64 8]] 1 1]) ∧
  ∀ o ∈ m, belO m.length o
theorem threeX_call (k : Nat) (hk : k ≤ 2) {mem : List AObj} (hm : ∀ o ∈ mem, belO mem.length o) : CallX Try.prog 26 [.int .i64 k] mem (ThreeR k mem) := by
  unfold ThreeR
  obtain ⟨n0, hn0⟩ : ∃ n0, mem.length = n0 := ⟨_, rfl⟩
  rw [hn0] at hm
  have g0 : ∀ r, memAt (mem ++ r) n0 = memAt r 0 := fun r => by rw [← hn0]; exact memAt_app _ _ 0
  have gk : ∀ r k, memAt (mem ++ r) (n0 + k) = memAt r k := fun r k => by rw [← hn0]; exact memAt_app _ _ k
  have s0 : ∀ r o, (mem ++ r).set n0 o = mem ++ r.set 0 o := fun r o => by rw [← hn0]; exact set_app _ _ 0 _
  have sk : ∀ r k o, (mem ++ r).set (n0 + k) o = mem ++ r.set k o := fun r k o => by rw [← hn0]; exact set_app _ _ k _
  have hk' : (0 : Int) ≤ (k : Int) ∧ (k : Int) ≤ 2 := by omega
  rw [hn0]
  refine callX_of_vc (Φ := P5241) Try.func26 rfl (by rfl) (by rw [Try.ntmps26]; simp) mixed P5241_ok ?_
  rw [Try.ntmps26]
  simp only [Try.f26, startSt, tmFrom]
  iterate 2 (
    refine vc_seqK fun Q1 h1 => ?_
    simp (maxSteps := 4000000) only [go_sem, AV.one, drawV, intsOf, keyIdx, over, putO, List.map_cons, List.length_cons, ↓reduceIte, snap_trues, imm_trues, enc_pair, enc_iterv, zdrop, one_i, one_b, one_sl, one_ptr, one_ref, one_nilp, one_mp, one_fn, one_nilf, g0, gk, s0, sk, hn0, List.append_assoc, List.length_append]
    all_goals (repeat' (first | with_reducible rfl | with_reducible apply And.intro | ((with_reducible show drawOK _ _ = true); rfl))) <;> (try first | omega | (simp only [InR]; omega) | with_reducible assumption)
    rw [h1]; clear h1 Q1; simp only [thenA, vc_assoc])
  simp (maxSteps := 4000000) only [go_sem, AV.one, drawV, intsOf, keyIdx, over, putO, List.map_cons, List.length_cons, ↓reduceIte, snap_trues, imm_trues, enc_pair, enc_iterv, zdrop, one_i, one_b, one_sl, one_ptr, one_ref, one_nilp, one_mp, one_fn, one_nilf, g0, gk, s0, sk, hn0, List.append_assoc, List.length_append, Nat.add_assoc, Int.sub_zero, Int.toNat_natCast]
  all_goals (repeat' (first | with_reducible rfl | with_reducible apply And.intro | ((with_reducible show drawOK _ _ = true); rfl))) <;> (try first | omega | (simp only [InR]; omega) | with_reducible assumption)
  have htk : ∀ a b c d : AObj, List.take (n0 + 4) (mem ++ [a, b, c, d]) = mem ++ [a, b, c, d] := fun a b c d => List.take_of_length_le (by simp [hn0])
  refine ⟨n0 + 4, by omega, by omega, ?_, ?_, ?_⟩
  · rw [htk]
    refine ⟨⟨_, (by first | exact rfl | exact ⟨rfl, rfl⟩)⟩, ?_⟩
    rw [List.length_append, hn0]
    exact ok_app hm (by omega) (by simp [AV.bare, bel_ints, cs_arr, dep_arr, cs_int, cs_bool, cs_list, cs_rg, cs_mk, AtHead, Same, AllO, Begins, LtAll, headSt, tokz_nil, tokz_cons, tokz1, lk, dep_int, dep_bool, dep_list, dep_rg, dep_mk, memAt, bel_map, bel_mapF, bel_mapO, bel_undef, bel_int, bel_boolv, bel_nilp, bel_nilf, bel_ptr, bel_arr, bel_mp, bel_yld, bel_agg, bel_tup, bel_ref, bel_only, bel_mpr, bel_fn, bel_sl_nil, bel_sl_nilF, bel_sl_nilO, bel_sl_cons, bel_sl_app, belO_cells, belO_tok, belO_dead, belO_deferred, belO_map, belO_iter, belO_loop, bel_vec, bel_vp, belO_vecM, belO_vec])
  · simp [AV.bare, bel_ints, cs_arr, dep_arr, cs_int, cs_bool, cs_list, cs_rg, cs_mk, AtHead, Same, AllO, Begins, LtAll, headSt, tokz_nil, tokz_cons, tokz1, lk, dep_int, dep_bool, dep_list, dep_rg, dep_mk, memAt, bel_map, bel_mapF, bel_mapO, bel_undef, bel_int, bel_boolv, bel_nilp, bel_nilf, bel_ptr, bel_arr, bel_mp, bel_yld, bel_agg, bel_tup, bel_ref, bel_only, bel_mpr, bel_fn, bel_sl_nil, bel_sl_nilF, bel_sl_nilO, bel_sl_cons, bel_sl_app, belO_cells, belO_tok, belO_dead, belO_deferred, belO_map, belO_iter, belO_loop, bel_vec, bel_vp, belO_vecM, belO_vec]
  · rw [htk]
    exact ok_app hm (by omega) (by simp [AV.bare, bel_ints, cs_arr, dep_arr, cs_int, cs_bool, cs_list, cs_rg, cs_mk, AtHead, Same, AllO, Begins, LtAll, headSt, tokz_nil, tokz_cons, tokz1, lk, dep_int, dep_bool, dep_list, dep_rg, dep_mk, memAt, bel_map, bel_mapF, bel_mapO, bel_undef, bel_int, bel_boolv, bel_nilp, bel_nilf, bel_ptr, bel_arr, bel_mp, bel_yld, bel_agg, bel_tup, bel_ref, bel_only, bel_mpr, bel_fn, bel_sl_nil, bel_sl_nilF, bel_sl_nilO, bel_sl_cons, bel_sl_app, belO_cells, belO_tok, belO_dead, belO_deferred, belO_map, belO_iter, belO_loop, bel_vec, bel_vp, belO_vecM, belO_vec])
theorem en_n0 : wetQ (threeT 0) 0 0 = (2, 0) := by decide +kernel
theorem en_n1 : wetQ (threeT 0) 0 1 = (3, 0) := by decide +kernel
theorem en_n2 : wetQ (threeT 0) 0 2 = (1, 0) := by decide +kernel
theorem en_n3 : wetQ (threeT 0) 0 3 = (2, 0) := by decide +kernel
theorem en_n4 : bndQ (threeT 0) = ([⟨2, 4⟩, ⟨5, 6⟩, ⟨8, 9⟩, ⟨4, 5⟩], 0) := by decide +kernel
theorem en_n5 : rchQ (threeT 0) 0 = (⟨1, 2⟩, 0) := by decide +kernel
theorem en_n6 : rchQ (threeT 0) 1 = (⟨0, 1⟩, 0) := by decide +kernel
theorem en_n7 : dryQ (threeT 0) 0 1 = (6, 0) := by decide +kernel
theorem en_n8 : dryQ (threeT 0) 3 3 = (5, 0) := by decide +kernel
theorem en_n9 : leaveQ (threeT 1) = ([], 0) := by decide +kernel
theorem en_n10 : proveB (threeT 1) [3, 6, 9, 5] = true := by decide +kernel
theorem en_n11 : proveB (threeT 1) [3, 6, 8, 5] = false := by decide +kernel
theorem en_n12 : proveB (threeT 0) [3, 6, 9, 4] = false := by decide +kernel
theorem en_n13 : pdryQ (threeT 0) 0 1 6 = true := by decide +kernel
theorem en_n14 : pdryQ (threeT 0) 0 1 5 = false := by decide +kernel
theorem en_n15 : pdryQ (threeT 0) 1 0 9 = false := by decide +kernel
theorem en_n16 : playQ (threeT 0) [3, 6, 9, 4] = ([], 2) := by decide +kernel
theorem en_n17 : wetQ (threeT 2) 3 0 = (0, 2) := by decide +kernel
theorem en_n18 : rchQ (threeT 0) (-1) = (⟨0, 0⟩, 2) := by decide +kernel
theorem en_n19 : dryQ (threeT 0) 2 1 = (0, 2) := by decide +kernel
theorem en_n20 : bndQ (threeT 2) = ([], 11) := by decide +kernel
theorem en_n21 : firstQ (threeT 1) = (0, 7) := by decide +kernel
theorem en_n22 : faultT ⟨10, (threeT 0).heights, (threeT 0).step, (threeT 0).levels, (threeT 0).marks⟩ = 3 := by decide +kernel
theorem en_n23 : faultT ⟨(threeT 0).last, (threeT 0).heights, (-1), (threeT 0).levels, (threeT 0).marks⟩ = 1 := by decide +kernel
theorem en_n24 : faultT ⟨(threeT 0).last, (threeT 0).heights, (threeT 0).step, (threeT 0).levels, [⟨0, 0, ⟨0, 0⟩⟩, ⟨0, 0, ⟨0, 0⟩⟩, ⟨0, 0, ⟨0, 0⟩⟩, ⟨0, 0, ⟨0, 0⟩⟩, ⟨0, 0, ⟨0, 0⟩⟩, ⟨0, 0, ⟨0, 0⟩⟩]⟩ = 3 := by decide +kernel
theorem en_n25 : faultT ⟨(threeT 0).last, (threeT 0).heights, 0, (threeT 0).levels, (threeT 0).marks⟩ = 9 := by decide +kernel
theorem en_m1 : faultT ⟨3, [⟨0, 100⟩, ⟨5, 6⟩, ⟨8, 9⟩, ⟨4, 5⟩], 4, [5, 3, 8], []⟩ = 1 := by decide +kernel
theorem en_m2 : faultT ⟨3, [⟨2, 4⟩, ⟨5, 6⟩, ⟨8, 9⟩, ⟨4, 5⟩], 4, [100, 3, 8], []⟩ = 1 := by decide +kernel
theorem en_m3 : faultT ⟨3, [⟨2, 4⟩, ⟨5, 6⟩, ⟨8, 9⟩, ⟨4, 5⟩], 4, [5, 3, 8], [⟨4, 3, ⟨9, 9⟩⟩]⟩ = 1 := by decide +kernel
theorem en_m4 : faultT ⟨3, [⟨0, 49⟩, ⟨0, 10⟩, ⟨8, 9⟩, ⟨4, 5⟩], 4, [5, 3, 8], []⟩ = 3 := by decide +kernel
theorem en_m5 : faultT ⟨0, [], 0, [], []⟩ = 1 := by decide +kernel
theorem three_lens (k : Nat) : (threeT k).heights.length = 4 ∧ (threeT k).levels.length = 3 ∧ (threeT k).marks.length ≤ 2 := ⟨rfl, rfl, by simp [threeT]; omega⟩
def PW9 (T : Int → Tb) : Specs := addSpec 26 (spec1 (fun k : Int => k = 0 ∨ k = 1 ∨ k = 2) T) P50
theorem PW9_app (T : Int → Tb) (g : FuncId) : PW9 T g = (addSpec 26 (spec1 (fun k : Int => k = 0 ∨ k = 1 ∨ k = 2) T) P50) g := rfl
theorem PW9_ok {T : Int → Tb} (h : ∀ k : Int, (k = 0 ∨ k = 1 ∨ k = 2) → CallP Try.prog 26 [Enc.enc k] (· = Enc.enc (T k))) : SpecsOk Try.prog (PW9 T) := addSpec_ok (spec1_ok h) P50_ok
def PN9 (T : Int → Tb) : Specs := vecT [214, 216, 217, 220, 1000030] (PW9 T)
theorem PN9_ok {T : Int → Tb} (h : ∀ k : Int, (k = 0 ∨ k = 1 ∨ k = 2) → CallP Try.prog 26 [Enc.enc k] (· = Enc.enc (T k))) : SpecsOk Try.prog (PN9 T) := vecT_ok (PW9_ok h)
theorem PN9_app (T : Int → Tb) (g : FuncId) (h : ¬ (g = 4000000000)) : PN9 T g = PW9 T g := by unfold PN9 vecT; rw [if_neg h]
theorem PN9_flag (T : Int → Tb) (d : Nat) : flagOf (PN9 T) (some d) = if d ∈ ([214, 216, 217, 220, 1000030] : List Nat) then some d else none := flagOf_vecT _ _ d
attribute [go_sem] PN9_app PN9_flag
theorem names_gen (T : Int → Tb) (h : ∀ k : Int, (k = 0 ∨ k = 1 ∨ k = 2) → CallP Try.prog 26 [Enc.enc k] (· = Enc.enc (T k))) (hT : ∀ k : Int, (T k).heights.length = 4 ∧ (T k).levels.length = 3 ∧ (T k).marks.length ≤ 2)
    (n0 : wetQ (T 0) 0 0 = (2, 0)) (n1 : wetQ (T 0) 0 1 = (3, 0)) (n2 : wetQ (T 0) 0 2 = (1, 0)) (n3 : wetQ (T 0) 0 3 = (2, 0)) (n4 : bndQ (T 0) = ([⟨2, 4⟩, ⟨5, 6⟩, ⟨8, 9⟩, ⟨4, 5⟩], 0)) (n5 : rchQ (T 0) 0 = (⟨1, 2⟩, 0)) (n6 : rchQ (T 0) 1 = (⟨0, 1⟩, 0)) (n7 : dryQ (T 0) 0 1 = (6, 0)) (n8 : dryQ (T 0) 3 3 = (5, 0)) (n9 : leaveQ (T 1) = ([], 0)) (n10 : proveB (T 1) [3, 6, 9, 5] = true) (n11 : proveB (T 1) [3, 6, 8, 5] = false) (n12 : proveB (T 0) [3, 6, 9, 4] = false) (n13 : pdryQ (T 0) 0 1 6 = true) (n14 : pdryQ (T 0) 0 1 5 = false) (n15 : pdryQ (T 0) 1 0 9 = false) (n16 : playQ (T 0) [3, 6, 9, 4] = ([], 2)) (n17 : wetQ (T 2) 3 0 = (0, 2)) (n18 : rchQ (T 0) (-1) = (⟨0, 0⟩, 2)) (n19 : dryQ (T 0) 2 1 = (0, 2)) (n20 : bndQ (T 2) = ([], 11)) (n21 : firstQ (T 1) = (0, 7)) (n22 : faultT ⟨10, (T 0).heights, (T 0).step, (T 0).levels, (T 0).marks⟩ = 3) (n23 : faultT ⟨(T 0).last, (T 0).heights, (-1), (T 0).levels, (T 0).marks⟩ = 1) (n24 : faultT ⟨(T 0).last, (T 0).heights, (T 0).step, (T 0).levels, [⟨0, 0, ⟨0, 0⟩⟩, ⟨0, 0, ⟨0, 0⟩⟩, ⟨0, 0, ⟨0, 0⟩⟩, ⟨0, 0, ⟨0, 0⟩⟩, ⟨0, 0, ⟨0, 0⟩⟩, ⟨0, 0, ⟨0, 0⟩⟩]⟩ = 3) (n25 : faultT ⟨(T 0).last, (T 0).heights, 0, (T 0).levels, (T 0).marks⟩ = 9) (m1 : faultT ⟨3, [⟨0, 100⟩, ⟨5, 6⟩, ⟨8, 9⟩, ⟨4, 5⟩], 4, [5, 3, 8], []⟩ = 1) (m2 : faultT ⟨3, [⟨2, 4⟩, ⟨5, 6⟩, ⟨8, 9⟩, ⟨4, 5⟩], 4, [100, 3, 8], []⟩ = 1) (m3 : faultT ⟨3, [⟨2, 4⟩, ⟨5, 6⟩, ⟨8, 9⟩, ⟨4, 5⟩], 4, [5, 3, 8], [⟨4, 3, ⟨9, 9⟩⟩]⟩ = 1) (m4 : faultT ⟨3, [⟨0, 49⟩, ⟨0, 10⟩, ⟨8, 9⟩, ⟨4, 5⟩], 4, [5, 3, 8], []⟩ = 3) (m5 : faultT ⟨0, [], 0, [], []⟩ = 1) : CallP Try.prog 6 [] (· = Enc.enc true) := by
  have h0 := hT 0
  have t1' := hT 1
  have t2' := hT 2
  clear hT
  simp only [enc_bool]
  refine callP_of_vc (Φ := PN9 T) Try.func6 rfl (by rfl) (by rw [Try.ntmps6]; simp) mixed (PN9_ok h) (by simp [AV.strip, AV.strip1, Tk.strip]) ?_
  rw [Try.ntmps6]
  simp only [Try.f6, startSt, tmFrom]
  iterate 3 (
    refine vc_seqK fun Q1 h1 => ?_
    simp (maxSteps := 4000000) only [go_sem, AV.one, drawV, intsOf, keyIdx, over, putO, memAt, List.map_cons, List.length_cons, ↓reduceIte, snap_trues, imm_trues, enc_pair, enc_iterv, zdrop, one_i, one_b, one_sl, one_ptr, one_ref, one_nilp, one_mp, one_fn, one_nilf, PW9_app]
    all_goals (repeat' (first | with_reducible rfl | with_reducible apply And.intro | ((with_reducible show drawOK _ _ = true); rfl))) <;> (try first | omega | (simp only [InR]; omega) | with_reducible assumption)
    rw [h1]; clear h1 Q1; simp only [thenA, vc_assoc])
  refine loopN (4) [] [0, 1] (fun i => [(2, .int .i64 i)]) (fun _ m => m) (fun _ => True) ?_ ?_ ?_ ?_
  · trivial
  · simp [AV.bare, bel_ints, cs_arr, dep_arr, cs_int, cs_bool, cs_list, cs_rg, cs_mk, AtHead, Same, AllO, Begins, LtAll, headSt, tokz_nil, tokz_cons, tokz1, lk, dep_int, dep_bool, dep_list, dep_rg, dep_mk, memAt, bel_map, bel_mapF, bel_mapO, bel_undef, bel_int, bel_boolv, bel_nilp, bel_nilf, bel_ptr, bel_arr, bel_mp, bel_yld, bel_agg, bel_tup, bel_ref, bel_only, bel_mpr, bel_fn, bel_sl_nil, bel_sl_nilF, bel_sl_nilO, bel_sl_cons, bel_sl_app, belO_cells, belO_tok, belO_dead, belO_deferred, belO_map, belO_iter, belO_loop, bel_vec, bel_vp, belO_vecM, belO_vec, -List.map_map]
  · intro i hi _
    rcases (by omega : i = 0 ∨ i = 1 ∨ i = 2 ∨ i = 3) with rfl | rfl | rfl | rfl
    all_goals
      simp (maxSteps := 4000000) only [go_sem, AV.one, drawV, intsOf, keyIdx, over, putO, memAt, List.map_cons, List.length_cons, ↓reduceIte, snap_trues, imm_trues, enc_pair, enc_iterv, zdrop, one_i, one_b, one_sl, one_ptr, one_ref, one_nilp, one_mp, one_fn, one_nilf, PW9_app, n0, n1, n2, n3, decide_true, decide_false, Int.cast_ofNat_Int, bne_self_eq_false]
      all_goals (repeat' (first | with_reducible rfl | with_reducible apply And.intro | ((with_reducible show drawOK _ _ = true); rfl))) <;> (try first | omega | (simp only [InR]; omega) | with_reducible assumption)
      refine nxt hi trivial ?_
      simp [AV.bare, bel_ints, cs_arr, dep_arr, cs_int, cs_bool, cs_list, cs_rg, cs_mk, AtHead, Same, AllO, Begins, LtAll, headSt, tokz_nil, tokz_cons, tokz1, lk, dep_int, dep_bool, dep_list, dep_rg, dep_mk, memAt, bel_map, bel_mapF, bel_mapO, bel_undef, bel_int, bel_boolv, bel_nilp, bel_nilf, bel_ptr, bel_arr, bel_mp, bel_yld, bel_agg, bel_tup, bel_ref, bel_only, bel_mpr, bel_fn, bel_sl_nil, bel_sl_nilF, bel_sl_nilO, bel_sl_cons, bel_sl_app, belO_cells, belO_tok, belO_dead, belO_deferred, belO_map, belO_iter, belO_loop, bel_vec, bel_vp, belO_vecM, belO_vec, -List.map_map]
  · intro _
    refine vc_seqK fun Q1 h1 => ?_
    simp (maxSteps := 4000000) only [go_sem, AV.one, drawV, intsOf, keyIdx, over, putO, memAt, List.map_cons, List.length_cons, ↓reduceIte, snap_trues, imm_trues, enc_pair, enc_iterv, zdrop, one_i, one_b, one_sl, one_ptr, one_ref, one_nilp, one_mp, one_fn, one_nilf, PW9_app, decide_true, decide_false, Int.cast_ofNat_Int, bne_self_eq_false]
    all_goals (repeat' (first | with_reducible rfl | with_reducible apply And.intro | ((with_reducible show drawOK _ _ = true); rfl))) <;> (try first | omega | (simp only [InR]; omega) | with_reducible assumption)
    rw [h1]; clear h1 Q1; simp only [thenA, vc_assoc]
    refine vc_seqK fun Q1 h1 => ?_
    simp (maxSteps := 4000000) only [go_sem, AV.one, drawV, intsOf, keyIdx, over, putO, memAt, List.map_cons, List.length_cons, ↓reduceIte, snap_trues, imm_trues, enc_pair, enc_iterv, zdrop, one_i, one_b, one_sl, one_ptr, one_ref, one_nilp, one_mp, one_fn, one_nilf, PW9_app, n4]
    all_goals (repeat' (first | with_reducible rfl | with_reducible apply And.intro | ((with_reducible show drawOK _ _ = true); rfl))) <;> (try first | omega | (simp only [InR]; omega) | with_reducible assumption)
    rw [h1]; clear h1 Q1; simp only [thenA, vc_assoc]
    refine vc_seqK fun Q1 h1 => ?_
    simp (maxSteps := 4000000) only [go_sem, AV.one, drawV, intsOf, keyIdx, over, putO, memAt, List.map_cons, List.length_cons, ↓reduceIte, snap_trues, imm_trues, enc_pair, enc_iterv, zdrop, one_i, one_b, one_sl, one_ptr, one_ref, one_nilp, one_mp, one_fn, one_nilf, PW9_app, n5]
    all_goals (repeat' (first | with_reducible rfl | with_reducible apply And.intro | ((with_reducible show drawOK _ _ = true); rfl))) <;> (try first | omega | (simp only [InR]; omega) | with_reducible assumption)
    rw [h1]; clear h1 Q1; simp only [thenA, vc_assoc]
    refine vc_seqK fun Q1 h1 => ?_
    simp (maxSteps := 4000000) only [go_sem, AV.one, drawV, intsOf, keyIdx, over, putO, memAt, List.map_cons, List.length_cons, ↓reduceIte, snap_trues, imm_trues, enc_pair, enc_iterv, zdrop, one_i, one_b, one_sl, one_ptr, one_ref, one_nilp, one_mp, one_fn, one_nilf, PW9_app, n6]
    all_goals (repeat' (first | with_reducible rfl | with_reducible apply And.intro | ((with_reducible show drawOK _ _ = true); rfl))) <;> (try first | omega | (simp only [InR]; omega) | with_reducible assumption)
    rw [h1]; clear h1 Q1; simp only [thenA, vc_assoc]
    refine vc_seqK fun Q1 h1 => ?_
    simp (maxSteps := 4000000) only [go_sem, AV.one, drawV, intsOf, keyIdx, over, putO, memAt, List.map_cons, List.length_cons, ↓reduceIte, snap_trues, imm_trues, enc_pair, enc_iterv, zdrop, one_i, one_b, one_sl, one_ptr, one_ref, one_nilp, one_mp, one_fn, one_nilf, PW9_app, n7]
    all_goals (repeat' (first | with_reducible rfl | with_reducible apply And.intro | ((with_reducible show drawOK _ _ = true); rfl))) <;> (try first | omega | (simp only [InR]; omega) | with_reducible assumption)
    rw [h1]; clear h1 Q1; simp only [thenA, vc_assoc]
    refine vc_seqK fun Q1 h1 => ?_
    simp (maxSteps := 4000000) only [go_sem, AV.one, drawV, intsOf, keyIdx, over, putO, memAt, List.map_cons, List.length_cons, ↓reduceIte, snap_trues, imm_trues, enc_pair, enc_iterv, zdrop, one_i, one_b, one_sl, one_ptr, one_ref, one_nilp, one_mp, one_fn, one_nilf, PW9_app, n8]
    all_goals (repeat' (first | with_reducible rfl | with_reducible apply And.intro | ((with_reducible show drawOK _ _ = true); rfl))) <;> (try first | omega | (simp only [InR]; omega) | with_reducible assumption)
    rw [h1]; clear h1 Q1; simp only [thenA, vc_assoc]
    refine vc_seqK fun Q1 h1 => ?_
    simp (maxSteps := 4000000) only [go_sem, AV.one, drawV, intsOf, keyIdx, over, putO, memAt, List.map_cons, List.length_cons, ↓reduceIte, snap_trues, imm_trues, enc_pair, enc_iterv, zdrop, one_i, one_b, one_sl, one_ptr, one_ref, one_nilp, one_mp, one_fn, one_nilf, PW9_app, n9]
    all_goals (repeat' (first | with_reducible rfl | with_reducible apply And.intro | ((with_reducible show drawOK _ _ = true); rfl))) <;> (try first | omega | (simp only [InR]; omega) | with_reducible assumption)
    rw [h1]; clear h1 Q1; simp only [thenA, vc_assoc]
    refine vc_seqK fun Q1 h1 => ?_
    simp (maxSteps := 4000000) only [go_sem, AV.one, drawV, intsOf, keyIdx, over, putO, memAt, List.map_cons, List.length_cons, ↓reduceIte, snap_trues, imm_trues, enc_pair, enc_iterv, zdrop, one_i, one_b, one_sl, one_ptr, one_ref, one_nilp, one_mp, one_fn, one_nilf, PW9_app, List.append_eq, n10, n11, n12, n13, n14, n15, decide_true, decide_false, Int.cast_ofNat_Int, bne_self_eq_false]
    all_goals (repeat' (first | with_reducible rfl | with_reducible apply And.intro | ((with_reducible show drawOK _ _ = true); rfl))) <;> (try first | omega | (simp only [InR]; omega) | with_reducible assumption)
    rw [h1]; clear h1 Q1; simp only [thenA, vc_assoc]
    refine vc_seqK fun Q1 h1 => ?_
    simp (maxSteps := 4000000) only [go_sem, AV.one, drawV, intsOf, keyIdx, over, putO, memAt, List.map_cons, List.length_cons, ↓reduceIte, snap_trues, imm_trues, enc_pair, enc_iterv, zdrop, one_i, one_b, one_sl, one_ptr, one_ref, one_nilp, one_mp, one_fn, one_nilf, PW9_app, decide_true, decide_false, Int.cast_ofNat_Int, bne_self_eq_false]
    all_goals (repeat' (first | with_reducible rfl | with_reducible apply And.intro | ((with_reducible show drawOK _ _ = true); rfl))) <;> (try first | omega | (simp only [InR]; omega) | with_reducible assumption)
    rw [h1]; clear h1 Q1; simp only [thenA, vc_assoc]
    refine vc_seqK fun Q1 h1 => ?_
    simp (maxSteps := 4000000) only [go_sem, AV.one, drawV, intsOf, keyIdx, over, putO, memAt, List.map_cons, List.length_cons, ↓reduceIte, snap_trues, imm_trues, enc_pair, enc_iterv, zdrop, one_i, one_b, one_sl, one_ptr, one_ref, one_nilp, one_mp, one_fn, one_nilf, PW9_app, n16]
    all_goals (repeat' (first | with_reducible rfl | with_reducible apply And.intro | ((with_reducible show drawOK _ _ = true); rfl))) <;> (try first | omega | (simp only [InR]; omega) | with_reducible assumption)
    rw [h1]; clear h1 Q1; simp only [thenA, vc_assoc]
    refine vc_seqK fun Q1 h1 => ?_
    simp (maxSteps := 4000000) only [go_sem, AV.one, drawV, intsOf, keyIdx, over, putO, memAt, List.map_cons, List.length_cons, ↓reduceIte, snap_trues, imm_trues, enc_pair, enc_iterv, zdrop, one_i, one_b, one_sl, one_ptr, one_ref, one_nilp, one_mp, one_fn, one_nilf, PW9_app, n17]
    all_goals (repeat' (first | with_reducible rfl | with_reducible apply And.intro | ((with_reducible show drawOK _ _ = true); rfl))) <;> (try first | omega | (simp only [InR]; omega) | with_reducible assumption)
    rw [h1]; clear h1 Q1; simp only [thenA, vc_assoc]
    refine vc_seqK fun Q1 h1 => ?_
    simp (maxSteps := 4000000) only [go_sem, AV.one, drawV, intsOf, keyIdx, over, putO, memAt, List.map_cons, List.length_cons, ↓reduceIte, snap_trues, imm_trues, enc_pair, enc_iterv, zdrop, one_i, one_b, one_sl, one_ptr, one_ref, one_nilp, one_mp, one_fn, one_nilf, PW9_app, n18]
    all_goals (repeat' (first | with_reducible rfl | with_reducible apply And.intro | ((with_reducible show drawOK _ _ = true); rfl))) <;> (try first | omega | (simp only [InR]; omega) | with_reducible assumption)
    rw [h1]; clear h1 Q1; simp only [thenA, vc_assoc]
    refine vc_seqK fun Q1 h1 => ?_
    simp (maxSteps := 4000000) only [go_sem, AV.one, drawV, intsOf, keyIdx, over, putO, memAt, List.map_cons, List.length_cons, ↓reduceIte, snap_trues, imm_trues, enc_pair, enc_iterv, zdrop, one_i, one_b, one_sl, one_ptr, one_ref, one_nilp, one_mp, one_fn, one_nilf, PW9_app, n19]
    all_goals (repeat' (first | with_reducible rfl | with_reducible apply And.intro | ((with_reducible show drawOK _ _ = true); rfl))) <;> (try first | omega | (simp only [InR]; omega) | with_reducible assumption)
    rw [h1]; clear h1 Q1; simp only [thenA, vc_assoc]
    refine vc_seqK fun Q1 h1 => ?_
    simp (maxSteps := 4000000) only [go_sem, AV.one, drawV, intsOf, keyIdx, over, putO, memAt, List.map_cons, List.length_cons, ↓reduceIte, snap_trues, imm_trues, enc_pair, enc_iterv, zdrop, one_i, one_b, one_sl, one_ptr, one_ref, one_nilp, one_mp, one_fn, one_nilf, PW9_app, n20]
    all_goals (repeat' (first | with_reducible rfl | with_reducible apply And.intro | ((with_reducible show drawOK _ _ = true); rfl))) <;> (try first | omega | (simp only [InR]; omega) | with_reducible assumption)
    rw [h1]; clear h1 Q1; simp only [thenA, vc_assoc]
    refine vc_seqK fun Q1 h1 => ?_
    simp (maxSteps := 4000000) only [go_sem, AV.one, drawV, intsOf, keyIdx, over, putO, memAt, List.map_cons, List.length_cons, ↓reduceIte, snap_trues, imm_trues, enc_pair, enc_iterv, zdrop, one_i, one_b, one_sl, one_ptr, one_ref, one_nilp, one_mp, one_fn, one_nilf, PW9_app, n21]
    all_goals (repeat' (first | with_reducible rfl | with_reducible apply And.intro | ((with_reducible show drawOK _ _ = true); rfl))) <;> (try first | omega | (simp only [InR]; omega) | with_reducible assumption)
    rw [h1]; clear h1 Q1; simp only [thenA, vc_assoc]
    refine vc_seqK fun Q1 h1 => ?_
    simp (maxSteps := 4000000) only [go_sem, AV.one, drawV, intsOf, keyIdx, over, putO, memAt, List.map_cons, List.length_cons, ↓reduceIte, snap_trues, imm_trues, enc_pair, enc_iterv, zdrop, one_i, one_b, one_sl, one_ptr, one_ref, one_nilp, one_mp, one_fn, one_nilf, PW9_app]
    all_goals (repeat' (first | with_reducible rfl | with_reducible apply And.intro | ((with_reducible show drawOK _ _ = true); rfl))) <;> (try first | omega | (simp only [InR]; omega) | with_reducible assumption)
    refine ⟨_, threeX_call 0 (by decide) ?_, ?_⟩
    · simp [AV.bare, bel_ints, cs_arr, dep_arr, cs_int, cs_bool, cs_list, cs_rg, cs_mk, AtHead, Same, AllO, Begins, LtAll, headSt, tokz_nil, tokz_cons, tokz1, lk, dep_int, dep_bool, dep_list, dep_rg, dep_mk, memAt, bel_map, bel_mapF, bel_mapO, bel_undef, bel_int, bel_boolv, bel_nilp, bel_nilf, bel_ptr, bel_arr, bel_mp, bel_yld, bel_agg, bel_tup, bel_ref, bel_only, bel_mpr, bel_fn, bel_sl_nil, bel_sl_nilF, bel_sl_nilO, bel_sl_cons, bel_sl_app, belO_cells, belO_tok, belO_dead, belO_deferred, belO_map, belO_iter, belO_loop, bel_vec, bel_vp, belO_vecM, belO_vec]
    rintro r m ⟨⟨o0, rfl, rfl⟩, hb⟩ _
    simp (maxSteps := 4000000) only [go_sem, AV.one, drawV, intsOf, keyIdx, over, putO, memAt, List.map_cons, List.length_cons, ↓reduceIte, snap_trues, imm_trues, enc_pair, enc_iterv, zdrop, one_i, one_b, one_sl, one_ptr, one_ref, one_nilp, one_mp, one_fn, one_nilf, PW9_app]
    all_goals (repeat' (first | with_reducible rfl | with_reducible apply And.intro | ((with_reducible show drawOK _ _ = true); rfl))) <;> (try first | omega | (simp only [InR]; omega) | with_reducible assumption)
    refine ⟨_, threeX_call 0 (by decide) hb, ?_⟩
    rintro r m ⟨⟨o1, rfl, rfl⟩, hb2⟩ _
    simp (maxSteps := 4000000) only [go_sem, AV.one, drawV, intsOf, keyIdx, over, putO, memAt, List.map_cons, List.length_cons, ↓reduceIte, snap_trues, imm_trues, enc_pair, enc_iterv, zdrop, one_i, one_b, one_sl, one_ptr, one_ref, one_nilp, one_mp, one_fn, one_nilf, PW9_app]
    all_goals (repeat' (first | with_reducible rfl | with_reducible apply And.intro | ((with_reducible show drawOK _ _ = true); rfl))) <;> (try first | omega | (simp only [InR]; omega) | with_reducible assumption)
    refine ⟨_, threeX_call 1 (by decide) hb2, ?_⟩
    rintro r m ⟨⟨o2, rfl, rfl⟩, hb3⟩ _
    simp (maxSteps := 4000000) only [go_sem, AV.one, drawV, intsOf, keyIdx, over, putO, memAt, List.map_cons, List.length_cons, ↓reduceIte, snap_trues, imm_trues, enc_pair, enc_iterv, zdrop, one_i, one_b, one_sl, one_ptr, one_ref, one_nilp, one_mp, one_fn, one_nilf, PW9_app]
    all_goals (repeat' (first | with_reducible rfl | with_reducible apply And.intro | ((with_reducible show drawOK _ _ = true); rfl))) <;> (try first | omega | (simp only [InR]; omega) | with_reducible assumption)
    refine ⟨_, threeX_call 0 (by decide) hb3, ?_⟩
    rintro r m ⟨⟨o3, rfl, rfl⟩, hb4⟩ _
    simp (maxSteps := 4000000) only [go_sem, AV.one, drawV, intsOf, keyIdx, over, putO, memAt, List.map_cons, List.length_cons, ↓reduceIte, snap_trues, imm_trues, enc_pair, enc_iterv, zdrop, one_i, one_b, one_sl, one_ptr, one_ref, one_nilp, one_mp, one_fn, one_nilf, PW9_app]
    all_goals (repeat' (first | with_reducible rfl | with_reducible apply And.intro | ((with_reducible show drawOK _ _ = true); rfl))) <;> (try first | omega | (simp only [InR]; omega) | with_reducible assumption)
    rw [h1]; clear h1 Q1; simp only [thenA, vc_assoc]
    clear hb hb2 hb3 hb4
    iterate 7 (
      refine vc_seqK fun Q1 h1 => ?_
      simp (maxSteps := 4000000) only [go_sem, AV.one, drawV, intsOf, keyIdx, over, putO, memAt, List.map_cons, List.length_cons, ↓reduceIte, snap_trues, imm_trues, enc_pair, enc_iterv, zdrop, one_i, one_b, one_sl, one_ptr, one_ref, one_nilp, one_mp, one_fn, one_nilf, PW9_app]
      all_goals (repeat' (first | with_reducible rfl | with_reducible apply And.intro | ((with_reducible show drawOK _ _ = true); rfl))) <;> (try first | omega | (simp only [InR]; omega) | with_reducible assumption)
      rw [h1]; clear h1 Q1; simp only [thenA, vc_assoc])
    refine vc_seqK fun Q1 h1 => ?_
    simp (maxSteps := 4000000) only [go_sem, AV.one, drawV, intsOf, keyIdx, over, putO, memAt, List.map_cons, List.length_cons, ↓reduceIte, snap_trues, imm_trues, enc_pair, enc_iterv, zdrop, one_i, one_b, one_sl, one_ptr, one_ref, one_nilp, one_mp, one_fn, one_nilf, PW9_app]
    all_goals (repeat' (first | with_reducible rfl | with_reducible apply And.intro | ((with_reducible show drawOK _ _ = true); rfl))) <;> (try first | omega | (simp only [InR]; omega) | with_reducible assumption)
    refine ⟨10, by rfl, ?_⟩
    simp (maxSteps := 4000000) only [go_sem, AV.one, drawV, intsOf, keyIdx, over, putO, memAt, List.map_cons, List.length_cons, ↓reduceIte, snap_trues, imm_trues, enc_pair, enc_iterv, zdrop, one_i, one_b, one_sl, one_ptr, one_ref, one_nilp, one_mp, one_fn, one_nilf, PW9_app, (show Nat.testBit 10 399 = false from rfl), Bool.false_and, Bool.true_and, Bool.false_eq_true, (show Nat.testBit 10 200 = false from rfl), (show ∀ m, hideM false m = m from fun _ => rfl), memAt_hide, hideM_length, hideO, drawF, vcFr, Go.Fs.freeR, effL, apart, objOf, List.all_cons, List.all_nil, List.contains_cons, List.contains_nil, Nat.reduceBEq, Bool.or_self, (show Nat.testBit 10 0 = false from rfl), (show Nat.testBit 10 1 = true from rfl), (show Nat.testBit 10 2 = false from rfl), (show Nat.testBit 10 3 = true from rfl), (show Nat.testBit 10 4 = false from rfl), (show Nat.testBit 10 5 = false from rfl), (show Nat.testBit 10 6 = false from rfl), (show Nat.testBit 10 7 = false from rfl), (show Nat.testBit 10 8 = false from rfl), (show Nat.testBit 10 9 = false from rfl)]
    all_goals (repeat' (first | with_reducible rfl | with_reducible apply And.intro | ((with_reducible show drawOK _ _ = true); rfl))) <;> (try first | omega | (simp only [InR]; omega) | with_reducible assumption)
    rw [h1]; clear h1 Q1; simp only [thenA, vc_assoc]
    simp (maxSteps := 4000000) only [go_sem, AV.one, drawV, intsOf, keyIdx, over, putO, memAt, List.map_cons, List.length_cons, ↓reduceIte, snap_trues, imm_trues, enc_pair, enc_iterv, zdrop, one_i, one_b, one_sl, one_ptr, one_ref, one_nilp, one_mp, one_fn, one_nilf, PW9_app, List.append_eq, n22, n23, n24, n25, m1, m2, m3, m4, m5, decide_true, decide_false, Int.cast_ofNat_Int, bne_self_eq_false]
    all_goals (repeat' (first | with_reducible rfl | with_reducible apply And.intro | ((with_reducible show drawOK _ _ = true); rfl))) <;> (try first | omega | (simp only [InR]; omega) | with_reducible assumption)
theorem TideNames_true : CallP Try.prog 6 [] (· = Enc.enc true) :=
  names_gen (fun k => threeT k.toNat) three_call' (fun k => three_lens _) en_n0 en_n1 en_n2 en_n3 en_n4 en_n5 en_n6 en_n7 en_n8 en_n9 en_n10 en_n11 en_n12 en_n13 en_n14 en_n15 en_n16 en_n17 en_n18 en_n19 en_n20 en_n21 en_n22 en_n23 en_n24 en_n25 en_m1 en_m2 en_m3 en_m4 en_m5
end Go.Proofs
