/- The texts S7, S8, S9, S10, joined. -/
import Derived.Test.YthdikbechlgkdaaG8
set_option linter.all false
namespace Go.Proofs
open Go.Fs
set_option linter.unusedSimpArgs false
set_option maxHeartbeats 1000000
set_option maxRecDepth 8000
theorem within_call (n lo hi : Int) : CallP Try.prog 67 [Enc.enc n, Enc.enc lo, Enc.enc hi] (· = Enc.enc (inB n lo hi)) := by
  simp only [enc_fnl, enc_fnb, enc_fnc, enc_refc, enc_arr, enc_int, enc_bool, enc_list, enc_rg, enc_mk, enc_tb]
  refine callP_of_vc (Φ := P16) Try.func67 rfl (by rfl) (by rw [Try.ntmps67]; simp) mixed P16_ok (by simp [AV.strip, AV.strip1, Tk.strip]) ?_
  rw [Try.ntmps67]
  simp only [Try.f67, startSt, tmFrom]
  simp (maxSteps := 4000000) only [go_sem, AV.one, drawV, intsOf, keyIdx, over, putO, memAt, List.map_cons, List.length_cons, ↓reduceIte]
  rfl
theorem size_call (r : Rg) (h : InR .i64 (r.hi - r.lo) ∧ InR .i64 (r.hi - r.lo + 1)) : CallP Try.prog 58 [Enc.enc r] (· = Enc.enc (r.hi - r.lo + 1)) := by
  simp only [enc_fnl, enc_fnb, enc_fnc, enc_refc, enc_arr, enc_int, enc_bool, enc_list, enc_rg, enc_mk, enc_tb]
  refine callP_of_vc (Φ := P16) Try.func58 rfl (by rfl) (by rw [Try.ntmps58]; simp) mixed P16_ok (by simp [AV.strip, AV.strip1, Tk.strip]) ?_
  rw [Try.ntmps58]
  simp only [Try.f58, startSt, tmFrom]
  simp (maxSteps := 4000000) only [go_sem, AV.one, drawV, intsOf, keyIdx, over, putO, memAt, List.map_cons, List.length_cons, ↓reduceIte]
  exact h
def minL : List Int → Int
  | [] => 0
  | x :: r => r.foldl min x
theorem minL_two (a b : Int) : minL [a, b] = min a b := rfl
theorem minL_snoc (l : List Int) (x : Int) (h : l ≠ []) : minL (l ++ [x]) = min (minL l) x := by
  cases l with
  | nil => exact absurd rfl h
  | cons y r => simp [minL, List.foldl_append]
theorem minL_take {l : List Int} {i : Nat} (h : i + 1 < l.length) : minL (l.take (i + 1 + 1)) = min (minL (l.take (i + 1))) (at_ l (i + 1)) := by
  rw [take_succ_at h, minL_snoc]
  intro q
  have := congrArg List.length q
  rw [List.length_take, List.length_nil] at this
  omega
theorem maxL_take {l : List Int} {i : Nat} (h : i + 1 < l.length) : maxL (l.take (i + 1 + 1)) = max (maxL (l.take (i + 1))) (at_ l (i + 1)) := by
  rw [take_succ_at h, maxL_snoc]
  intro q
  have := congrArg List.length q
  rw [List.length_take, List.length_nil] at this
  omega
theorem Min_call (l : List Int) (h : l ≠ [] ∧ l.length ≤ 4096) : CallP Try.prog 74 [Enc.enc l] (· = Enc.enc (minL l)) := by
  have hl : 0 < l.length := List.length_pos_iff.2 h.1
  have h2 := h.2
  simp only [enc_fnl, enc_fnb, enc_fnc, enc_refc, enc_arr, enc_int, enc_bool, enc_list, enc_rg, enc_mk, enc_tb]
  refine callP_of_vc (Φ := P16) Try.func74 rfl (by rfl) (by rw [Try.ntmps74]; simp) mixed P16_ok (by simp [AV.strip, AV.strip1, Tk.strip]) ?_
  rw [Try.ntmps74]
  simp only [Try.f74, startSt, tmFrom]
  simp (maxSteps := 4000000) only [go_sem, AV.one, drawV, intsOf, keyIdx, over, putO, memAt, List.map_cons, List.length_cons, ↓reduceIte, getD_mapA hl, show ¬ ((l.length : Int) < 1) by omega, show (0 : Int) < l.length by omega]
  refine loopN (l.length - 1) [] [0, 2] (fun i => [(4, .int .i64 ((i + 1 : Nat) : Int)), (3, .int .i64 (minL (l.take (i + 1))))]) (fun _ m => m) (fun _ => True) ?_ ?_ ?_ ?_
  · trivial
  · cases l with
    | nil => simp at hl
    | cons x l => simp [AV.bare, bel_ints, cs_arr, dep_arr, cs_int, cs_bool, cs_list, cs_rg, cs_mk, AtHead, Same, AllO, Begins, LtAll, headSt, tokz_nil, tokz_cons, tokz1, lk, dep_int, dep_bool, dep_list, dep_rg, dep_mk, memAt, bel_map, bel_mapF, bel_mapO, bel_undef, bel_int, bel_boolv, bel_nilp, bel_nilf, bel_ptr, bel_arr, bel_mp, bel_yld, bel_agg, bel_tup, bel_ref, bel_only, bel_mpr, bel_fn, bel_sl_nil, bel_sl_nilF, bel_sl_nilO, bel_sl_cons, bel_sl_app, belO_cells, belO_tok, belO_dead, belO_deferred, belO_map, belO_iter, belO_loop, bel_vec, bel_vp, belO_vecM, belO_vec, minL, at_]
  · intro i hi _
    have hi2 : i + 1 < l.length := by omega
    simp (maxSteps := 4000000) only [go_sem, AV.one, drawV, intsOf, keyIdx, over, putO, memAt, List.map_cons, List.length_cons, ↓reduceIte, getD_mapA hi2, Int.ofNat_lt.2 hi2]
    all_goals (repeat' (first | with_reducible rfl | with_reducible apply And.intro | ((with_reducible show drawOK _ _ = true); rfl))) <;> (try first | omega | (simp only [InR]; omega) | with_reducible assumption)
    refine nxt hi trivial ?_
    have := minL_take hi2
    simp [AV.bare, bel_ints, cs_arr, dep_arr, cs_int, cs_bool, cs_list, cs_rg, cs_mk, AtHead, Same, AllO, Begins, LtAll, headSt, tokz_nil, tokz_cons, tokz1, lk, dep_int, dep_bool, dep_list, dep_rg, dep_mk, memAt, bel_map, bel_mapF, bel_mapO, bel_undef, bel_int, bel_boolv, bel_nilp, bel_nilf, bel_ptr, bel_arr, bel_mp, bel_yld, bel_agg, bel_tup, bel_ref, bel_only, bel_mpr, bel_fn, bel_sl_nil, bel_sl_nilF, bel_sl_nilO, bel_sl_cons, bel_sl_app, belO_cells, belO_tok, belO_dead, belO_deferred, belO_map, belO_iter, belO_loop, bel_vec, bel_vp, belO_vecM, belO_vec, this]
  · intro _
    have hn : ¬ (((l.length - 1 + 1 : Nat) : Int) < l.length) := by omega
    simp (maxSteps := 4000000) only [go_sem, AV.one, drawV, intsOf, keyIdx, over, putO, memAt, List.map_cons, List.length_cons, ↓reduceIte, hn]
    rw [List.take_of_length_le (by omega)]
theorem Max_call (l : List Int) (h : l ≠ [] ∧ l.length ≤ 4096) : CallP Try.prog 78 [Enc.enc l] (· = Enc.enc (maxL l)) := by
  have hl : 0 < l.length := List.length_pos_iff.2 h.1
  have h2 := h.2
  simp only [enc_fnl, enc_fnb, enc_fnc, enc_refc, enc_arr, enc_int, enc_bool, enc_list, enc_rg, enc_mk, enc_tb]
  refine callP_of_vc (Φ := P16) Try.func78 rfl (by rfl) (by rw [Try.ntmps78]; simp) mixed P16_ok (by simp [AV.strip, AV.strip1, Tk.strip]) ?_
  rw [Try.ntmps78]
  simp only [Try.f78, startSt, tmFrom]
  simp (maxSteps := 4000000) only [go_sem, AV.one, drawV, intsOf, keyIdx, over, putO, memAt, List.map_cons, List.length_cons, ↓reduceIte, getD_mapA hl, show ¬ ((l.length : Int) < 1) by omega, show (0 : Int) < l.length by omega]
  refine loopN (l.length - 1) [] [0, 2] (fun i => [(4, .int .i64 ((i + 1 : Nat) : Int)), (3, .int .i64 (maxL (l.take (i + 1))))]) (fun _ m => m) (fun _ => True) ?_ ?_ ?_ ?_
  · trivial
  · cases l with
    | nil => simp at hl
    | cons x l => simp [AV.bare, bel_ints, cs_arr, dep_arr, cs_int, cs_bool, cs_list, cs_rg, cs_mk, AtHead, Same, AllO, Begins, LtAll, headSt, tokz_nil, tokz_cons, tokz1, lk, dep_int, dep_bool, dep_list, dep_rg, dep_mk, memAt, bel_map, bel_mapF, bel_mapO, bel_undef, bel_int, bel_boolv, bel_nilp, bel_nilf, bel_ptr, bel_arr, bel_mp, bel_yld, bel_agg, bel_tup, bel_ref, bel_only, bel_mpr, bel_fn, bel_sl_nil, bel_sl_nilF, bel_sl_nilO, bel_sl_cons, bel_sl_app, belO_cells, belO_tok, belO_dead, belO_deferred, belO_map, belO_iter, belO_loop, bel_vec, bel_vp, belO_vecM, belO_vec, maxL, at_]
  · intro i hi _
    have hi2 : i + 1 < l.length := by omega
    simp (maxSteps := 4000000) only [go_sem, AV.one, drawV, intsOf, keyIdx, over, putO, memAt, List.map_cons, List.length_cons, ↓reduceIte, getD_mapA hi2, Int.ofNat_lt.2 hi2]
    all_goals (repeat' (first | with_reducible rfl | with_reducible apply And.intro | ((with_reducible show drawOK _ _ = true); rfl))) <;> (try first | omega | (simp only [InR]; omega) | with_reducible assumption)
    refine nxt hi trivial ?_
    have := maxL_take hi2
    simp [AV.bare, bel_ints, cs_arr, dep_arr, cs_int, cs_bool, cs_list, cs_rg, cs_mk, AtHead, Same, AllO, Begins, LtAll, headSt, tokz_nil, tokz_cons, tokz1, lk, dep_int, dep_bool, dep_list, dep_rg, dep_mk, memAt, bel_map, bel_mapF, bel_mapO, bel_undef, bel_int, bel_boolv, bel_nilp, bel_nilf, bel_ptr, bel_arr, bel_mp, bel_yld, bel_agg, bel_tup, bel_ref, bel_only, bel_mpr, bel_fn, bel_sl_nil, bel_sl_nilF, bel_sl_nilO, bel_sl_cons, bel_sl_app, belO_cells, belO_tok, belO_dead, belO_deferred, belO_map, belO_iter, belO_loop, bel_vec, bel_vp, belO_vecM, belO_vec, this]
  · intro _
    have hn : ¬ (((l.length - 1 + 1 : Nat) : Int) < l.length) := by omega
    simp (maxSteps := 4000000) only [go_sem, AV.one, drawV, intsOf, keyIdx, over, putO, memAt, List.map_cons, List.length_cons, ↓reduceIte, hn]
    rw [List.take_of_length_le (by omega)]
def indexN (l : List Int) (x : Int) : Nat → Nat → Int
  | 0, _ => -1
  | f + 1, n => if x = at_ l n then n else indexN l x f (n + 1)
def indexL (l : List Int) (x : Int) : Int := indexN l x l.length 0
theorem Index_call (l : List Int) (x : Int) (h : l.length ≤ 4096) : CallP Try.prog 79 [Enc.enc l, Enc.enc x] (· = Enc.enc (indexL l x)) := by
  simp only [enc_fnl, enc_fnb, enc_fnc, enc_refc, enc_arr, enc_int, enc_bool, enc_list, enc_rg, enc_mk, enc_tb]
  refine callP_of_vc (Φ := P16) Try.func79 rfl (by rfl) (by rw [Try.ntmps79]; simp) mixed P16_ok (by simp [AV.strip, AV.strip1, Tk.strip]) ?_
  rw [Try.ntmps79]
  simp only [Try.f79, startSt, tmFrom]
  simp (maxSteps := 4000000) only [go_sem, AV.one, drawV, intsOf, keyIdx, over, putO, memAt, List.map_cons, List.length_cons, ↓reduceIte]
  refine loopN (l.length) [] [0, 1, 4, 7] (fun i => [(8, .int .i64 i)]) (fun _ m => m) (fun i => indexN l x (l.length - i) i = indexL l x) ?_ ?_ ?_ ?_
  · rfl
  · simp [AV.bare, bel_ints, cs_arr, dep_arr, cs_int, cs_bool, cs_list, cs_rg, cs_mk, AtHead, Same, AllO, Begins, LtAll, headSt, tokz_nil, tokz_cons, tokz1, lk, dep_int, dep_bool, dep_list, dep_rg, dep_mk, memAt, bel_map, bel_mapF, bel_mapO, bel_undef, bel_int, bel_boolv, bel_nilp, bel_nilf, bel_ptr, bel_arr, bel_mp, bel_yld, bel_agg, bel_tup, bel_ref, bel_only, bel_mpr, bel_fn, bel_sl_nil, bel_sl_nilF, bel_sl_nilO, bel_sl_cons, bel_sl_app, belO_cells, belO_tok, belO_dead, belO_deferred, belO_map, belO_iter, belO_loop, bel_vec, bel_vp, belO_vecM, belO_vec]
  · intro i hi hI
    rw [show l.length - i = (l.length - (i + 1)) + 1 by omega, indexN] at hI
    cases c : decide (x = at_ l i) <;>
      simp (maxSteps := 4000000) only [go_sem, AV.one, drawV, intsOf, keyIdx, over, putO, memAt, List.map_cons, List.length_cons, ↓reduceIte, getD_mapA hi, Int.ofNat_lt.2 hi, c]
    all_goals all_goals (repeat' (first | with_reducible rfl | with_reducible apply And.intro | ((with_reducible show drawOK _ _ = true); rfl))) <;> (try first | omega | (simp only [InR]; omega) | with_reducible assumption)
    · rw [if_neg (by simpa using c)] at hI
      refine nxt hi hI ?_
      simp [AV.bare, bel_ints, cs_arr, dep_arr, cs_int, cs_bool, cs_list, cs_rg, cs_mk, AtHead, Same, AllO, Begins, LtAll, headSt, tokz_nil, tokz_cons, tokz1, lk, dep_int, dep_bool, dep_list, dep_rg, dep_mk, memAt, bel_map, bel_mapF, bel_mapO, bel_undef, bel_int, bel_boolv, bel_nilp, bel_nilf, bel_ptr, bel_arr, bel_mp, bel_yld, bel_agg, bel_tup, bel_ref, bel_only, bel_mpr, bel_fn, bel_sl_nil, bel_sl_nilF, bel_sl_nilO, bel_sl_cons, bel_sl_app, belO_cells, belO_tok, belO_dead, belO_deferred, belO_map, belO_iter, belO_loop, bel_vec, bel_vp, belO_vecM, belO_vec]
    · rw [if_pos (by simpa using c)] at hI
      rw [← hI]
  · intro hI
    simp (maxSteps := 4000000) only [go_sem, AV.one, drawV, intsOf, keyIdx, over, putO, memAt, List.map_cons, List.length_cons, ↓reduceIte]
    rw [← hI]; simp [indexN]
theorem indexN_ge (l : List Int) (x : Int) : ∀ f n, f + n = l.length → (0 ≤ indexN l x f n ↔ x ∈ l.drop n)
  | 0, n, h => by rw [List.drop_eq_nil_of_le (by omega)]; simp [indexN]
  | f + 1, n, h => by
    rw [indexN, drop_at (show n < l.length by omega)]
    by_cases c : x = at_ l n
    · rw [if_pos c]; simp [c]
    · rw [if_neg c, indexN_ge l x f (n + 1) (by omega)]; simp [c]
theorem index_mem (l : List Int) (x : Int) : decide (0 ≤ indexL l x) = l.contains x := by
  have := indexN_ge l x l.length 0 (by omega)
  rw [List.drop_zero] at this
  unfold indexL
  by_cases c : x ∈ l <;> simp [this, c]
def P17 : Specs := addSpec 67 (spec3 (fun _ _ _ => True) inB) (addSpec 58 (spec1 (fun r : Rg => InR .i64 (r.hi - r.lo) ∧ InR .i64 (r.hi - r.lo + 1)) (fun r => r.hi - r.lo + 1)) (addSpec 74 (spec1 (fun l : List Int => l ≠ [] ∧ l.length ≤ 4096) minL) (addSpec 78 (spec1 (fun l : List Int => l ≠ [] ∧ l.length ≤ 4096) maxL) (addSpec 79 (spec2 (fun (l : List Int) (_ : Int) => l.length ≤ 4096) indexL) (P16)))))
theorem P17_app (g : FuncId) : P17 g = (addSpec 67 (spec3 (fun _ _ _ => True) inB) (addSpec 58 (spec1 (fun r : Rg => InR .i64 (r.hi - r.lo) ∧ InR .i64 (r.hi - r.lo + 1)) (fun r => r.hi - r.lo + 1)) (addSpec 74 (spec1 (fun l : List Int => l ≠ [] ∧ l.length ≤ 4096) minL) (addSpec 78 (spec1 (fun l : List Int => l ≠ [] ∧ l.length ≤ 4096) maxL) (addSpec 79 (spec2 (fun (l : List Int) (_ : Int) => l.length ≤ 4096) indexL) (P16)))))) g := rfl
theorem P17_ok : SpecsOk Try.prog P17 := addSpec_ok (spec3_ok fun a b c _ => within_call a b c) (addSpec_ok (spec1_ok size_call) (addSpec_ok (spec1_ok Min_call) (addSpec_ok (spec1_ok Max_call) (addSpec_ok (spec2_ok Index_call) (P16_ok)))))
attribute [go_sem] P17_app
theorem P17_flag (d : Option Nat) : flagOf P17 d = none := (flagOf_add (by decide) d).trans ((flagOf_add (by decide) d).trans ((flagOf_add (by decide) d).trans ((flagOf_add (by decide) d).trans ((flagOf_add (by decide) d).trans (P16_flag d)))))
attribute [go_sem] P17_flag
theorem height_call (n : Int) : CallP Try.prog 54 [Enc.enc n] (· = Enc.enc (inB n 0 99)) := by
  simp only [enc_fnl, enc_fnb, enc_fnc, enc_refc, enc_arr, enc_int, enc_bool, enc_list, enc_rg, enc_mk, enc_tb]
  refine callP_of_vc (Φ := P17) Try.func54 rfl (by rfl) (by rw [Try.ntmps54]; simp) mixed P17_ok (by simp [AV.strip, AV.strip1, Tk.strip]) ?_
  rw [Try.ntmps54]
  simp only [Try.f54, startSt, tmFrom]
  simp (maxSteps := 4000000) only [go_sem, AV.one, drawV, intsOf, keyIdx, over, putO, memAt, List.map_cons, List.length_cons, ↓reduceIte]
theorem has_call (r : Rg) (n : Int) : CallP Try.prog 64 [Enc.enc r, Enc.enc n] (· = Enc.enc (inB n r.lo r.hi)) := by
  simp only [enc_fnl, enc_fnb, enc_fnc, enc_refc, enc_arr, enc_int, enc_bool, enc_list, enc_rg, enc_mk, enc_tb]
  refine callP_of_vc (Φ := P17) Try.func64 rfl (by rfl) (by rw [Try.ntmps64]; simp) mixed P17_ok (by simp [AV.strip, AV.strip1, Tk.strip]) ?_
  rw [Try.ntmps64]
  simp only [Try.f64, startSt, tmFrom]
  simp (maxSteps := 4000000) only [go_sem, AV.one, drawV, intsOf, keyIdx, over, putO, memAt, List.map_cons, List.length_cons, ↓reduceIte]
theorem minimum_call (l : List Int) (h : l ≠ [] ∧ l.length ≤ 4096) : CallP Try.prog 57 [Enc.enc l] (· = Enc.enc (minL l)) := by
  simp only [enc_fnl, enc_fnb, enc_fnc, enc_refc, enc_arr, enc_int, enc_bool, enc_list, enc_rg, enc_mk, enc_tb]
  refine callP_of_vc (Φ := P17) Try.func57 rfl (by rfl) (by rw [Try.ntmps57]; simp) mixed P17_ok (by simp [AV.strip, AV.strip1, Tk.strip]) ?_
  rw [Try.ntmps57]
  simp only [Try.f57, startSt, tmFrom]
  simp (maxSteps := 4000000) only [go_sem, AV.one, drawV, intsOf, keyIdx, over, putO, memAt, List.map_cons, List.length_cons, ↓reduceIte]
  exact h
theorem Contains_call (l : List Int) (x : Int) (h : l.length ≤ 4096) : CallP Try.prog 66 [Enc.enc l, Enc.enc x] (· = Enc.enc (l.contains x)) := by
  simp only [enc_fnl, enc_fnb, enc_fnc, enc_refc, enc_arr, enc_int, enc_bool, enc_list, enc_rg, enc_mk, enc_tb]
  refine callP_of_vc (Φ := P17) Try.func66 rfl (by rfl) (by rw [Try.ntmps66]; simp) mixed P17_ok (by simp [AV.strip, AV.strip1, Tk.strip]) ?_
  rw [Try.ntmps66]
  simp only [Try.f66, startSt, tmFrom]
  simp (maxSteps := 4000000) only [go_sem, AV.one, drawV, intsOf, keyIdx, over, putO, memAt, List.map_cons, List.length_cons, ↓reduceIte]
  refine ⟨h, ?_⟩
  rw [index_mem]
theorem hour_call (t : Tb) (n : Int) : CallP Try.prog 50 [Enc.enc t, Enc.enc n] (· = Enc.enc (inB n 0 t.last)) := by
  simp only [enc_fnl, enc_fnb, enc_fnc, enc_refc, enc_arr, enc_int, enc_bool, enc_list, enc_rg, enc_mk, enc_tb]
  refine callP_of_vc (Φ := P17) Try.func50 rfl (by rfl) (by rw [Try.ntmps50]; simp) mixed P17_ok (by simp [AV.strip, AV.strip1, Tk.strip]) ?_
  rw [Try.ntmps50]
  simp only [Try.f50, startSt, tmFrom]
  simp (maxSteps := 4000000) only [go_sem, AV.one, drawV, intsOf, keyIdx, over, putO, memAt, List.map_cons, List.length_cons, ↓reduceIte]
theorem row_call (t : Tb) (n : Int) (h : t.levels.length ≤ 4096) : CallP Try.prog 48 [Enc.enc t, Enc.enc n] (· = Enc.enc (inB n 0 (t.levels.length - 1))) := by
  simp only [enc_fnl, enc_fnb, enc_fnc, enc_refc, enc_arr, enc_int, enc_bool, enc_list, enc_rg, enc_mk, enc_tb]
  refine callP_of_vc (Φ := P17) Try.func48 rfl (by rfl) (by rw [Try.ntmps48]; simp) mixed P17_ok (by simp [AV.strip, AV.strip1, Tk.strip]) ?_
  rw [Try.ntmps48]
  simp only [Try.f48, startSt, tmFrom]
  simp (maxSteps := 4000000) only [go_sem, AV.one, drawV, intsOf, keyIdx, over, putO, memAt, List.map_cons, List.length_cons, ↓reduceIte]
  all_goals (repeat' (first | with_reducible rfl | with_reducible apply And.intro | ((with_reducible show drawOK _ _ = true); rfl))) <;> (try first | omega | (simp only [InR]; omega) | with_reducible assumption)
def P18 : Specs := addSpec 54 (spec1 (fun _ => True) (fun n => inB n 0 99)) (addSpec 64 (spec2 (fun (_ : Rg) (_ : Int) => True) (fun r n => inB n r.lo r.hi)) (addSpec 57 (spec1 (fun l : List Int => l ≠ [] ∧ l.length ≤ 4096) minL) (addSpec 66 (spec2 (fun (l : List Int) (_ : Int) => l.length ≤ 4096) (fun l x => l.contains x)) (addSpec 50 (spec2 (fun (_ : Tb) (_ : Int) => True) (fun t n => inB n 0 t.last)) (addSpec 48 (spec2 (fun (t : Tb) (_ : Int) => t.levels.length ≤ 4096) (fun t n => inB n 0 (t.levels.length - 1))) (P17))))))
theorem P18_app (g : FuncId) : P18 g = (addSpec 54 (spec1 (fun _ => True) (fun n => inB n 0 99)) (addSpec 64 (spec2 (fun (_ : Rg) (_ : Int) => True) (fun r n => inB n r.lo r.hi)) (addSpec 57 (spec1 (fun l : List Int => l ≠ [] ∧ l.length ≤ 4096) minL) (addSpec 66 (spec2 (fun (l : List Int) (_ : Int) => l.length ≤ 4096) (fun l x => l.contains x)) (addSpec 50 (spec2 (fun (_ : Tb) (_ : Int) => True) (fun t n => inB n 0 t.last)) (addSpec 48 (spec2 (fun (t : Tb) (_ : Int) => t.levels.length ≤ 4096) (fun t n => inB n 0 (t.levels.length - 1))) (P17))))))) g := rfl
theorem P18_ok : SpecsOk Try.prog P18 := addSpec_ok (spec1_ok fun n _ => height_call n) (addSpec_ok (spec2_ok fun r n _ => has_call r n) (addSpec_ok (spec1_ok minimum_call) (addSpec_ok (spec2_ok Contains_call) (addSpec_ok (spec2_ok fun t n _ => hour_call t n) (addSpec_ok (spec2_ok row_call) (P17_ok))))))
attribute [go_sem] P18_app
theorem P18_flag (d : Option Nat) : flagOf P18 d = none := (flagOf_add (by decide) d).trans ((flagOf_add (by decide) d).trans ((flagOf_add (by decide) d).trans ((flagOf_add (by decide) d).trans ((flagOf_add (by decide) d).trans ((flagOf_add (by decide) d).trans (P17_flag d))))))
attribute [go_sem] P18_flag
theorem heights_eq (r : Rg) : (decide (r.lo ≤ r.hi) && inB r.lo 0 99 && inB r.hi 0 99) = isHeights r := by
  rw [Bool.eq_iff_iff]; simp [inB, isHeights]; omega
theorem heights_call (r : Rg) : CallP Try.prog 53 [Enc.enc r] (· = Enc.enc (isHeights r)) := by
  simp only [enc_fnl, enc_fnb, enc_fnc, enc_refc, enc_arr, enc_int, enc_bool, enc_list, enc_rg, enc_mk, enc_tb]
  refine callP_of_vc (Φ := P18) Try.func53 rfl (by rfl) (by rw [Try.ntmps53]; simp) mixed P18_ok (by simp [AV.strip, AV.strip1, Tk.strip]) ?_
  rw [Try.ntmps53]
  simp only [Try.f53, startSt, tmFrom]
  simp (maxSteps := 4000000) only [go_sem, AV.one, drawV, intsOf, keyIdx, over, putO, memAt, List.map_cons, List.length_cons, ↓reduceIte]
  rw [heights_eq]
theorem wider_call (r : Rg) (n : Int) : CallP Try.prog 61 [Enc.enc r, Enc.enc n] (· = Enc.enc (widerR r n)) := by
  simp only [enc_fnl, enc_fnb, enc_fnc, enc_refc, enc_arr, enc_int, enc_bool, enc_list, enc_rg, enc_mk, enc_tb]
  refine callP_of_vc (Φ := P18) Try.func61 rfl (by rfl) (by rw [Try.ntmps61]; simp) mixed P18_ok (by simp [AV.strip, AV.strip1, Tk.strip]) ?_
  rw [Try.ntmps61]
  simp only [Try.f61, startSt, tmFrom]
  simp (maxSteps := 4000000) only [go_sem, AV.one, drawV, intsOf, keyIdx, over, putO, memAt, List.map_cons, List.length_cons, ↓reduceIte, minL_two]
  exact ⟨rfl, by simp, rfl⟩
theorem hours_call (t : Tb) (a b : Int) : CallP Try.prog 37 [Enc.enc t, Enc.enc a, Enc.enc b] (· = Enc.enc (inB a 0 t.last && inB b 0 t.last && decide (a ≤ b))) := by
  simp only [enc_fnl, enc_fnb, enc_fnc, enc_refc, enc_arr, enc_int, enc_bool, enc_list, enc_rg, enc_mk, enc_tb]
  refine callP_of_vc (Φ := P18) Try.func37 rfl (by rfl) (by rw [Try.ntmps37]; simp) mixed P18_ok (by simp [AV.strip, AV.strip1, Tk.strip]) ?_
  rw [Try.ntmps37]
  simp only [Try.f37, startSt, tmFrom]
  simp (maxSteps := 4000000) only [go_sem, AV.one, drawV, intsOf, keyIdx, over, putO, memAt, List.map_cons, List.length_cons, ↓reduceIte]
theorem highest_call (s : Arr 10) (a b : Int) (h : 0 ≤ a ∧ a ≤ b ∧ b ≤ 9) : CallP Try.prog 62 [Enc.enc s, Enc.enc a, Enc.enc b] (· = Enc.enc (topL s.l a b)) := by
  have h0 := s.h
  obtain ⟨a, rfl⟩ := Int.eq_ofNat_of_zero_le h.1
  obtain ⟨b, rfl⟩ := Int.eq_ofNat_of_zero_le (show 0 ≤ b by omega)
  have e : ((b : Int) + 1 - a).toNat = b + 1 - a := by omega
  have hc := snap_chunks (l := s.l) (off := a) (len := b + 1 - a) (by omega)
  have hm : ((s.l.drop a).take (b + 1 - a)).length ≤ 4096 := by simp; omega
  have hn : (s.l.drop a).take (b + 1 - a) ≠ [] := by
    intro q
    have := congrArg List.length q
    simp at this
    omega
  simp only [enc_fnl, enc_fnb, enc_fnc, enc_refc, enc_arr, enc_int, enc_bool, enc_list, enc_rg, enc_mk, enc_tb]
  refine callP_of_vc (Φ := P18) Try.func62 rfl (by rfl) (by rw [Try.ntmps62]; simp) mixed P18_ok (by simp [AV.strip, AV.strip1, Tk.strip]) ?_
  rw [Try.ntmps62]
  simp only [Try.f62, startSt, tmFrom]
  simp (maxSteps := 4000000) only [go_sem, AV.one, drawV, intsOf, keyIdx, over, putO, memAt, List.map_cons, List.length_cons, ↓reduceIte, e, hc]
  refine ⟨(by simp only [InR]; omega), ⟨by omega, by omega, by omega, by omega⟩, ⟨hn, hm⟩, ?_⟩
  simp only [topL, Int.toNat_natCast, e]
def right2 (t : Tb) (l : List Int) (out : List Int) (n : Nat) : Bool := (List.range n).all fun i => out.contains (i : Int) || rightM l (at_ t.marks i)
theorem right2_succ (t : Tb) (l out : List Int) (n : Nat) : right2 t l out (n + 1) = (right2 t l out n && (out.contains (n : Int) || rightM l (at_ t.marks n))) := by
  simp [right2, List.range_succ]
theorem right2_false {t : Tb} {l out : List Int} {n i : Nat} (h : i < n) (h1 : out.contains (i : Int) = false) (h2 : rightM l (at_ t.marks i) = false) : right2 t l out n = false := by
  rw [right2, List.all_eq_false]
  exact ⟨i, by simpa using h, by simp only [h1, h2]; simp⟩
def P19 : Specs := addSpec 53 (spec1 (fun _ => True) isHeights) (addSpec 61 (spec2 (fun _ _ => True) widerR) (addSpec 37 (spec3 (fun _ _ _ => True) (fun (t : Tb) a b => inB a 0 t.last && inB b 0 t.last && decide (a ≤ b))) (addSpec 62 (spec3 (fun (_ : Arr 10) (a b : Int) => 0 ≤ a ∧ a ≤ b ∧ b ≤ 9) (fun s a b => topL s.l a b)) (P18))))
theorem P19_app (g : FuncId) : P19 g = (addSpec 53 (spec1 (fun _ => True) isHeights) (addSpec 61 (spec2 (fun _ _ => True) widerR) (addSpec 37 (spec3 (fun _ _ _ => True) (fun (t : Tb) a b => inB a 0 t.last && inB b 0 t.last && decide (a ≤ b))) (addSpec 62 (spec3 (fun (_ : Arr 10) (a b : Int) => 0 ≤ a ∧ a ≤ b ∧ b ≤ 9) (fun s a b => topL s.l a b)) (P18))))) g := rfl
theorem P19_ok : SpecsOk Try.prog P19 := addSpec_ok (spec1_ok fun n _ => heights_call n) (addSpec_ok (spec2_ok fun r n _ => wider_call r n) (addSpec_ok (spec3_ok fun t a b _ => hours_call t a b) (addSpec_ok (spec3_ok highest_call) (P18_ok))))
attribute [go_sem] P19_app
theorem P19_flag (d : Option Nat) : flagOf P19 d = none := (flagOf_add (by decide) d).trans ((flagOf_add (by decide) d).trans ((flagOf_add (by decide) d).trans ((flagOf_add (by decide) d).trans (P18_flag d))))
attribute [go_sem] P19_flag
theorem right_call (t : Tb) (s : Arr 10) (out : List Int) (h : (t.marks.length ≤ 4096 ∧ ∀ m ∈ t.marks, 0 ≤ m.frm ∧ m.frm ≤ m.til ∧ m.til ≤ 9) ∧ out.length ≤ 4096) : CallP Try.prog 47 [Enc.enc t, Enc.enc s, Enc.enc out] (· = Enc.enc (right2 t s.l out t.marks.length)) := by
  have h0 := s.h
  have h1 := h.1.1
  have h2 := h.2
  simp only [enc_fnl, enc_fnb, enc_fnc, enc_refc, enc_arr, enc_int, enc_bool, enc_list, enc_rg, enc_mk, enc_tb]
  refine callP_of_vc (Φ := P19) Try.func47 rfl (by rfl) (by rw [Try.ntmps47]; simp) mixed P19_ok (by simp [AV.strip, AV.strip1, Tk.strip]) ?_
  rw [Try.ntmps47]
  simp only [Try.f47, startSt, tmFrom]
  simp (maxSteps := 4000000) only [go_sem, AV.one, drawV, intsOf, keyIdx, over, putO, memAt, List.map_cons, List.length_cons, ↓reduceIte]
  refine loopN (t.marks.length) [] [2, 4, 6, 10, 11] (fun i => [(12, .int .i64 i)]) (fun _ m => m) (fun i => right2 t s.l out i = true) ?_ ?_ ?_ ?_
  · simp [right2]
  · simp [AV.bare, bel_ints, cs_arr, dep_arr, cs_int, cs_bool, cs_list, cs_rg, cs_mk, AtHead, Same, AllO, Begins, LtAll, headSt, tokz_nil, tokz_cons, tokz1, lk, dep_int, dep_bool, dep_list, dep_rg, dep_mk, memAt, bel_map, bel_mapF, bel_mapO, bel_undef, bel_int, bel_boolv, bel_nilp, bel_nilf, bel_ptr, bel_arr, bel_mp, bel_yld, bel_agg, bel_tup, bel_ref, bel_only, bel_mpr, bel_fn, bel_sl_nil, bel_sl_nilF, bel_sl_nilO, bel_sl_cons, bel_sl_app, belO_cells, belO_tok, belO_dead, belO_deferred, belO_map, belO_iter, belO_loop, bel_vec, bel_vp, belO_vecM, belO_vec]
  · intro i hi hI
    have hm := h.1.2 _ (at_mem hi)
    have hs := right2_succ t s.l out i
    cases c1 : out.contains (i : Int) <;> cases c2 : rightM s.l (at_ t.marks i) <;>
      (have c2' := c2; unfold rightM at c2'; simp (maxSteps := 4000000) only [go_sem, AV.one, drawV, intsOf, keyIdx, over, putO, memAt, List.map_cons, List.length_cons, ↓reduceIte, getD_mapA hi, Int.ofNat_lt.2 hi, c1, c2'])
    all_goals all_goals (repeat' (first | with_reducible rfl | with_reducible apply And.intro | ((with_reducible show drawOK _ _ = true); rfl))) <;> (try first | omega | (simp only [InR]; omega) | with_reducible assumption)
    · rw [right2_false hi c1 c2]
    all_goals
      refine nxt hi (by rw [hs, hI, c1, c2]; rfl) ?_
      simp [AV.bare, bel_ints, cs_arr, dep_arr, cs_int, cs_bool, cs_list, cs_rg, cs_mk, AtHead, Same, AllO, Begins, LtAll, headSt, tokz_nil, tokz_cons, tokz1, lk, dep_int, dep_bool, dep_list, dep_rg, dep_mk, memAt, bel_map, bel_mapF, bel_mapO, bel_undef, bel_int, bel_boolv, bel_nilp, bel_nilf, bel_ptr, bel_arr, bel_mp, bel_yld, bel_agg, bel_tup, bel_ref, bel_only, bel_mpr, bel_fn, bel_sl_nil, bel_sl_nilF, bel_sl_nilO, bel_sl_cons, bel_sl_app, belO_cells, belO_tok, belO_dead, belO_deferred, belO_map, belO_iter, belO_loop, bel_vec, bel_vp, belO_vecM, belO_vec]
  · intro hI
    simp (maxSteps := 4000000) only [go_sem, AV.one, drawV, intsOf, keyIdx, over, putO, memAt, List.map_cons, List.length_cons, ↓reduceIte]
    rw [hI]
end Go.Proofs
namespace Go.Proofs
open Go.Fs
set_option linter.unusedSimpArgs false
set_option maxHeartbeats 1000000
set_option maxRecDepth 8000
def indexP {α : Type} [Inhabited α] (p : α → Bool) (l : List α) : Nat → Nat → Int
  | 0, _ => -1
  | f + 1, n => if p (at_ l n) then n else indexP p l f (n + 1)
theorem indexP_ge {α : Type} [Inhabited α] (p : α → Bool) (l : List α) : ∀ f n, f + n = l.length → decide (0 ≤ indexP p l f n) = (l.drop n).any p
  | 0, n, h => by rw [List.drop_eq_nil_of_le (by omega)]; rfl
  | f + 1, n, h => by
    rw [indexP, drop_at (show n < l.length by omega), List.any_cons]
    cases c : p (at_ l n)
    · rw [if_neg (by simp), indexP_ge p l f (n + 1) (by omega)]; rfl
    · rw [if_pos rfl]; simp
theorem any_not {α : Type} (p : α → Bool) (l : List α) : (!l.any fun x => !p x) = l.all p := by
  induction l with
  | nil => rfl
  | cons x l ih => rw [List.any_cons, List.all_cons, ← ih]; cases p x <;> rfl
theorem mark_call (t : Tb) (m : Mk) : CallP Try.prog 51 [Enc.enc t, Enc.enc m] (· = Enc.enc (markB t.last m)) := by
  simp only [enc_fnl, enc_fnb, enc_fnc, enc_refc, enc_arr, enc_int, enc_bool, enc_list, enc_rg, enc_mk, enc_tb]
  refine callP_of_vc (Φ := P19) Try.func51 rfl (by rfl) (by rw [Try.ntmps51]; simp) mixed P19_ok (by simp [AV.strip, AV.strip1, Tk.strip]) ?_
  rw [Try.ntmps51]
  simp only [Try.f51, startSt, tmFrom]
  simp (maxSteps := 4000000) only [go_sem, AV.one, drawV, intsOf, keyIdx, over, putO, memAt, List.map_cons, List.length_cons, ↓reduceIte]
  rfl
def P20 : Specs := addSpec 51 (spec2 (fun _ _ => True) (fun (t : Tb) m => markB t.last m)) (addSpec 47 (spec3 (fun (t : Tb) (_ : Arr 10) (out : List Int) => (t.marks.length ≤ 4096 ∧ ∀ m ∈ t.marks, 0 ≤ m.frm ∧ m.frm ≤ m.til ∧ m.til ≤ 9) ∧ out.length ≤ 4096) (fun t s out => right2 t s.l out t.marks.length)) (P19))
theorem P20_app (g : FuncId) : P20 g = (addSpec 51 (spec2 (fun _ _ => True) (fun (t : Tb) m => markB t.last m)) (addSpec 47 (spec3 (fun (t : Tb) (_ : Arr 10) (out : List Int) => (t.marks.length ≤ 4096 ∧ ∀ m ∈ t.marks, 0 ≤ m.frm ∧ m.frm ≤ m.til ∧ m.til ≤ 9) ∧ out.length ≤ 4096) (fun t s out => right2 t s.l out t.marks.length)) (P19))) g := rfl
theorem P20_ok : SpecsOk Try.prog P20 := addSpec_ok (spec2_ok fun t m _ => mark_call t m) (addSpec_ok (spec3_ok right_call) (P19_ok))
attribute [go_sem] P20_app
theorem P20_flag (d : Option Nat) : flagOf P20 d = none := (flagOf_add (by decide) d).trans ((flagOf_add (by decide) d).trans (P19_flag d))
attribute [go_sem] P20_flag
theorem allR1_call (x : Rg) (f : FnL 53) : CallP Try.prog 69 [Enc.enc x, Enc.enc (RefC.mk f)] (· = Enc.enc (!isHeights x)) := by
  simp only [enc_fnl, enc_fnb, enc_fnc, enc_refc, enc_arr, enc_int, enc_bool, enc_list, enc_rg, enc_mk, enc_tb]
  refine callP_of_vc (Φ := P20) Try.func69 rfl (by rfl) (by rw [Try.ntmps69]; simp) mixed P20_ok (by simp [AV.strip, AV.strip1, Tk.strip]) ?_
  rw [Try.ntmps69]
  simp only [Try.f69, startSt, tmFrom]
  simp (maxSteps := 4000000) only [go_sem, AV.one, drawV, intsOf, keyIdx, over, putO, memAt, List.map_cons, List.length_cons, ↓reduceIte]
def P21 : Specs := addSpec 69 (spec2 (fun _ _ => True) (fun (x : Rg) (f : RefC (FnL 53)) => let f := f.x; !isHeights x)) (P20)
theorem P21_app (g : FuncId) : P21 g = (addSpec 69 (spec2 (fun _ _ => True) (fun (x : Rg) (f : RefC (FnL 53)) => let f := f.x; !isHeights x)) (P20)) g := rfl
theorem P21_ok : SpecsOk Try.prog P21 := addSpec_ok (spec2_ok fun x f _ => allR1_call x f.x) (P20_ok)
attribute [go_sem] P21_app
theorem P21_flag (d : Option Nat) : flagOf P21 d = none := (flagOf_add (by decide) d).trans (P20_flag d)
attribute [go_sem] P21_flag
theorem allRI_call (l : List (Rg)) (f : FnC 69 (FnL 53)) (h : l.length ≤ 4096) : CallP Try.prog 80 [Enc.enc l, Enc.enc f] (· = Enc.enc (let f := f.x; indexP (fun x => !isHeights x) l l.length 0)) := by
  obtain ⟨f⟩ := f
  simp only [enc_fnl, enc_fnb, enc_fnc, enc_refc, enc_arr, enc_int, enc_bool, enc_list, enc_rg, enc_mk, enc_tb]
  refine callP_of_vc (Φ := P21) Try.func80 rfl (by rfl) (by rw [Try.ntmps80]; simp) mixed P21_ok (by simp [AV.strip, AV.strip1, Tk.strip]) ?_
  rw [Try.ntmps80]
  simp only [Try.f80, startSt, tmFrom]
  simp (maxSteps := 4000000) only [go_sem, AV.one, drawV, intsOf, keyIdx, over, putO, memAt, List.map_cons, List.length_cons, ↓reduceIte]
  refine loopN (l.length) [] [0, 1, 4, 7] (fun i => [(8, .int .i64 i)]) (fun _ m => m) (fun i => indexP (fun x => !isHeights x) l (l.length - i) i = indexP (fun x => !isHeights x) l l.length 0) ?_ ?_ ?_ ?_
  · rfl
  · simp [AV.bare, bel_ints, cs_arr, dep_arr, cs_int, cs_bool, cs_list, cs_rg, cs_mk, AtHead, Same, AllO, Begins, LtAll, headSt, tokz_nil, tokz_cons, tokz1, lk, dep_int, dep_bool, dep_list, dep_rg, dep_mk, memAt, bel_map, bel_mapF, bel_mapO, bel_undef, bel_int, bel_boolv, bel_nilp, bel_nilf, bel_ptr, bel_arr, bel_mp, bel_yld, bel_agg, bel_tup, bel_ref, bel_only, bel_mpr, bel_fn, bel_sl_nil, bel_sl_nilF, bel_sl_nilO, bel_sl_cons, bel_sl_app, belO_cells, belO_tok, belO_dead, belO_deferred, belO_map, belO_iter, belO_loop, bel_vec, bel_vp, belO_vecM, belO_vec]
  · intro i hi hI
    rw [show l.length - i = (l.length - (i + 1)) + 1 by omega, indexP] at hI
    cases c : isHeights (at_ l i) <;>
      simp (maxSteps := 4000000) only [go_sem, AV.one, drawV, intsOf, keyIdx, over, putO, memAt, List.map_cons, List.length_cons, ↓reduceIte, getD_mapA hi, Int.ofNat_lt.2 hi, c]
    all_goals all_goals (repeat' (first | with_reducible rfl | with_reducible apply And.intro | ((with_reducible show drawOK _ _ = true); rfl))) <;> (try first | omega | (simp only [InR]; omega) | with_reducible assumption)
    · rw [c] at hI
      rw [← hI]; rfl
    · rw [c] at hI
      refine nxt hi hI ?_
      simp [AV.bare, bel_ints, cs_arr, dep_arr, cs_int, cs_bool, cs_list, cs_rg, cs_mk, AtHead, Same, AllO, Begins, LtAll, headSt, tokz_nil, tokz_cons, tokz1, lk, dep_int, dep_bool, dep_list, dep_rg, dep_mk, memAt, bel_map, bel_mapF, bel_mapO, bel_undef, bel_int, bel_boolv, bel_nilp, bel_nilf, bel_ptr, bel_arr, bel_mp, bel_yld, bel_agg, bel_tup, bel_ref, bel_only, bel_mpr, bel_fn, bel_sl_nil, bel_sl_nilF, bel_sl_nilO, bel_sl_cons, bel_sl_app, belO_cells, belO_tok, belO_dead, belO_deferred, belO_map, belO_iter, belO_loop, bel_vec, bel_vp, belO_vecM, belO_vec]
  · intro hI
    simp (maxSteps := 4000000) only [go_sem, AV.one, drawV, intsOf, keyIdx, over, putO, memAt, List.map_cons, List.length_cons, ↓reduceIte]
    rw [← hI]; simp [indexP]
def P22 : Specs := addSpec 80 (spec2 (fun (l : List (Rg)) (_ : FnC 69 (FnL 53)) => l.length ≤ 4096) (fun l f => let f := f.x; indexP (fun x => !isHeights x) l l.length 0)) (P21)
theorem P22_app (g : FuncId) : P22 g = (addSpec 80 (spec2 (fun (l : List (Rg)) (_ : FnC 69 (FnL 53)) => l.length ≤ 4096) (fun l f => let f := f.x; indexP (fun x => !isHeights x) l l.length 0)) (P21)) g := rfl
theorem P22_ok : SpecsOk Try.prog P22 := addSpec_ok (spec2_ok allRI_call) (P21_ok)
attribute [go_sem] P22_app
theorem P22_flag (d : Option Nat) : flagOf P22 d = none := (flagOf_add (by decide) d).trans (P21_flag d)
attribute [go_sem] P22_flag
theorem allRC_call (l : List (Rg)) (f : FnC 69 (FnL 53)) (h : l.length ≤ 4096) : CallP Try.prog 68 [Enc.enc l, Enc.enc f] (· = Enc.enc (let f := f.x; l.any (fun x => !isHeights x))) := by
  obtain ⟨f⟩ := f
  simp only [enc_fnl, enc_fnb, enc_fnc, enc_refc, enc_arr, enc_int, enc_bool, enc_list, enc_rg, enc_mk, enc_tb]
  refine callP_of_vc (Φ := P22) Try.func68 rfl (by rfl) (by rw [Try.ntmps68]; simp) mixed P22_ok (by simp [AV.strip, AV.strip1, Tk.strip]) ?_
  rw [Try.ntmps68]
  simp only [Try.f68, startSt, tmFrom]
  simp (maxSteps := 4000000) only [go_sem, AV.one, drawV, intsOf, keyIdx, over, putO, memAt, List.map_cons, List.length_cons, ↓reduceIte]
  all_goals (repeat' (first | with_reducible rfl | with_reducible apply And.intro | ((with_reducible show drawOK _ _ = true); rfl))) <;> (try first | omega | (simp only [InR]; omega) | with_reducible assumption)
  congr 1
  exact indexP_ge (fun x => !isHeights x) l l.length 0 (by omega)
def P23 : Specs := addSpec 68 (spec2 (fun (l : List (Rg)) (_ : FnC 69 (FnL 53)) => l.length ≤ 4096) (fun l f => let f := f.x; l.any (fun x => !isHeights x))) (P22)
theorem P23_app (g : FuncId) : P23 g = (addSpec 68 (spec2 (fun (l : List (Rg)) (_ : FnC 69 (FnL 53)) => l.length ≤ 4096) (fun l f => let f := f.x; l.any (fun x => !isHeights x))) (P22)) g := rfl
theorem P23_ok : SpecsOk Try.prog P23 := addSpec_ok (spec2_ok allRC_call) (P22_ok)
attribute [go_sem] P23_app
theorem P23_flag (d : Option Nat) : flagOf P23 d = none := (flagOf_add (by decide) d).trans (P22_flag d)
attribute [go_sem] P23_flag
theorem allRA_call (l : List (Rg)) (f : FnL 53) (h : l.length ≤ 4096) : CallP Try.prog 52 [Enc.enc l, Enc.enc f] (· = Enc.enc (l.all (fun x => isHeights x))) := by
  simp only [enc_fnl, enc_fnb, enc_fnc, enc_refc, enc_arr, enc_int, enc_bool, enc_list, enc_rg, enc_mk, enc_tb]
  refine callP_of_vc (Φ := P23) Try.func52 rfl (by rfl) (by rw [Try.ntmps52]; simp) mixed P23_ok (by simp [AV.strip, AV.strip1, Tk.strip]) ?_
  rw [Try.ntmps52]
  simp only [Try.f52, startSt, tmFrom]
  simp (maxSteps := 4000000) only [go_sem, AV.one, drawV, intsOf, keyIdx, over, putO, memAt, List.map_cons, List.length_cons, ↓reduceIte]
  all_goals (repeat' (first | with_reducible rfl | with_reducible apply And.intro | ((with_reducible show drawOK _ _ = true); rfl))) <;> (try first | omega | (simp only [InR]; omega) | with_reducible assumption)
  rw [any_not]
def P24 : Specs := addSpec 52 (spec2 (fun (l : List (Rg)) (_ : FnL 53) => l.length ≤ 4096) (fun l f => l.all (fun x => isHeights x))) (P23)
theorem P24_app (g : FuncId) : P24 g = (addSpec 52 (spec2 (fun (l : List (Rg)) (_ : FnL 53) => l.length ≤ 4096) (fun l f => l.all (fun x => isHeights x))) (P23)) g := rfl
theorem P24_ok : SpecsOk Try.prog P24 := addSpec_ok (spec2_ok allRA_call) (P23_ok)
attribute [go_sem] P24_app
theorem P24_flag (d : Option Nat) : flagOf P24 d = none := (flagOf_add (by decide) d).trans (P23_flag d)
attribute [go_sem] P24_flag
theorem allI1_call (x : Int) (f : FnL 54) : CallP Try.prog 71 [Enc.enc x, Enc.enc (RefC.mk f)] (· = Enc.enc (!(fun n => inB n 0 99) x)) := by
  simp only [enc_fnl, enc_fnb, enc_fnc, enc_refc, enc_arr, enc_int, enc_bool, enc_list, enc_rg, enc_mk, enc_tb]
  refine callP_of_vc (Φ := P24) Try.func71 rfl (by rfl) (by rw [Try.ntmps71]; simp) mixed P24_ok (by simp [AV.strip, AV.strip1, Tk.strip]) ?_
  rw [Try.ntmps71]
  simp only [Try.f71, startSt, tmFrom]
  simp (maxSteps := 4000000) only [go_sem, AV.one, drawV, intsOf, keyIdx, over, putO, memAt, List.map_cons, List.length_cons, ↓reduceIte]
def P25 : Specs := addSpec 71 (spec2 (fun _ _ => True) (fun (x : Int) (f : RefC (FnL 54)) => let f := f.x; !(fun n => inB n 0 99) x)) (P24)
theorem P25_app (g : FuncId) : P25 g = (addSpec 71 (spec2 (fun _ _ => True) (fun (x : Int) (f : RefC (FnL 54)) => let f := f.x; !(fun n => inB n 0 99) x)) (P24)) g := rfl
theorem P25_ok : SpecsOk Try.prog P25 := addSpec_ok (spec2_ok fun x f _ => allI1_call x f.x) (P24_ok)
attribute [go_sem] P25_app
theorem P25_flag (d : Option Nat) : flagOf P25 d = none := (flagOf_add (by decide) d).trans (P24_flag d)
attribute [go_sem] P25_flag
theorem allII_call (l : List (Int)) (f : FnC 71 (FnL 54)) (h : l.length ≤ 4096) : CallP Try.prog 81 [Enc.enc l, Enc.enc f] (· = Enc.enc (let f := f.x; indexP (fun x => !(fun n => inB n 0 99) x) l l.length 0)) := by
  obtain ⟨f⟩ := f
  simp only [enc_fnl, enc_fnb, enc_fnc, enc_refc, enc_arr, enc_int, enc_bool, enc_list, enc_rg, enc_mk, enc_tb]
  refine callP_of_vc (Φ := P25) Try.func81 rfl (by rfl) (by rw [Try.ntmps81]; simp) mixed P25_ok (by simp [AV.strip, AV.strip1, Tk.strip]) ?_
  rw [Try.ntmps81]
  simp only [Try.f81, startSt, tmFrom]
  simp (maxSteps := 4000000) only [go_sem, AV.one, drawV, intsOf, keyIdx, over, putO, memAt, List.map_cons, List.length_cons, ↓reduceIte]
  refine loopN (l.length) [] [0, 1, 4, 7] (fun i => [(8, .int .i64 i)]) (fun _ m => m) (fun i => indexP (fun x => !(fun n => inB n 0 99) x) l (l.length - i) i = indexP (fun x => !(fun n => inB n 0 99) x) l l.length 0) ?_ ?_ ?_ ?_
  · rfl
  · simp [AV.bare, bel_ints, cs_arr, dep_arr, cs_int, cs_bool, cs_list, cs_rg, cs_mk, AtHead, Same, AllO, Begins, LtAll, headSt, tokz_nil, tokz_cons, tokz1, lk, dep_int, dep_bool, dep_list, dep_rg, dep_mk, memAt, bel_map, bel_mapF, bel_mapO, bel_undef, bel_int, bel_boolv, bel_nilp, bel_nilf, bel_ptr, bel_arr, bel_mp, bel_yld, bel_agg, bel_tup, bel_ref, bel_only, bel_mpr, bel_fn, bel_sl_nil, bel_sl_nilF, bel_sl_nilO, bel_sl_cons, bel_sl_app, belO_cells, belO_tok, belO_dead, belO_deferred, belO_map, belO_iter, belO_loop, bel_vec, bel_vp, belO_vecM, belO_vec]
  · intro i hi hI
    rw [show l.length - i = (l.length - (i + 1)) + 1 by omega, indexP] at hI
    cases c : (fun n => inB n 0 99) (at_ l i) <;>
      simp (maxSteps := 4000000) only [go_sem, AV.one, drawV, intsOf, keyIdx, over, putO, memAt, List.map_cons, List.length_cons, ↓reduceIte, getD_mapA hi, Int.ofNat_lt.2 hi, c]
    all_goals all_goals (repeat' (first | with_reducible rfl | with_reducible apply And.intro | ((with_reducible show drawOK _ _ = true); rfl))) <;> (try first | omega | (simp only [InR]; omega) | with_reducible assumption)
    · rw [c] at hI
      rw [← hI]; rfl
    · rw [c] at hI
      refine nxt hi hI ?_
      simp [AV.bare, bel_ints, cs_arr, dep_arr, cs_int, cs_bool, cs_list, cs_rg, cs_mk, AtHead, Same, AllO, Begins, LtAll, headSt, tokz_nil, tokz_cons, tokz1, lk, dep_int, dep_bool, dep_list, dep_rg, dep_mk, memAt, bel_map, bel_mapF, bel_mapO, bel_undef, bel_int, bel_boolv, bel_nilp, bel_nilf, bel_ptr, bel_arr, bel_mp, bel_yld, bel_agg, bel_tup, bel_ref, bel_only, bel_mpr, bel_fn, bel_sl_nil, bel_sl_nilF, bel_sl_nilO, bel_sl_cons, bel_sl_app, belO_cells, belO_tok, belO_dead, belO_deferred, belO_map, belO_iter, belO_loop, bel_vec, bel_vp, belO_vecM, belO_vec]
  · intro hI
    simp (maxSteps := 4000000) only [go_sem, AV.one, drawV, intsOf, keyIdx, over, putO, memAt, List.map_cons, List.length_cons, ↓reduceIte]
    rw [← hI]; simp [indexP]
def P26 : Specs := addSpec 81 (spec2 (fun (l : List (Int)) (_ : FnC 71 (FnL 54)) => l.length ≤ 4096) (fun l f => let f := f.x; indexP (fun x => !(fun n => inB n 0 99) x) l l.length 0)) (P25)
theorem P26_app (g : FuncId) : P26 g = (addSpec 81 (spec2 (fun (l : List (Int)) (_ : FnC 71 (FnL 54)) => l.length ≤ 4096) (fun l f => let f := f.x; indexP (fun x => !(fun n => inB n 0 99) x) l l.length 0)) (P25)) g := rfl
theorem P26_ok : SpecsOk Try.prog P26 := addSpec_ok (spec2_ok allII_call) (P25_ok)
attribute [go_sem] P26_app
theorem P26_flag (d : Option Nat) : flagOf P26 d = none := (flagOf_add (by decide) d).trans (P25_flag d)
attribute [go_sem] P26_flag
theorem allIC_call (l : List (Int)) (f : FnC 71 (FnL 54)) (h : l.length ≤ 4096) : CallP Try.prog 70 [Enc.enc l, Enc.enc f] (· = Enc.enc (let f := f.x; l.any (fun x => !(fun n => inB n 0 99) x))) := by
  obtain ⟨f⟩ := f
  simp only [enc_fnl, enc_fnb, enc_fnc, enc_refc, enc_arr, enc_int, enc_bool, enc_list, enc_rg, enc_mk, enc_tb]
  refine callP_of_vc (Φ := P26) Try.func70 rfl (by rfl) (by rw [Try.ntmps70]; simp) mixed P26_ok (by simp [AV.strip, AV.strip1, Tk.strip]) ?_
  rw [Try.ntmps70]
  simp only [Try.f70, startSt, tmFrom]
  simp (maxSteps := 4000000) only [go_sem, AV.one, drawV, intsOf, keyIdx, over, putO, memAt, List.map_cons, List.length_cons, ↓reduceIte]
  all_goals (repeat' (first | with_reducible rfl | with_reducible apply And.intro | ((with_reducible show drawOK _ _ = true); rfl))) <;> (try first | omega | (simp only [InR]; omega) | with_reducible assumption)
  congr 1
  exact indexP_ge (fun x => !(fun n => inB n 0 99) x) l l.length 0 (by omega)
def P27 : Specs := addSpec 70 (spec2 (fun (l : List (Int)) (_ : FnC 71 (FnL 54)) => l.length ≤ 4096) (fun l f => let f := f.x; l.any (fun x => !(fun n => inB n 0 99) x))) (P26)
theorem P27_app (g : FuncId) : P27 g = (addSpec 70 (spec2 (fun (l : List (Int)) (_ : FnC 71 (FnL 54)) => l.length ≤ 4096) (fun l f => let f := f.x; l.any (fun x => !(fun n => inB n 0 99) x))) (P26)) g := rfl
theorem P27_ok : SpecsOk Try.prog P27 := addSpec_ok (spec2_ok allIC_call) (P26_ok)
attribute [go_sem] P27_app
theorem P27_flag (d : Option Nat) : flagOf P27 d = none := (flagOf_add (by decide) d).trans (P26_flag d)
attribute [go_sem] P27_flag
theorem allIA_call (l : List (Int)) (f : FnL 54) (h : l.length ≤ 4096) : CallP Try.prog 55 [Enc.enc l, Enc.enc f] (· = Enc.enc (l.all (fun x => (fun n => inB n 0 99) x))) := by
  simp only [enc_fnl, enc_fnb, enc_fnc, enc_refc, enc_arr, enc_int, enc_bool, enc_list, enc_rg, enc_mk, enc_tb]
  refine callP_of_vc (Φ := P27) Try.func55 rfl (by rfl) (by rw [Try.ntmps55]; simp) mixed P27_ok (by simp [AV.strip, AV.strip1, Tk.strip]) ?_
  rw [Try.ntmps55]
  simp only [Try.f55, startSt, tmFrom]
  simp (maxSteps := 4000000) only [go_sem, AV.one, drawV, intsOf, keyIdx, over, putO, memAt, List.map_cons, List.length_cons, ↓reduceIte]
  all_goals (repeat' (first | with_reducible rfl | with_reducible apply And.intro | ((with_reducible show drawOK _ _ = true); rfl))) <;> (try first | omega | (simp only [InR]; omega) | with_reducible assumption)
  rw [any_not]
def P28 : Specs := addSpec 55 (spec2 (fun (l : List (Int)) (_ : FnL 54) => l.length ≤ 4096) (fun l f => l.all (fun x => (fun n => inB n 0 99) x))) (P27)
theorem P28_app (g : FuncId) : P28 g = (addSpec 55 (spec2 (fun (l : List (Int)) (_ : FnL 54) => l.length ≤ 4096) (fun l f => l.all (fun x => (fun n => inB n 0 99) x))) (P27)) g := rfl
theorem P28_ok : SpecsOk Try.prog P28 := addSpec_ok (spec2_ok allIA_call) (P27_ok)
attribute [go_sem] P28_app
theorem P28_flag (d : Option Nat) : flagOf P28 d = none := (flagOf_add (by decide) d).trans (P27_flag d)
attribute [go_sem] P28_flag
theorem allM1_call (x : Mk) (f : FnB 51 Tb) : CallP Try.prog 73 [Enc.enc x, Enc.enc (RefC.mk f)] (· = Enc.enc (!markB f.x.last x)) := by
  simp only [enc_fnl, enc_fnb, enc_fnc, enc_refc, enc_arr, enc_int, enc_bool, enc_list, enc_rg, enc_mk, enc_tb]
  refine callP_of_vc (Φ := P28) Try.func73 rfl (by rfl) (by rw [Try.ntmps73]; simp) mixed P28_ok (by simp [AV.strip, AV.strip1, Tk.strip]) ?_
  rw [Try.ntmps73]
  simp only [Try.f73, startSt, tmFrom]
  simp (maxSteps := 4000000) only [go_sem, AV.one, drawV, intsOf, keyIdx, over, putO, memAt, List.map_cons, List.length_cons, ↓reduceIte]
def P29 : Specs := addSpec 73 (spec2 (fun _ _ => True) (fun (x : Mk) (f : RefC (FnB 51 Tb)) => let f := f.x; !markB f.x.last x)) (P28)
theorem P29_app (g : FuncId) : P29 g = (addSpec 73 (spec2 (fun _ _ => True) (fun (x : Mk) (f : RefC (FnB 51 Tb)) => let f := f.x; !markB f.x.last x)) (P28)) g := rfl
theorem P29_ok : SpecsOk Try.prog P29 := addSpec_ok (spec2_ok fun x f _ => allM1_call x f.x) (P28_ok)
attribute [go_sem] P29_app
theorem P29_flag (d : Option Nat) : flagOf P29 d = none := (flagOf_add (by decide) d).trans (P28_flag d)
attribute [go_sem] P29_flag
theorem allMI_call (l : List (Mk)) (f : FnC 73 (FnB 51 Tb)) (h : l.length ≤ 4096) : CallP Try.prog 82 [Enc.enc l, Enc.enc f] (· = Enc.enc (let f := f.x; indexP (fun x => !markB f.x.last x) l l.length 0)) := by
  obtain ⟨f⟩ := f
  simp only [enc_fnl, enc_fnb, enc_fnc, enc_refc, enc_arr, enc_int, enc_bool, enc_list, enc_rg, enc_mk, enc_tb]
  refine callP_of_vc (Φ := P29) Try.func82 rfl (by rfl) (by rw [Try.ntmps82]; simp) mixed P29_ok (by simp [AV.strip, AV.strip1, Tk.strip]) ?_
  rw [Try.ntmps82]
  simp only [Try.f82, startSt, tmFrom]
  simp (maxSteps := 4000000) only [go_sem, AV.one, drawV, intsOf, keyIdx, over, putO, memAt, List.map_cons, List.length_cons, ↓reduceIte]
  refine loopN (l.length) [] [0, 1, 4, 7] (fun i => [(8, .int .i64 i)]) (fun _ m => m) (fun i => indexP (fun x => !markB f.x.last x) l (l.length - i) i = indexP (fun x => !markB f.x.last x) l l.length 0) ?_ ?_ ?_ ?_
  · rfl
  · simp [AV.bare, bel_ints, cs_arr, dep_arr, cs_int, cs_bool, cs_list, cs_rg, cs_mk, AtHead, Same, AllO, Begins, LtAll, headSt, tokz_nil, tokz_cons, tokz1, lk, dep_int, dep_bool, dep_list, dep_rg, dep_mk, memAt, bel_map, bel_mapF, bel_mapO, bel_undef, bel_int, bel_boolv, bel_nilp, bel_nilf, bel_ptr, bel_arr, bel_mp, bel_yld, bel_agg, bel_tup, bel_ref, bel_only, bel_mpr, bel_fn, bel_sl_nil, bel_sl_nilF, bel_sl_nilO, bel_sl_cons, bel_sl_app, belO_cells, belO_tok, belO_dead, belO_deferred, belO_map, belO_iter, belO_loop, bel_vec, bel_vp, belO_vecM, belO_vec]
  · intro i hi hI
    rw [show l.length - i = (l.length - (i + 1)) + 1 by omega, indexP] at hI
    cases c : markB f.x.last (at_ l i) <;>
      simp (maxSteps := 4000000) only [go_sem, AV.one, drawV, intsOf, keyIdx, over, putO, memAt, List.map_cons, List.length_cons, ↓reduceIte, getD_mapA hi, Int.ofNat_lt.2 hi, c]
    all_goals all_goals (repeat' (first | with_reducible rfl | with_reducible apply And.intro | ((with_reducible show drawOK _ _ = true); rfl))) <;> (try first | omega | (simp only [InR]; omega) | with_reducible assumption)
    · rw [c] at hI
      rw [← hI]; rfl
    · rw [c] at hI
      refine nxt hi hI ?_
      simp [AV.bare, bel_ints, cs_arr, dep_arr, cs_int, cs_bool, cs_list, cs_rg, cs_mk, AtHead, Same, AllO, Begins, LtAll, headSt, tokz_nil, tokz_cons, tokz1, lk, dep_int, dep_bool, dep_list, dep_rg, dep_mk, memAt, bel_map, bel_mapF, bel_mapO, bel_undef, bel_int, bel_boolv, bel_nilp, bel_nilf, bel_ptr, bel_arr, bel_mp, bel_yld, bel_agg, bel_tup, bel_ref, bel_only, bel_mpr, bel_fn, bel_sl_nil, bel_sl_nilF, bel_sl_nilO, bel_sl_cons, bel_sl_app, belO_cells, belO_tok, belO_dead, belO_deferred, belO_map, belO_iter, belO_loop, bel_vec, bel_vp, belO_vecM, belO_vec]
  · intro hI
    simp (maxSteps := 4000000) only [go_sem, AV.one, drawV, intsOf, keyIdx, over, putO, memAt, List.map_cons, List.length_cons, ↓reduceIte]
    rw [← hI]; simp [indexP]
def P30 : Specs := addSpec 82 (spec2 (fun (l : List (Mk)) (_ : FnC 73 (FnB 51 Tb)) => l.length ≤ 4096) (fun l f => let f := f.x; indexP (fun x => !markB f.x.last x) l l.length 0)) (P29)
theorem P30_app (g : FuncId) : P30 g = (addSpec 82 (spec2 (fun (l : List (Mk)) (_ : FnC 73 (FnB 51 Tb)) => l.length ≤ 4096) (fun l f => let f := f.x; indexP (fun x => !markB f.x.last x) l l.length 0)) (P29)) g := rfl
theorem P30_ok : SpecsOk Try.prog P30 := addSpec_ok (spec2_ok allMI_call) (P29_ok)
attribute [go_sem] P30_app
theorem P30_flag (d : Option Nat) : flagOf P30 d = none := (flagOf_add (by decide) d).trans (P29_flag d)
attribute [go_sem] P30_flag
theorem allMC_call (l : List (Mk)) (f : FnC 73 (FnB 51 Tb)) (h : l.length ≤ 4096) : CallP Try.prog 72 [Enc.enc l, Enc.enc f] (· = Enc.enc (let f := f.x; l.any (fun x => !markB f.x.last x))) := by
  obtain ⟨f⟩ := f
  simp only [enc_fnl, enc_fnb, enc_fnc, enc_refc, enc_arr, enc_int, enc_bool, enc_list, enc_rg, enc_mk, enc_tb]
  refine callP_of_vc (Φ := P30) Try.func72 rfl (by rfl) (by rw [Try.ntmps72]; simp) mixed P30_ok (by simp [AV.strip, AV.strip1, Tk.strip]) ?_
  rw [Try.ntmps72]
  simp only [Try.f72, startSt, tmFrom]
  simp (maxSteps := 4000000) only [go_sem, AV.one, drawV, intsOf, keyIdx, over, putO, memAt, List.map_cons, List.length_cons, ↓reduceIte]
  all_goals (repeat' (first | with_reducible rfl | with_reducible apply And.intro | ((with_reducible show drawOK _ _ = true); rfl))) <;> (try first | omega | (simp only [InR]; omega) | with_reducible assumption)
  congr 1
  exact indexP_ge (fun x => !markB f.x.last x) l l.length 0 (by omega)
def P31 : Specs := addSpec 72 (spec2 (fun (l : List (Mk)) (_ : FnC 73 (FnB 51 Tb)) => l.length ≤ 4096) (fun l f => let f := f.x; l.any (fun x => !markB f.x.last x))) (P30)
theorem P31_app (g : FuncId) : P31 g = (addSpec 72 (spec2 (fun (l : List (Mk)) (_ : FnC 73 (FnB 51 Tb)) => l.length ≤ 4096) (fun l f => let f := f.x; l.any (fun x => !markB f.x.last x))) (P30)) g := rfl
theorem P31_ok : SpecsOk Try.prog P31 := addSpec_ok (spec2_ok allMC_call) (P30_ok)
attribute [go_sem] P31_app
theorem P31_flag (d : Option Nat) : flagOf P31 d = none := (flagOf_add (by decide) d).trans (P30_flag d)
attribute [go_sem] P31_flag
theorem allMA_call (l : List (Mk)) (f : FnB 51 Tb) (h : l.length ≤ 4096) : CallP Try.prog 56 [Enc.enc l, Enc.enc f] (· = Enc.enc (l.all (fun x => markB f.x.last x))) := by
  simp only [enc_fnl, enc_fnb, enc_fnc, enc_refc, enc_arr, enc_int, enc_bool, enc_list, enc_rg, enc_mk, enc_tb]
  refine callP_of_vc (Φ := P31) Try.func56 rfl (by rfl) (by rw [Try.ntmps56]; simp) mixed P31_ok (by simp [AV.strip, AV.strip1, Tk.strip]) ?_
  rw [Try.ntmps56]
  simp only [Try.f56, startSt, tmFrom]
  simp (maxSteps := 4000000) only [go_sem, AV.one, drawV, intsOf, keyIdx, over, putO, memAt, List.map_cons, List.length_cons, ↓reduceIte]
  all_goals (repeat' (first | with_reducible rfl | with_reducible apply And.intro | ((with_reducible show drawOK _ _ = true); rfl))) <;> (try first | omega | (simp only [InR]; omega) | with_reducible assumption)
  rw [any_not]
def P32 : Specs := addSpec 56 (spec2 (fun (l : List (Mk)) (_ : FnB 51 Tb) => l.length ≤ 4096) (fun l f => l.all (fun x => markB f.x.last x))) (P31)
theorem P32_app (g : FuncId) : P32 g = (addSpec 56 (spec2 (fun (l : List (Mk)) (_ : FnB 51 Tb) => l.length ≤ 4096) (fun l f => l.all (fun x => markB f.x.last x))) (P31)) g := rfl
theorem P32_ok : SpecsOk Try.prog P32 := addSpec_ok (spec2_ok allMA_call) (P31_ok)
attribute [go_sem] P32_app
theorem P32_flag (d : Option Nat) : flagOf P32 d = none := (flagOf_add (by decide) d).trans (P31_flag d)
attribute [go_sem] P32_flag
end Go.Proofs
namespace Go.Proofs
open Go.Fs
set_option linter.unusedSimpArgs false
set_option linter.unusedVariables false
set_option maxHeartbeats 1000000
set_option maxRecDepth 8000
instance {α β : Type} [Enc α] [Enc β] : Enc (α × β) where
  enc p := .tup [Enc.enc p.1, Enc.enc p.2]
  dec
    | .tup [a, b] => match (Enc.dec a : Option α), (Enc.dec b : Option β) with
      | some a, some b => some (a, b)
      | _, _ => none
    | _ => none
  law v x h := by
    split at h
    · split at h
      · rename_i h1 h2
        cases h
        rw [Enc.law _ _ h1, Enc.law _ _ h2]
      · cases h
    · cases h
  dep := max (Enc.dep α) (Enc.dep β) + 1
  ok x := by
    have key : ∀ n m (v : AV), pureN n v → n ≤ m → pureN m v := by
      intro n
      induction n with
      | zero => intro m v h; simp [pureN] at h
      | succ n ih =>
        intro m v h hm
        obtain ⟨m, rfl⟩ : ∃ k, m = k + 1 := ⟨m - 1, by omega⟩
        cases v <;> simp only [pureN] at h ⊢
        · exact fun c hc => ih m c (h c hc) (by omega)
        · exact fun c hc => ih m c (h c hc) (by omega)
        · exact ⟨h.1, fun e he c hc => ih m c (h.2 e he c hc) (by omega)⟩
        · exact fun c hc => ih m c (h c hc) (by omega)
        · exact ⟨fun c hc => ih m c (h.1 c hc) (by omega), fun c hc => ih m c (h.2 c hc) (by omega)⟩
        · exact fun c hc => ih m c (h c hc) (by omega)
    simp only [pureN, List.mem_cons, List.not_mem_nil, or_false, forall_eq_or_imp, forall_eq]
    exact ⟨key _ _ _ (Enc.ok x.1) (by omega), key _ _ _ (Enc.ok x.2) (by omega)⟩
theorem enc_pair {α β : Type} [Enc α] [Enc β] (p : α × β) : Enc.enc p = .tup [Enc.enc p.1, Enc.enc p.2] := rfl
theorem one_i (k : IntKind) (n : Int) : (AV.int k n).one = true := rfl
def nearAt (t : Tb) (l : List Int) (h : Int) : Bool := decide (h = 0) || inB (at_ l h.toNat - at_ l (h - 1).toNat) (-t.step) t.step
theorem near_call (t : Tb) (s : Arr 10) (h : Int) (hp : ((0 ≤ t.step ∧ t.step ≤ 99) ∧ 0 ≤ h ∧ h ≤ 9) ∧ (0 ≤ at_ s.l h.toNat ∧ at_ s.l h.toNat ≤ 99) ∧ (h ≠ 0 → 0 ≤ at_ s.l (h - 1).toNat ∧ at_ s.l (h - 1).toNat ≤ 99)) :
    CallP Try.prog 65 [Enc.enc t, Enc.enc s, Enc.enc h] (· = Enc.enc (nearAt t s.l h)) := by
  have h0 := s.h
  have e1 := getD_ints (l := s.l) (i := h.toNat) (by omega)
  have e2 := getD_ints (l := s.l) (i := (h - 1).toNat) (by omega)
  cases c : decide (h = 0)
  · have hq := hp.2.2 (by simpa using c)
    simp only [enc_fnl, enc_fnb, enc_fnc, enc_refc, enc_arr, enc_int, enc_bool, enc_list, enc_rg, enc_mk, enc_tb]
    refine callP_of_vc (Φ := P32) Try.func65 rfl (by rfl) (by rw [Try.ntmps65]; simp) mixed P32_ok (by simp [AV.strip, AV.strip1, Tk.strip]) ?_
    rw [Try.ntmps65]
    simp only [Try.f65, startSt, tmFrom]
    simp (maxSteps := 4000000) only [go_sem, AV.one, drawV, intsOf, keyIdx, over, putO, memAt, List.map_cons, List.length_cons, ↓reduceIte, e1, e2, c]
    all_goals (repeat' (first | with_reducible rfl | with_reducible apply And.intro | ((with_reducible show drawOK _ _ = true); rfl))) <;> (try first | omega | (simp only [InR]; omega) | with_reducible assumption)
    · simp at c; omega
    · simp [nearAt, c]
  · simp only [enc_fnl, enc_fnb, enc_fnc, enc_refc, enc_arr, enc_int, enc_bool, enc_list, enc_rg, enc_mk, enc_tb]
    refine callP_of_vc (Φ := P32) Try.func65 rfl (by rfl) (by rw [Try.ntmps65]; simp) mixed P32_ok (by simp [AV.strip, AV.strip1, Tk.strip]) ?_
    rw [Try.ntmps65]
    simp only [Try.f65, startSt, tmFrom]
    simp (maxSteps := 4000000) only [go_sem, AV.one, drawV, intsOf, keyIdx, over, putO, memAt, List.map_cons, List.length_cons, ↓reduceIte, e1, e2, c]
    all_goals (repeat' (first | with_reducible rfl | with_reducible apply And.intro | ((with_reducible show drawOK _ _ = true); rfl))) <;> (try first | omega | (simp only [InR]; omega) | with_reducible assumption)
    simp [nearAt, c]
theorem wet_call (t : Tb) (s : Arr 10) (level : Int) (h : 0 ≤ t.last ∧ t.last ≤ 9) : CallP Try.prog 44 [Enc.enc t, Enc.enc s, Enc.enc level] (· = Enc.enc (wetN s.l level (t.last + 1).toNat)) := by
  have h0 := s.h
  obtain ⟨k, hk⟩ := Int.eq_ofNat_of_zero_le h.1
  have e : (t.last + 1 - 0).toNat = k + 1 := by omega
  have e' : (t.last + 1).toNat = k + 1 := by omega
  rw [e']
  simp only [enc_fnl, enc_fnb, enc_fnc, enc_refc, enc_arr, enc_int, enc_bool, enc_list, enc_rg, enc_mk, enc_tb]
  refine callP_of_vc (Φ := P32) Try.func44 rfl (by rfl) (by rw [Try.ntmps44]; simp) mixed P32_ok (by simp [AV.strip, AV.strip1, Tk.strip]) ?_
  rw [Try.ntmps44]
  simp only [Try.f44, startSt, tmFrom]
  simp (maxSteps := 4000000) only [go_sem, AV.one, drawV, intsOf, keyIdx, over, putO, memAt, List.map_cons, List.length_cons, ↓reduceIte, e]
  refine ⟨(by simp only [InR]; omega), ⟨by omega, by omega, by omega⟩, ?_⟩
  refine loopN (k + 1) [.slot 6 1] [2, 12, 13] (fun i => [(14, .int .i64 i), (6, .sl ((wetN s.l level i).map EncE.cs) (.own 2))]) (fun i m => m.set 2 (.tok (wetN s.l level i).length 1)) (fun _ => True) ?_ ?_ ?_ ?_
  · trivial
  · simp [AV.bare, bel_ints, cs_arr, dep_arr, cs_int, cs_bool, cs_list, cs_rg, cs_mk, AtHead, Same, AllO, Begins, LtAll, headSt, tokz_nil, tokz_cons, tokz1, lk, dep_int, dep_bool, dep_list, dep_rg, dep_mk, memAt, bel_map, bel_mapF, bel_mapO, bel_undef, bel_int, bel_boolv, bel_nilp, bel_nilf, bel_ptr, bel_arr, bel_mp, bel_yld, bel_agg, bel_tup, bel_ref, bel_only, bel_mpr, bel_fn, bel_sl_nil, bel_sl_nilF, bel_sl_nilO, bel_sl_cons, bel_sl_app, belO_cells, belO_tok, belO_dead, belO_deferred, belO_map, belO_iter, belO_loop, bel_vec, bel_vp, belO_vecM, belO_vec, wetN]
  · intro i hi _
    have hw := wetN_len s.l level i
    have e1 := getD_ints (l := s.l) (i := i) (by omega)
    cases c : decide (level < at_ s.l i) <;>
      simp (maxSteps := 4000000) only [go_sem, AV.one, drawV, intsOf, keyIdx, over, putO, memAt, List.map_cons, List.length_cons, ↓reduceIte, e1, Int.ofNat_lt.2 hi, c]
    all_goals all_goals (repeat' (first | with_reducible rfl | with_reducible apply And.intro | ((with_reducible show drawOK _ _ = true); rfl))) <;> (try first | omega | (simp only [InR]; omega) | with_reducible assumption)
    all_goals
      refine nxt hi trivial ?_
      simp at c
      simp [AV.bare, bel_ints, cs_arr, dep_arr, cs_int, cs_bool, cs_list, cs_rg, cs_mk, AtHead, Same, AllO, Begins, LtAll, headSt, tokz_nil, tokz_cons, tokz1, lk, dep_int, dep_bool, dep_list, dep_rg, dep_mk, memAt, bel_map, bel_mapF, bel_mapO, bel_undef, bel_int, bel_boolv, bel_nilp, bel_nilf, bel_ptr, bel_arr, bel_mp, bel_yld, bel_agg, bel_tup, bel_ref, bel_only, bel_mpr, bel_fn, bel_sl_nil, bel_sl_nilF, bel_sl_nilO, bel_sl_cons, bel_sl_app, belO_cells, belO_tok, belO_dead, belO_deferred, belO_map, belO_iter, belO_loop, bel_vec, bel_vp, belO_vecM, belO_vec, wetN_succ, c]
      try (intro q; omega)
      try omega
  · intro _
    simp (maxSteps := 4000000) only [go_sem, AV.one, drawV, intsOf, keyIdx, over, putO, memAt, List.map_cons, List.length_cons, ↓reduceIte]
def P33 : Specs := addSpec 65 (spec3 (fun (t : Tb) (s : Arr 10) (h : Int) => ((0 ≤ t.step ∧ t.step ≤ 99) ∧ 0 ≤ h ∧ h ≤ 9) ∧ (0 ≤ at_ s.l h.toNat ∧ at_ s.l h.toNat ≤ 99) ∧ (h ≠ 0 → 0 ≤ at_ s.l (h - 1).toNat ∧ at_ s.l (h - 1).toNat ≤ 99)) (fun t s h => nearAt t s.l h)) (addSpec 44 (spec3 (fun (t : Tb) (_ : Arr 10) (_ : Int) => 0 ≤ t.last ∧ t.last ≤ 9) (fun t s level => wetN s.l level (t.last + 1).toNat)) (P32))
theorem P33_app (g : FuncId) : P33 g = (addSpec 65 (spec3 (fun (t : Tb) (s : Arr 10) (h : Int) => ((0 ≤ t.step ∧ t.step ≤ 99) ∧ 0 ≤ h ∧ h ≤ 9) ∧ (0 ≤ at_ s.l h.toNat ∧ at_ s.l h.toNat ≤ 99) ∧ (h ≠ 0 → 0 ≤ at_ s.l (h - 1).toNat ∧ at_ s.l (h - 1).toNat ≤ 99)) (fun t s h => nearAt t s.l h)) (addSpec 44 (spec3 (fun (t : Tb) (_ : Arr 10) (_ : Int) => 0 ≤ t.last ∧ t.last ≤ 9) (fun t s level => wetN s.l level (t.last + 1).toNat)) (P32))) g := rfl
theorem P33_ok : SpecsOk Try.prog P33 := addSpec_ok (spec3_ok near_call) (addSpec_ok (spec3_ok wet_call) (P32_ok))
attribute [go_sem] P33_app
theorem P33_flag (d : Option Nat) : flagOf P33 d = none := (flagOf_add (by decide) d).trans ((flagOf_add (by decide) d).trans (P32_flag d))
attribute [go_sem] P33_flag
structure VOk (t : Tb) : Prop where
  hok : HOk t
  mok : MOk t
  last : (t.heights.length : Int) = t.last + 1
  lv : t.levels.length ≤ 6
  lvb : ∀ x ∈ t.levels, 0 ≤ x ∧ x ≤ 99
  many : manyN t.heights ≤ 2000
  some : listsL t ≠ []
theorem VOk.l0 {t : Tb} (h : VOk t) : 0 ≤ t.last + 1 := by have := h.last; omega
theorem VOk.l9 {t : Tb} (h : VOk t) : t.last ≤ 9 := by have := h.last; have := h.hok.len; omega
def pad10 (l : List Int) : List Int := l.take 10 ++ List.replicate (10 - l.length) 0
def padA (l : List Int) : Arr 10 := ⟨pad10 l, by simp [pad10]; omega⟩
def zeroA10 : Arr 10 := ⟨List.replicate 10 0, by simp⟩
theorem pad_at {l : List Int} {i : Nat} (h : i < l.length) (h10 : i < 10) : at_ (pad10 l) i = at_ l i := by
  unfold pad10
  rw [at_append_left (by simp; omega)]
  simp [at_, List.getD, h10]
def listedP (t : Tb) (l : List Int) : Arr 10 × Bool := if (l.length : Int) = t.last + 1 then (padA l, listedB t l) else (zeroA10, false)
theorem near_step {t : Tb} {l : List Int} {i : Nat} (hi : i < l.length) (h10 : i < 10) : nearL t.step (l.take (i + 1)) = (nearL t.step (l.take i) && nearAt t (pad10 l) i) := by
  cases i with
  | zero =>
    cases l with
    | nil => simp at hi
    | cons x l => simp [nearL, nearAt]
  | succ i =>
    rw [nearL_take _ _ _ hi]
    congr 1
    have e0 : ((i + 1 : Nat) : Int).toNat = i + 1 := by omega
    have e1 : (((i + 1 : Nat) : Int) - 1).toNat = i := by omega
    unfold nearAt
    rw [e0, e1, pad_at hi h10, pad_at (show i < l.length by omega) (by omega), Bool.eq_iff_iff]
    simp [inB]
    omega
theorem listedB_false {t : Tb} {l : List Int} {i : Nat} (hi : i < l.length) (h10 : i < 10) (h : nearAt t (pad10 l) i = false) : listedB t l = false := by
  cases c : listedB t l
  · rfl
  · simp only [listedB, Bool.and_eq_true] at c
    have := nearL_mono t.step l (i + 1) c.2.2
    rw [near_step hi h10, h] at this
    simp at this
theorem listed_call (t : Tb) (l : List Int) (h : (HOk t ∧ (t.heights.length : Int) = t.last + 1 ∧ 0 ≤ t.last) ∧ l.length ≤ 4096) : CallP Try.prog 43 [Enc.enc t, Enc.enc l] (· = Enc.enc (listedP t l)) := by
  obtain ⟨⟨hok, hl, h0⟩, hl4⟩ := h
  have hl9 : t.last ≤ 9 := by have := hok.len; omega
  have hz := hok.s0
  have hz1 := hok.s1
  simp only [enc_pair]
  cases c : decide ((l.length : Int) = t.last + 1)
  · have e : listedP t l = (zeroA10, false) := by unfold listedP; rw [if_neg (by simpa using c)]
    rw [e]
    simp only [enc_fnl, enc_fnb, enc_fnc, enc_refc, enc_arr, enc_int, enc_bool, enc_list, enc_rg, enc_mk, enc_tb]
    refine callP_of_vc (Φ := P33) Try.func43 rfl (by rfl) (by rw [Try.ntmps43]; simp) mixed P33_ok (by simp [AV.strip, AV.strip1, Tk.strip]) ?_
    rw [Try.ntmps43]
    simp only [Try.f43, startSt, tmFrom]
    simp (maxSteps := 4000000) only [go_sem, AV.one, drawV, intsOf, keyIdx, over, putO, memAt, List.map_cons, List.length_cons, ↓reduceIte, c]
    all_goals (repeat' (first | with_reducible rfl | with_reducible apply And.intro | ((with_reducible show drawOK _ _ = true); rfl))) <;> (try first | omega | (simp only [InR]; omega) | with_reducible assumption)
    all_goals rfl
  · have e : listedP t l = (padA l, listedB t l) := by unfold listedP; rw [if_pos (by simpa using c)]
    rw [e]
    have hlen : (l.length : Int) = t.last + 1 := by simpa using c
    have e10 : (((10 : Nat) : Int) - 0).toNat = 10 := rfl
    have hflat : (List.take 10 (List.map EncE.cs l)).flatten ++ List.drop (List.take 10 (List.map EncE.cs l)).flatten.length
        [AV.int IntKind.i64 0, AV.int IntKind.i64 0, AV.int IntKind.i64 0, AV.int IntKind.i64 0, AV.int IntKind.i64 0, AV.int IntKind.i64 0, AV.int IntKind.i64 0, AV.int IntKind.i64 0, AV.int IntKind.i64 0, AV.int IntKind.i64 0] = (padA l).l.map (AV.int .i64) := by
      rw [← List.map_take, flat_ints, show [AV.int IntKind.i64 0, AV.int IntKind.i64 0, AV.int IntKind.i64 0, AV.int IntKind.i64 0, AV.int IntKind.i64 0, AV.int IntKind.i64 0, AV.int IntKind.i64 0, AV.int IntKind.i64 0, AV.int IntKind.i64 0, AV.int IntKind.i64 0] = (List.replicate 10 (0 : Int)).map (AV.int .i64) from rfl, ← List.map_drop, ← List.map_append, List.drop_replicate]
      unfold padA pad10
      simp
      omega
    have hp := (padA l).h
    have hd : (padA l).l.drop 10 = [] := List.drop_eq_nil_of_le (by omega)
    have hps : (padA l).l = pad10 l := rfl
    simp only [enc_fnl, enc_fnb, enc_fnc, enc_refc, enc_arr, enc_int, enc_bool, enc_list, enc_rg, enc_mk, enc_tb]
    refine callP_of_vc (Φ := P33) Try.func43 rfl (by rfl) (by rw [Try.ntmps43]; simp) mixed P33_ok (by simp [AV.strip, AV.strip1, Tk.strip]) ?_
    rw [Try.ntmps43]
    simp only [Try.f43, startSt, tmFrom]
    simp (maxSteps := 4000000) only [go_sem, drawV, intsOf, keyIdx, over, putO, memAt, List.map_cons, List.length_cons, ↓reduceIte, c, e10, hflat, one_i]
    refine ⟨(by simp only [InR]; omega), ⟨by omega, by omega⟩, ?_, ?_⟩
    · intro x hx c hc
      obtain ⟨y, _, rfl⟩ := List.mem_map.1 hx
      simp only [cs_int, List.mem_cons, List.not_mem_nil, or_false] at hc
      subst hc
      exact ⟨rfl, rfl⟩
    refine loopN (l.length) [] [2, 4, 5, 18, 19] (fun i => [(20, .int .i64 i)]) (fun _ m => m) (fun i => ((zipB l t.heights).take i).all id = true ∧ nearL t.step (l.take i) = true) ?_ ?_ ?_ ?_
    · simp [nearL]
    · simp [AV.bare, bel_ints, cs_arr, dep_arr, cs_int, cs_bool, cs_list, cs_rg, cs_mk, AtHead, Same, AllO, Begins, LtAll, headSt, tokz_nil, tokz_cons, tokz1, lk, dep_int, dep_bool, dep_list, dep_rg, dep_mk, memAt, bel_map, bel_mapF, bel_mapO, bel_undef, bel_int, bel_boolv, bel_nilp, bel_nilf, bel_ptr, bel_arr, bel_mp, bel_yld, bel_agg, bel_tup, bel_ref, bel_only, bel_mpr, bel_fn, bel_sl_nil, bel_sl_nilF, bel_sl_nilO, bel_sl_cons, bel_sl_app, belO_cells, belO_tok, belO_dead, belO_deferred, belO_map, belO_iter, belO_loop, bel_vec, bel_vp, belO_vecM, belO_vec]
    · intro i hi hI
      have h2 : i < t.heights.length := by omega
      have h3 : i < (zipB l t.heights).length := by rw [zipB_len]; omega
      have hz3 := zipB_at hi h2
      have hat := pad_at hi (by omega)
      have hr := hok.h _ (at_mem h2)
      have hnr := near_step (t := t) hi (by omega)
      rw [← hps] at hat hnr
      have hprev : (i : Int) ≠ 0 → 0 ≤ at_ (padA l).l ((i : Int) - 1).toNat ∧ at_ (padA l).l ((i : Int) - 1).toNat ≤ 99 := by
        intro q
        have e1 : ((i : Int) - 1).toNat = i - 1 := by omega
        have hz4 := zipB_at (show i - 1 < l.length by omega) (show i - 1 < t.heights.length by omega)
        have hr2 := hok.h _ (at_mem (show i - 1 < t.heights.length by omega))
        have hm : at_ (zipB l t.heights) (i - 1) = true := by
          have := List.all_eq_true.1 hI.1 (at_ (zipB l t.heights) (i - 1)) (by
            rw [at_get (show i - 1 < (zipB l t.heights).length by omega)]
            exact List.mem_take_iff_getElem.2 ⟨i - 1, by omega, rfl⟩)
          exact this
        rw [hz4] at hm
        have := (inB_iff _ _ _).1 hm
        rw [e1, hps, pad_at (show i - 1 < l.length by omega) (by omega)]
        omega
      cases c1 : inB (at_ l i) (at_ t.heights i).lo (at_ t.heights i).hi
      · simp (maxSteps := 4000000) only [go_sem, drawV, intsOf, keyIdx, over, putO, memAt, List.map_cons, List.length_cons, ↓reduceIte, getD_mapA hi, getD_mapA h2, Int.ofNat_lt.2 hi, c1, hp, hd, one_i]
        all_goals (repeat' (first | with_reducible rfl | with_reducible apply And.intro | ((with_reducible show drawOK _ _ = true); rfl))) <;> (try first | omega | (simp only [InR]; omega) | with_reducible assumption)
        rw [listedB, all_at h3 (by rw [hz3, c1]; rfl)]; rfl
      · have g1 := (inB_iff _ _ _).1 c1
        have g2 : 0 ≤ at_ (padA l).l i ∧ at_ (padA l).l i ≤ 99 := by rw [hat]; omega
        cases c2 : nearAt t (padA l).l i
        all_goals
          simp (maxSteps := 4000000) only [go_sem, drawV, intsOf, keyIdx, over, putO, memAt, List.map_cons, List.length_cons, ↓reduceIte, getD_mapA hi, getD_mapA h2, Int.ofNat_lt.2 hi, c1, c2, hp, hd, one_i]
          all_goals (repeat' (first | with_reducible rfl | with_reducible apply And.intro | ((with_reducible show drawOK _ _ = true); rfl))) <;> (try first | omega | (simp only [InR]; omega) | with_reducible assumption)
        · rw [listedB_false hi (by omega) c2]
        · refine nxt hi ⟨?_, ?_⟩ ?_
          · rw [all_take h3, hI.1, hz3, c1]; rfl
          · rw [hnr, hI.2, c2]; rfl
          · simp [AV.bare, bel_ints, cs_arr, dep_arr, cs_int, cs_bool, cs_list, cs_rg, cs_mk, AtHead, Same, AllO, Begins, LtAll, headSt, tokz_nil, tokz_cons, tokz1, lk, dep_int, dep_bool, dep_list, dep_rg, dep_mk, memAt, bel_map, bel_mapF, bel_mapO, bel_undef, bel_int, bel_boolv, bel_nilp, bel_nilf, bel_ptr, bel_arr, bel_mp, bel_yld, bel_agg, bel_tup, bel_ref, bel_only, bel_mpr, bel_fn, bel_sl_nil, bel_sl_nilF, bel_sl_nilO, bel_sl_cons, bel_sl_app, belO_cells, belO_tok, belO_dead, belO_deferred, belO_map, belO_iter, belO_loop, bel_vec, bel_vp, belO_vecM, belO_vec]
    · intro hI
      simp (maxSteps := 4000000) only [go_sem, drawV, intsOf, keyIdx, over, putO, memAt, List.map_cons, List.length_cons, ↓reduceIte, hp, hd, one_i]
      all_goals (repeat' (first | with_reducible rfl | with_reducible apply And.intro | ((with_reducible show drawOK _ _ = true); rfl))) <;> (try first | omega | (simp only [InR]; omega) | with_reducible assumption)
      have e1 : (zipB l t.heights).take l.length = zipB l t.heights := List.take_of_length_le (by rw [zipB_len]; omega)
      rw [e1, List.take_length] at hI
      rw [listedB, hI.1, hI.2]
      simp; omega
def P34 : Specs := addSpec 43 (spec2 (fun (t : Tb) (l : List Int) => (HOk t ∧ (t.heights.length : Int) = t.last + 1 ∧ 0 ≤ t.last) ∧ l.length ≤ 4096) listedP) (P33)
theorem P34_app (g : FuncId) : P34 g = (addSpec 43 (spec2 (fun (t : Tb) (l : List Int) => (HOk t ∧ (t.heights.length : Int) = t.last + 1 ∧ 0 ≤ t.last) ∧ l.length ≤ 4096) listedP) (P33)) g := rfl
theorem P34_ok : SpecsOk Try.prog P34 := addSpec_ok (spec2_ok listed_call) (P33_ok)
attribute [go_sem] P34_app
theorem P34_flag (d : Option Nat) : flagOf P34 d = none := (flagOf_add (by decide) d).trans (P33_flag d)
attribute [go_sem] P34_flag
end Go.Proofs
namespace Go.Proofs
open Go.Fs
set_option linter.unusedSimpArgs false
set_option linter.unusedVariables false
set_option maxHeartbeats 1000000
set_option maxRecDepth 8000
def runS {σ α : Type} (go : σ → α → Bool) (next : σ → α → σ) : σ → List α → σ × Bool
  | a, [] => (a, true)
  | a, p :: r => if go a p then runS go next (next a p) r else (next a p, false)
theorem runS_append {σ α : Type} (go : σ → α → Bool) (next : σ → α → σ) : ∀ (x y : List α) (a : σ), runS go next a (x ++ y) = if (runS go next a x).2 then runS go next (runS go next a x).1 y else runS go next a x
  | [], y, a => rfl
  | p :: x, y, a => by
    simp only [List.cons_append, runS]
    split
    · exact runS_append go next x y _
    · rfl
def seqP (t : Tb) : Nat → List Int → List (List Int)
  | 0, p => [p]
  | f + 1, p => (List.range (szR (at_ t.heights p.length)).toNat).flatMap fun n : Nat =>
      let q := p ++ [(at_ t.heights p.length).lo + n]
      if nearAt t q p.length then seqP t f q else []
def seqL (t : Tb) : List (List Int) := seqP t (t.last + 1).toNat []
def seqN (t : Tb) (f : Nat) (p : List Int) (n : Nat) : List (List Int) := (List.range n).flatMap fun n : Nat =>
      let q := p ++ [(at_ t.heights p.length).lo + n]
      if nearAt t q p.length then seqP t f q else []
theorem seqN_succ (t : Tb) (f : Nat) (p : List Int) (n : Nat) : seqN t f p (n + 1) = seqN t f p n ++ (if nearAt t (p ++ [(at_ t.heights p.length).lo + n]) p.length then seqP t f (p ++ [(at_ t.heights p.length).lo + n]) else []) := by
  simp only [seqN, List.range_succ, List.flatMap_append, List.flatMap_cons, List.flatMap_nil, List.append_nil]
def tbC (t : Tb) : List AV := [.int .i64 t.last, .sl (t.heights.map EncE.cs) .no, .int .i64 t.step, .sl (t.levels.map EncE.cs) .no, .sl (t.marks.map EncE.cs) .no]
def xtra (t : Tb) (m0 l : Nat) (s : Arr 10) : List AObj := [.cells [.yld l], .cells (s.l.map (AV.int .i64)), .cells [.fn (.func 76) [] [.ref (tbC t) 0, .ptr m0 0, .ptr (m0 + 1) 0, .ptr (m0 + 2) 0]]]
theorem memAt_app (m r : List AObj) (k : Nat) : memAt (m ++ r) (m.length + k) = memAt r k := by
  simp [memAt, List.getD, List.getElem?_append_right]
theorem set_app (m r : List AObj) (k : Nat) (o : AObj) : (m ++ r).set (m.length + k) o = m ++ r.set k o := by
  simp
theorem begins_refl : ∀ l : List AObj, Begins l l
  | [] => trivial
  | a :: l => ⟨rfl, begins_refl l⟩
theorem allO_of {k : Nat} : ∀ {l : List AObj}, (∀ o ∈ l, belO k o) → AllO k l
  | [], _ => trivial
  | a :: l, h => ⟨h a (by simp), allO_of fun o ho => h o (by simp [ho])⟩
section
variable {σ : Type} {M : σ → List AObj} {m0 l : Nat} {t : Tb} {go : σ → List Int → Bool} {next : σ → List Int → σ} {Rdy : Nat → σ → Prop} {T : Nat}
structure Iter (M : σ → List AObj) (m0 l : Nat) (t : Tb) (go : σ → List Int → Bool) (next : σ → List Int → σ) (Rdy : Nat → σ → Prop) (T : Nat) : Prop where
  len : ∀ a, (M a).length = m0
  lt : l < m0
  ok : ∀ a, ∀ o ∈ M a, belO m0 o
  yield : ∀ k a p s, Rdy k a → k < T → p.length = (t.last + 1).toNat → LOk p → s = padA p → YieldM Try.prog l [.agg (s.l.map (AV.int .i64))] (M a ++ xtra t m0 l s) (fun r mem' => r = .bool (go a p) ∧ mem' = M (next a p) ++ xtra t m0 l s)
  rdy : ∀ k a p, Rdy k a → k < T → go a p = true → Rdy (k + 1) (next a p)
theorem bel_mono {k k' : Nat} (hk : k ≤ k') : ∀ (n : Nat) (v : AV), bel k n v → bel k' n v
  | 0, v, h => by simp [bel] at h
  | n + 1, v, h => by
    have ih : ∀ c, bel k n c → bel k' n c := fun c hc => bel_mono hk n c hc
    cases v <;> simp only [bel] at h ⊢
    · exact fun c hc => ih c (h c hc)
    · exact fun c hc => ih c (h c hc)
    · refine ⟨fun e he c hc => ih c (h.1 e he c hc), ?_⟩
      have := h.2
      split <;> simp_all <;> omega
    · exact fun c hc => ih c (h c hc)
    · omega
    · omega
    · exact ⟨fun c hc => ih c (h.1 c hc), fun c hc => ih c (h.2 c hc)⟩
    · exact fun c hc => ih c (h c hc)
    · omega
    · omega
    · exact ih _ h
    · omega
    · omega
theorem belO_mono {k k' : Nat} (hk : k ≤ k') (o : AObj) (h : belO k o) : belO k' o := by
  cases o <;> simp only [belO] at h ⊢
  · exact fun c hc => bel_mono hk 9 c (h c hc)
  · exact fun c hc => bel_mono hk 9 _ (h c hc)
  · exact fun c hc => bel_mono hk 9 c (h c hc)
  · exact bel_mono hk 9 _ h
  · exact fun e he c hc => bel_mono hk 9 c (h e he c hc)
theorem ok_xtra (hi : Iter M m0 l t go next Rdy T) (a : σ) (s : Arr 10) : ∀ o ∈ M a ++ xtra t m0 l s, belO (M a ++ xtra t m0 l s).length o := by
  have hlen : (M a ++ xtra t m0 l s).length = m0 + 3 := by simp [hi.len a, xtra]
  rw [hlen]
  intro o ho
  rcases List.mem_append.1 ho with h | h
  · exact belO_mono (by omega) o (hi.ok a o h)
  · have := hi.lt
    simp only [xtra, List.mem_cons, List.not_mem_nil, or_false] at h
    rcases h with rfl | rfl | rfl
    · simp [belO, bel]; omega
    · simp [belO, bel]
    · simp only [belO, tbC, List.mem_cons, List.not_mem_nil, or_false, forall_eq_or_imp, forall_eq, AV.bare, bel_ints, cs_arr, dep_arr, cs_int, cs_bool, cs_list, cs_rg, cs_mk, AtHead, Same, AllO, Begins, LtAll, headSt, tokz_nil, tokz_cons, tokz1, lk, dep_int, dep_bool, dep_list, dep_rg, dep_mk, memAt, bel_map, bel_mapF, bel_mapO, bel_undef, bel_int, bel_boolv, bel_nilp, bel_nilf, bel_ptr, bel_arr, bel_mp, bel_yld, bel_agg, bel_tup, bel_ref, bel_only, bel_mpr, bel_fn, bel_sl_nil, bel_sl_nilF, bel_sl_nilO, bel_sl_cons, bel_sl_app, belO_cells, belO_tok, belO_dead, belO_deferred, belO_map, belO_iter, belO_loop, bel_vec, bel_vp, belO_vecM, belO_vec]
      simp
      refine ⟨?_, ?_, ?_⟩ <;> simp [AV.bare, bel_ints, cs_arr, dep_arr, cs_int, cs_bool, cs_list, cs_rg, cs_mk, AtHead, Same, AllO, Begins, LtAll, headSt, tokz_nil, tokz_cons, tokz1, lk, dep_int, dep_bool, dep_list, dep_rg, dep_mk, memAt, bel_map, bel_mapF, bel_mapO, bel_undef, bel_int, bel_boolv, bel_nilp, bel_nilf, bel_ptr, bel_arr, bel_mp, bel_yld, bel_agg, bel_tup, bel_ref, bel_only, bel_mpr, bel_fn, bel_sl_nil, bel_sl_nilF, bel_sl_nilO, bel_sl_cons, bel_sl_app, belO_cells, belO_tok, belO_dead, belO_deferred, belO_map, belO_iter, belO_loop, bel_vec, bel_vp, belO_vecM, belO_vec]
def Good (t : Tb) (s : Arr 10) : Prop := LOk s.l ∧ s.l.drop (t.last + 1).toNat = List.replicate (10 - (t.last + 1).toNat) 0
theorem take_set_succ {l : List Int} {k : Nat} (h : k < l.length) (v : Int) : (l.set k v).take (k + 1) = l.take k ++ [v] := by
  have : k < (l.set k v).length := by simpa using h
  rw [take_succ_at this, List.take_set_of_le (Nat.le_refl k)]
  simp [at_, List.getD, h]
theorem at_take {l : List Int} {n i : Nat} (h : i < n) : at_ (l.take n) i = at_ l i := by
  simp [at_, List.getD, List.getElem?_take, h]
theorem seqN_prefix (t : Tb) (f : Nat) (p : List Int) (n : Nat) : ∀ k, ∃ r, seqN t f p (n + k) = seqN t f p n ++ r
  | 0 => ⟨[], by simp⟩
  | k + 1 => by
    obtain ⟨r, hr⟩ := seqN_prefix t f p n k
    exact ⟨r ++ _, by rw [← Nat.add_assoc, seqN_succ, hr, List.append_assoc]⟩
theorem choose_call (hi : Iter M m0 l t go next Rdy T) (hok : HOk t) (hl : (t.heights.length : Int) = t.last + 1) : ∀ (f : Nat) (p : List Int) (s : Arr 10) (a : σ) (k : Nat), p.length + f = (t.last + 1).toNat → s.l.take p.length = p → Good t s → Rdy k a → k + (seqP t f p).length ≤ T →
    CallM Try.prog 76 [.int .i64 p.length, .ref (tbC t) 0, .ptr m0 0, .ptr (m0 + 1) 0, .ptr (m0 + 2) 0] (M a ++ xtra t m0 l s)
      (fun r mem' => ∃ s', s'.l.take p.length = p ∧ Good t s' ∧ r = .bool (runS go next a (seqP t f p)).2 ∧ mem' = M (runS go next a (seqP t f p)).1 ++ xtra t m0 l s' ∧ ((runS go next a (seqP t f p)).2 = true → Rdy (k + (seqP t f p).length) (runS go next a (seqP t f p)).1)) := by
  intro f
  induction f with
  | zero =>
    intro p s a k hf hp hg hr hT
    have hll : t.last < (p.length : Int) := by omega
    have hlp : LOk p := ⟨by rw [← hp]; simp; have := s.h; omega, fun x hx => hg.1.b x (by rw [← hp] at hx; exact List.mem_of_mem_take hx)⟩
    have hsp : s = padA p := by
      refine Arr.ext ?_
      show s.l = pad10 p
      have h10 := s.h
      have hq : p.length = (t.last + 1).toNat := by omega
      have hlen : p.length ≤ 10 := by have := hok.len; omega
      rw [← List.take_append_drop p.length s.l, hp, hq, hg.2]
      unfold pad10
      rw [List.take_of_length_le hlen, ← hq]
    refine callM_of_vc (Φ := P34) Try.func76 rfl (by rfl) (by rw [Try.ntmps76]; simp) mixed P34_ok (by simp [AV.strip, AV.strip1]) ?_
    rw [Try.ntmps76]
    simp only [Try.f76, startSt, tmFrom]
    have e0 : memAt (M a ++ xtra t m0 l s) m0 = .cells [.yld l] := by rw [← hi.len a]; exact memAt_app _ _ 0
    have e1 : memAt (M a ++ xtra t m0 l s) (m0 + 1) = .cells (s.l.map (AV.int .i64)) := by rw [← hi.len a]; exact memAt_app _ _ 1
    simp (maxSteps := 4000000) only [go_sem, AV.one, drawV, intsOf, keyIdx, over, putO, List.map_cons, List.length_cons, ↓reduceIte, e0, e1, tbC, hll]
    refine ⟨by have := s.h; omega, _, hi.yield k a p s hr (by simp only [seqP, List.length_cons, List.length_nil] at hT; omega) (by omega) hlp hsp, ?_⟩
    rintro r mem' ⟨rfl, rfl⟩ hlen
    have hr1 : runS go next a (seqP t 0 p) = (next a p, go a p) := by
      simp only [seqP, runS]
      cases go a p <;> rfl
    rw [hr1]
    refine ⟨trivial, trivial, ⟨s, hp, hg, rfl, ?_, fun q => hi.rdy k a p hr (by simp only [seqP, List.length_cons, List.length_nil] at hT; omega) q⟩, trivial, ?_⟩
    · rw [List.take_of_length_le (Nat.le_of_eq hlen)]
    · rw [List.take_of_length_le (Nat.le_of_eq hlen), ← hlen]
      exact ok_xtra hi _ _
  | succ f ih =>
    intro p s a k hf hp hg hr hT
    have hpl : p.length < t.heights.length := by omega
    have hrg := hok.h _ (at_mem hpl)
    have hll : ¬ (t.last < (p.length : Int)) := by omega
    refine callM_of_vc (Φ := P34) Try.func76 rfl (by rfl) (by rw [Try.ntmps76]; simp) mixed P34_ok (by simp [AV.strip, AV.strip1]) ?_
    rw [Try.ntmps76]
    simp only [Try.f76, startSt, tmFrom]
    simp (maxSteps := 4000000) only [go_sem, AV.one, drawV, intsOf, keyIdx, over, putO, List.map_cons, List.length_cons, ↓reduceIte, tbC, hll, getD_mapA hpl]
    refine ⟨⟨by omega, by omega⟩, ⟨(by simp only [InR]; omega), (by simp only [InR]; omega)⟩, ?_⟩
    refine loopB [] [0, 1, 3, 4, 6, 20] (fun b : Nat × σ × Arr 10 => [(21, .int .i64 b.1)]) (fun b _ => M b.2.1 ++ xtra t m0 l b.2.2) (fun b => b.1 ≤ (szR (at_ t.heights p.length)).toNat ∧ b.2.2.l.take p.length = p ∧ Good t b.2.2 ∧ runS go next a (seqN t f p b.1) = (b.2.1, true) ∧ Rdy (k + (seqN t f p b.1).length) b.2.1) (fun b => (szR (at_ t.heights p.length)).toNat - b.1) ((0, a, s)) ?_ ?_ ?_
    · exact ⟨Nat.zero_le _, hp, hg, rfl, hr⟩
    · refine ⟨rfl, rfl, rfl, Nat.le_refl _, begins_refl _, ?_, allO_of (ok_xtra hi a s), trivial⟩
      have hlen : (M a ++ xtra t m0 l s).length = m0 + 3 := by simp [hi.len a, xtra]
      show Same _ (M a ++ xtra t m0 l s).length _
      rw [hlen]
      simp [AV.bare, bel_ints, cs_arr, dep_arr, cs_int, cs_bool, cs_list, cs_rg, cs_mk, AtHead, Same, AllO, Begins, LtAll, headSt, tokz_nil, tokz_cons, tokz1, lk, dep_int, dep_bool, dep_list, dep_rg, dep_mk, memAt, bel_map, bel_mapF, bel_mapO, bel_undef, bel_int, bel_boolv, bel_nilp, bel_nilf, bel_ptr, bel_arr, bel_mp, bel_yld, bel_agg, bel_tup, bel_ref, bel_only, bel_mpr, bel_fn, bel_sl_nil, bel_sl_nilF, bel_sl_nilO, bel_sl_cons, bel_sl_app, belO_cells, belO_tok, belO_dead, belO_deferred, belO_map, belO_iter, belO_loop, bel_vec, bel_vp, belO_vecM, belO_vec]
    · rintro ⟨n, b, s'⟩ ⟨hn, hp', hg', hrun, hrb⟩
      simp only at hn hp' hg' hrun hrb
      have e0 : memAt (M b ++ xtra t m0 l s') m0 = .cells [.yld l] := by rw [← hi.len b]; exact memAt_app _ _ 0
      have e1 : memAt (M b ++ xtra t m0 l s') (m0 + 1) = .cells (s'.l.map (AV.int .i64)) := by rw [← hi.len b]; exact memAt_app _ _ 1
      have hph : p.length < s'.l.length := by have := s'.h; have := hok.len; omega
      by_cases hnN : (n : Int) < szR (at_ t.heights p.length)
      · obtain ⟨s1, hs1⟩ : ∃ s1 : Arr 10, s1.l = s'.l.set p.length ((at_ t.heights p.length).lo + n) := ⟨⟨_, by simp [s'.h]⟩, rfl⟩
        have eset : (M b ++ xtra t m0 l s').set (m0 + 1) (AObj.cells ((s'.l.set p.length ((at_ t.heights p.length).lo + n)).map (AV.int .i64))) = M b ++ xtra t m0 l s1 := by
          rw [← hi.len b, set_app, ← hs1]; rfl
        have e1' : memAt (M b ++ xtra t m0 l s1) (m0 + 1) = .cells (s1.l.map (AV.int .i64)) := by rw [← hi.len b]; exact memAt_app _ _ 1
        have e2' : memAt (M b ++ xtra t m0 l s1) (m0 + 2) = .cells [.fn (.func 76) [] [.ref (tbC t) 0, .ptr m0 0, .ptr (m0 + 1) 0, .ptr (m0 + 2) 0]] := by rw [← hi.len b]; exact memAt_app _ _ 2
        have hov := fun v => over_ints hph v
        have hv : 0 ≤ (at_ t.heights p.length).lo + n ∧ (at_ t.heights p.length).lo + n ≤ 99 := by unfold szR at hnN; omega
        have hkl : p.length < (t.last + 1).toNat := by omega
        have ht1 : s1.l.take (p.length + 1) = p ++ [(at_ t.heights p.length).lo + n] := by rw [hs1, take_set_succ hph, hp']
        have hpq : (p ++ [(at_ t.heights p.length).lo + (n : Int)]).length = p.length + 1 := by simp
        have hat : ∀ i, i < p.length + 1 → at_ s1.l i = at_ (p ++ [(at_ t.heights p.length).lo + (n : Int)]) i := fun i h => by rw [← ht1, at_take h]
        have hgs1 : Good t s1 := by
          refine ⟨⟨by rw [s1.h]; omega, fun x hx => ?_⟩, ?_⟩
          · rw [hs1] at hx
            rcases List.mem_or_eq_of_mem_set hx with h | h
            · exact hg'.1.b x h
            · rw [h]; exact hv
          · rw [hs1, List.drop_set_of_lt hkl]; exact hg'.2
        have hnear : nearAt t s1.l p.length = nearAt t (p ++ [(at_ t.heights p.length).lo + (n : Int)]) p.length := by
          unfold nearAt
          rw [hat _ (by omega), hat _ (by omega)]
        have hl10 := hok.len
        have hb1 := hgs1.1.b _ (at_mem (l := s1.l) (i := p.length) (by have := s1.h; omega))
        have hb2 := hgs1.1.b _ (at_mem (l := s1.l) (i := ((p.length : Int) - 1).toNat) (by have := s1.h; omega))
        have hs0 := hok.s0
        have hs9 := hok.s1
        have h1 := s1.h
        have hsn := seqN_succ t f p n
        have hrn : runS go next a (seqN t f p (n + 1)) = runS go next b (if nearAt t s1.l p.length then seqP t f (p ++ [(at_ t.heights p.length).lo + n]) else []) := by
          rw [hsn, runS_append, hrun, ← hnear]; rfl
        have hlenb : ∀ (b : σ) (s : Arr 10), (M b ++ xtra t m0 l s).length = m0 + 3 := fun b s => by simp [hi.len b, xtra]
        have hpre : (seqN t f p (n + 1)).length ≤ (seqP t (f + 1) p).length := by
          obtain ⟨r, hr⟩ := seqN_prefix t f p (n + 1) ((szR (at_ t.heights p.length)).toNat - (n + 1))
          rw [show n + 1 + ((szR (at_ t.heights p.length)).toNat - (n + 1)) = (szR (at_ t.heights p.length)).toNat by omega] at hr
          rw [show seqP t (f + 1) p = seqN t f p (szR (at_ t.heights p.length)).toNat from rfl, hr, List.length_append]
          omega
        have hn1 : n + 1 ≤ (szR (at_ t.heights p.length)).toNat := by omega
        have hnN' := hnN
        unfold szR at hnN
        cases c : nearAt t s1.l p.length
        · rw [c] at hrn
          simp (maxSteps := 4000000) only [go_sem, AV.one, drawV, intsOf, keyIdx, putO, List.map_cons, List.length_cons, ↓reduceIte, e0, e1, e1', e2', eset, hov, tbC, hnN, getD_mapA hpl, c]
          all_goals (repeat' (first | with_reducible rfl | with_reducible apply And.intro | ((with_reducible show drawOK _ _ = true); rfl))) <;> (try first | omega | (simp only [InR]; omega) | with_reducible assumption)
          rw [← hnear, c, if_neg (by simp), List.append_nil] at hsn
          refine ⟨(n + 1, b, s1), ⟨hn1, ?_, hgs1, hrn, by dsimp only; rw [hsn]; exact hrb⟩, by dsimp only; omega, ?_⟩
          · have := congrArg (List.take p.length) ht1
            rw [List.take_take] at this
            simpa using this
          · refine atHead_weak ⟨rfl, rfl, rfl, Nat.le_of_eq (by dsimp only [headSt]; rw [hlenb, hlenb]), begins_refl _, ?_, allO_of (ok_xtra hi b s1), trivial⟩
            simp [AV.bare, bel_ints, cs_arr, dep_arr, cs_int, cs_bool, cs_list, cs_rg, cs_mk, AtHead, Same, AllO, Begins, LtAll, headSt, tokz_nil, tokz_cons, tokz1, lk, dep_int, dep_bool, dep_list, dep_rg, dep_mk, memAt, bel_map, bel_mapF, bel_mapO, bel_undef, bel_int, bel_boolv, bel_nilp, bel_nilf, bel_ptr, bel_arr, bel_mp, bel_yld, bel_agg, bel_tup, bel_ref, bel_only, bel_mpr, bel_fn, bel_sl_nil, bel_sl_nilF, bel_sl_nilO, bel_sl_cons, bel_sl_app, belO_cells, belO_tok, belO_dead, belO_deferred, belO_map, belO_iter, belO_loop, bel_vec, bel_vp, belO_vecM, belO_vec, hi.len b, xtra]
        · rw [c] at hrn
          simp (maxSteps := 4000000) only [go_sem, AV.one, drawV, intsOf, keyIdx, putO, List.map_cons, List.length_cons, ↓reduceIte, e0, e1, e1', e2', eset, hov, tbC, hnN, getD_mapA hpl, c]
          all_goals (repeat' (first | with_reducible rfl | with_reducible apply And.intro | ((with_reducible show drawOK _ _ = true); rfl))) <;> (try first | omega | (simp only [InR]; omega) | with_reducible assumption)
          rw [← hnear, c, if_pos rfl] at hsn
          have hlen2 := congrArg List.length hsn
          rw [List.length_append] at hlen2
          have ihq := ih (p ++ [(at_ t.heights p.length).lo + n]) s1 b (k + (seqN t f p n).length) (by rw [hpq]; omega) (by rw [hpq]; exact ht1) hgs1 hrb (by omega)
          rw [hpq, show ((p.length + 1 : Nat) : Int) = (p.length : Int) + 1 by omega] at ihq
          refine ⟨_, callX_of_callM ihq, ?_⟩
          rintro r mem' ⟨r0, rfl, ⟨s2, k1, k2, rfl, rfl, k5⟩, hlen⟩ _
          have hts2 : s2.l.take p.length = p := by
            have := congrArg (List.take p.length) k1
            rw [List.take_take] at this
            simpa using this
          cases c2 : (runS go next b (seqP t f (p ++ [(at_ t.heights p.length).lo + n]))).2
          all_goals
            simp (maxSteps := 4000000) only [go_sem, AV.one, drawV, intsOf, keyIdx, over, putO, List.map_cons, List.length_cons, ↓reduceIte, c2]
            all_goals (repeat' (first | with_reducible rfl | with_reducible apply And.intro | ((with_reducible show drawOK _ _ = true); rfl))) <;> (try first | omega | (simp only [InR]; omega) | with_reducible assumption)
          · have hW : runS go next a (seqP t (f + 1) p) = runS go next b (seqP t f (p ++ [(at_ t.heights p.length).lo + (n : Int)])) := by
              obtain ⟨r, hr⟩ := seqN_prefix t f p (n + 1) ((szR (at_ t.heights p.length)).toNat - (n + 1))
              rw [show n + 1 + ((szR (at_ t.heights p.length)).toNat - (n + 1)) = (szR (at_ t.heights p.length)).toNat by omega] at hr
              rw [show seqP t (f + 1) p = seqN t f p (szR (at_ t.heights p.length)).toNat from rfl, hr, runS_append, hrn, if_pos rfl, c2, if_neg (by simp)]
            rw [hW]
            refine ⟨s2, hts2, k2, by rw [c2], ?_, fun q => by rw [c2] at q; cases q⟩
            rw [List.take_of_length_le (by rw [hlenb, hlenb]; omega)]
          · trivial
          · rw [List.take_of_length_le (by rw [hlenb, hlenb]; omega)]
            have := ok_xtra hi (runS go next b (seqP t f (p ++ [(at_ t.heights p.length).lo + (n : Int)]))).1 s2
            rw [hlenb] at this ⊢
            exact this
          · refine ⟨(n + 1, (runS go next b (seqP t f (p ++ [(at_ t.heights p.length).lo + (n : Int)]))).1, s2), ⟨hn1, hts2, k2, ?_, by dsimp only; rw [hlen2, ← Nat.add_assoc]; exact k5 c2⟩, by dsimp only; omega, ?_⟩
            · rw [hrn, if_pos rfl, ← c2]
            · refine atHead_weak ⟨rfl, rfl, rfl, Nat.le_of_eq (by dsimp only [headSt]; rw [hlenb, hlenb]), begins_refl _, ?_, allO_of (ok_xtra hi _ s2), trivial⟩
              simp [AV.bare, bel_ints, cs_arr, dep_arr, cs_int, cs_bool, cs_list, cs_rg, cs_mk, AtHead, Same, AllO, Begins, LtAll, headSt, tokz_nil, tokz_cons, tokz1, lk, dep_int, dep_bool, dep_list, dep_rg, dep_mk, memAt, bel_map, bel_mapF, bel_mapO, bel_undef, bel_int, bel_boolv, bel_nilp, bel_nilf, bel_ptr, bel_arr, bel_mp, bel_yld, bel_agg, bel_tup, bel_ref, bel_only, bel_mpr, bel_fn, bel_sl_nil, bel_sl_nilF, bel_sl_nilO, bel_sl_cons, bel_sl_app, belO_cells, belO_tok, belO_dead, belO_deferred, belO_map, belO_iter, belO_loop, bel_vec, bel_vp, belO_vecM, belO_vec, hi.len, xtra]
      · have hN : n = (szR (at_ t.heights p.length)).toNat := by omega
        have hW : runS go next a (seqP t (f + 1) p) = (b, true) := by
          rw [show seqP t (f + 1) p = seqN t f p (szR (at_ t.heights p.length)).toNat from rfl, ← hN, hrun]
        unfold szR at hnN
        simp (maxSteps := 4000000) only [go_sem, AV.one, drawV, intsOf, keyIdx, over, putO, List.map_cons, List.length_cons, ↓reduceIte, hnN]
        have hlenb : ∀ (b : σ) (s : Arr 10), (M b ++ xtra t m0 l s).length = m0 + 3 := fun b s => by simp [hi.len b, xtra]
        rw [hW]
        have hok2 := ok_xtra hi b s'
        rw [List.take_of_length_le (by rw [hlenb, hlenb]; omega)]
        rw [hlenb] at hok2 ⊢
        exact ⟨⟨s', hp', hg', rfl, rfl, fun _ => by rw [show seqP t (f + 1) p = seqN t f p (szR (at_ t.heights p.length)).toNat from rfl, ← hN]; exact hrb⟩, trivial, hok2⟩
theorem lists1_call (hi : Iter M m0 l t go next Rdy T) (hok : HOk t) (hl : (t.heights.length : Int) = t.last + 1) (a : σ) (hr : Rdy 0 a) (hT : (seqL t).length ≤ T) :
    CallM Try.prog 75 [.yld l, .ref (tbC t) 0] (M a) (fun r mem' => mem' = M (runS go next a (seqL t)).1) := by
  refine callM_of_vc (Φ := P34) Try.func75 rfl (by rfl) (by rw [Try.ntmps75]; simp) mixed P34_ok (by simp [AV.strip, AV.strip1]) ?_
  rw [Try.ntmps75]
  simp only [Try.f75, startSt, tmFrom]
  have hla := hi.len a
  have f2 : ∀ x y z : AObj, memAt (M a ++ [x, y, z]) (m0 + 2) = z := fun x y z => by rw [← hla]; exact memAt_app _ _ 2
  have fset : ∀ x y z o : AObj, (M a ++ [x, y, z]).set (m0 + 2) o = M a ++ [x, y, o] := fun x y z o => by rw [← hla, set_app]; rfl
  have hgz : Good t zeroA10 := by
    refine ⟨⟨by rw [zeroA10.h]; omega, fun x hx => ?_⟩, ?_⟩
    · have := (List.mem_replicate.1 hx).2
      subst this; omega
    · show List.drop _ (List.replicate 10 0) = _
      rw [List.drop_replicate]
  have hc := choose_call hi hok hl (t.last + 1).toNat [] zeroA10 a 0 (by simp) rfl hgz hr (by rw [Nat.zero_add]; exact hT)
  simp (maxSteps := 4000000) only [go_sem, AV.one, drawV, intsOf, keyIdx, over, putO, List.map_cons, List.length_cons, ↓reduceIte, List.append_assoc, List.length_append, hla, f2, fset]
  refine ⟨_, callX_of_callM hc, ?_⟩
  rintro r mem' ⟨r0, rfl, ⟨s', h1, h2, rfl, rfl, h5⟩, hlen⟩ _
  have ht : List.take m0 (M (runS go next a (seqP t (t.last + 1).toNat [])).1 ++ xtra t m0 l s') = M (runS go next a (seqP t (t.last + 1).toNat [])).1 := by
    rw [List.take_append_of_le_length (by rw [hi.len]; omega), List.take_of_length_le (by rw [hi.len]; omega)]
  rw [ht]
  exact ⟨rfl, by simp [bel], hi.ok _⟩
end
theorem lists_call (t : Tb) : CallP Try.prog 59 [Enc.enc t] (· = .fn (.func 75) [] [.ref (tbC t) 0]) := by
  simp only [enc_fnl, enc_fnb, enc_fnc, enc_refc, enc_arr, enc_int, enc_bool, enc_list, enc_rg, enc_mk, enc_tb]
  refine callP_of_vc (Φ := P34) Try.func59 rfl (by rfl) (by rw [Try.ntmps59]; simp) mixed P34_ok (by simp [AV.strip, AV.strip1, Tk.strip]) ?_
  rw [Try.ntmps59]
  simp only [Try.f59, startSt, tmFrom]
  simp (maxSteps := 4000000) only [go_sem, AV.one, drawV, intsOf, keyIdx, over, putO, memAt, List.map_cons, List.length_cons, ↓reduceIte, tbC]
structure IterV where
  t : Tb
instance : Enc IterV where
  enc x := .fn (.func 75) [] [.ref (tbC x.t) 0]
  dec _ := none
  law v x h := by cases h
  dep := 4
  ok x := by
    simp only [pureN, tbC, List.mem_cons, List.not_mem_nil, or_false, forall_eq_or_imp, forall_eq, true_and, List.mem_map, forall_exists_index, and_imp, forall_apply_eq_imp_iff₂]
    exact ⟨fun _ h => h.elim, fun a _ => EncE.ok a, fun a _ => EncE.ok a, fun a _ => EncE.ok a⟩
theorem enc_iterv (x : IterV) : Enc.enc x = .fn (.func 75) [] [.ref (tbC x.t) 0] := rfl
def P35 : Specs := addSpec 59 (spec1 (fun _ => True) IterV.mk) (P34)
theorem P35_app (g : FuncId) : P35 g = (addSpec 59 (spec1 (fun _ => True) IterV.mk) (P34)) g := rfl
theorem P35_ok : SpecsOk Try.prog P35 := addSpec_ok (spec1_ok fun t _ => lists_call t) (P34_ok)
attribute [go_sem] P35_app
theorem P35_flag (d : Option Nat) : flagOf P35 d = none := (flagOf_add (by decide) d).trans (P34_flag d)
attribute [go_sem] P35_flag
end Go.Proofs
