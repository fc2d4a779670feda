/- The texts S17, S18, S19, joined. -/
import Derived.Test.YtfdnifofpkceiaaG9
import Derived.OwnWalkIn
import Derived.TacticsInMore
import Derived.RegionIn
set_option linter.all false
namespace Go.Proofs
open Go.Fs
set_option linter.unusedSimpArgs false
set_option linter.unusedVariables false
set_option maxHeartbeats 4000000
set_option maxRecDepth 8000
def P33 : Specs := addSpec 14 (spec2 (fun (s : Sh) (p : List Int) => s.stacks.length ≤ 4096 ∧ p.length ≤ 4096) savedQ) (P32)
theorem P33_app (g : FuncId) : P33 g = (addSpec 14 (spec2 (fun (s : Sh) (p : List Int) => s.stacks.length ≤ 4096 ∧ p.length ≤ 4096) savedQ) (P32)) g := rfl
theorem P33_ok : SpecsOk Try.prog P33 := addSpec_ok (spec2_ok Saved_call) (P32_ok)
attribute [go_sem] P33_app
theorem P33_flag (d : Option Nat) : flagOf P33 d = none := (flagOf_add (by decide) d).trans (P32_flag d)
attribute [go_sem] P33_flag
def minL : List Int → Int
  | [] => 0
  | x :: l => l.foldl min x
theorem minL_two (a b : Int) : minL [a, b] = min a b := rfl
theorem minL_snoc (l : List Int) (x : Int) (h : l ≠ []) : minL (l ++ [x]) = min (minL l) x := by
  cases l with
  | nil => exact absurd rfl h
  | cons y r => simp [minL, List.foldl_append]
theorem minL_take {l : List Int} {i : Nat} (h : i + 1 < l.length) : minL (l.take (i + 1 + 1)) = min (minL (l.take (i + 1))) (at_ l (i + 1)) := by
  rw [take_succ_at h, minL_snoc]
  intro e
  have : (l.take (i + 1)).length = 0 := by rw [e]; rfl
  rw [List.length_take] at this
  omega
theorem Min_call (l : List Int) (h : l ≠ [] ∧ l.length ≤ 4096) : CallP Try.prog 63 [Enc.enc l] (· = Enc.enc (minL l)) := by
  have hl : 0 < l.length := List.length_pos_iff.2 h.1
  have h2 := h.2
  simp only [enc_fnl, enc_fnb, enc_fnc, enc_refc, enc_arr, enc_int, enc_bool, enc_list, enc_sk, enc_sp, enc_rg, enc_sh, enc_tr, enc_refs, enc_fns, enc_wks]
  refine callP_of_vc (Φ := P33) Try.func63 rfl (by rfl) (by rw [Try.ntmps63]; simp) mixed P33_ok (by simp [AV.strip, AV.strip1, Tk.strip]) ?_
  rw [Try.ntmps63]
  simp only [Try.f63, startSt, tmFrom]
  simp (maxSteps := 4000000) only [go_sem, AV.one, drawV, intsOf, keyIdx, over, putO, memAt, List.map_cons, List.length_cons, ↓reduceIte, zdrop, one_i, one_b, one_sl, one_ptr, one_ref, one_nilp, one_mp, one_fn, one_nilf, getD_mapA hl, show ¬ ((l.length : Int) < 1) by omega, show (0 : Int) < l.length by omega]
  refine loopN (l.length - 1) [] [0, 2] (fun i => [(4, .int .i64 ((i + 1 : Nat) : Int)), (3, .int .i64 (minL (l.take (i + 1))))]) (fun _ m => m) (fun _ => True) ?_ ?_ ?_ ?_
  · trivial
  · cases l with
    | nil => simp at hl
    | cons x l => simp [AV.bare, bel_ints, cs_arr, dep_arr, cs_int, cs_bool, cs_list, cs_sk, cs_sp, AtHead, Same, AllO, Begins, LtAll, headSt, tokz_nil, tokz_cons, tokz1, lk, dep_int, dep_bool, dep_list, dep_sk, dep_sp, memAt, bel_map, bel_mapF, bel_mapO, bel_undef, bel_int, bel_boolv, bel_nilp, bel_nilf, bel_ptr, bel_arr, bel_mp, bel_yld, bel_agg, bel_tup, bel_ref, bel_only, bel_mpr, bel_fn, bel_sl_nil, bel_sl_nilF, bel_sl_nilO, bel_sl_cons, bel_sl_app, belO_cells, belO_tok, belO_dead, belO_deferred, belO_map, belO_iter, belO_loop, bel_vec, bel_vp, belO_vecM, belO_vec, minL, at_]
  · intro i hi _
    have hi2 : i + 1 < l.length := by omega
    simp (maxSteps := 4000000) only [go_sem, AV.one, drawV, intsOf, keyIdx, over, putO, memAt, List.map_cons, List.length_cons, ↓reduceIte, zdrop, one_i, one_b, one_sl, one_ptr, one_ref, one_nilp, one_mp, one_fn, one_nilf, getD_mapA hi2, Int.ofNat_lt.2 hi2]
    all_goals (repeat' (first | with_reducible rfl | with_reducible apply And.intro | ((with_reducible show drawOK _ _ = true); rfl))) <;> (try first | omega | (simp only [InR]; omega) | with_reducible assumption)
    refine nxt hi trivial ?_
    have := minL_take hi2
    simp [AV.bare, bel_ints, cs_arr, dep_arr, cs_int, cs_bool, cs_list, cs_sk, cs_sp, AtHead, Same, AllO, Begins, LtAll, headSt, tokz_nil, tokz_cons, tokz1, lk, dep_int, dep_bool, dep_list, dep_sk, dep_sp, memAt, bel_map, bel_mapF, bel_mapO, bel_undef, bel_int, bel_boolv, bel_nilp, bel_nilf, bel_ptr, bel_arr, bel_mp, bel_yld, bel_agg, bel_tup, bel_ref, bel_only, bel_mpr, bel_fn, bel_sl_nil, bel_sl_nilF, bel_sl_nilO, bel_sl_cons, bel_sl_app, belO_cells, belO_tok, belO_dead, belO_deferred, belO_map, belO_iter, belO_loop, bel_vec, bel_vp, belO_vecM, belO_vec, this]
  · intro _
    have hn : ¬ (((l.length - 1 + 1 : Nat) : Int) < l.length) := by omega
    simp (maxSteps := 4000000) only [go_sem, AV.one, drawV, intsOf, keyIdx, over, putO, memAt, List.map_cons, List.length_cons, ↓reduceIte, zdrop, one_i, one_b, one_sl, one_ptr, one_ref, one_nilp, one_mp, one_fn, one_nilf, hn]
    rw [List.take_of_length_le (by omega)]
def P34 : Specs := addSpec 63 (spec1 (fun l : List Int => l ≠ [] ∧ l.length ≤ 4096) minL) (P33)
theorem P34_app (g : FuncId) : P34 g = (addSpec 63 (spec1 (fun l : List Int => l ≠ [] ∧ l.length ≤ 4096) minL) (P33)) g := rfl
theorem P34_ok : SpecsOk Try.prog P34 := addSpec_ok (spec1_ok Min_call) (P33_ok)
attribute [go_sem] P34_app
theorem P34_flag (d : Option Nat) : flagOf P34 d = none := (flagOf_add (by decide) d).trans (P33_flag d)
attribute [go_sem] P34_flag
theorem minimum_call (l : List Int) (h : l ≠ [] ∧ l.length ≤ 4096) : CallP Try.prog 40 [Enc.enc l] (· = Enc.enc (minL l)) := by
  simp only [enc_fnl, enc_fnb, enc_fnc, enc_refc, enc_arr, enc_int, enc_bool, enc_list, enc_sk, enc_sp, enc_rg, enc_sh, enc_tr, enc_refs, enc_fns, enc_wks]
  refine callP_of_vc (Φ := P34) Try.func40 rfl (by rfl) (by rw [Try.ntmps40]; simp) mixed P34_ok (by simp [AV.strip, AV.strip1, Tk.strip]) ?_
  rw [Try.ntmps40]
  simp only [Try.f40, startSt, tmFrom]
  simp (maxSteps := 4000000) only [go_sem, AV.one, drawV, intsOf, keyIdx, over, putO, memAt, List.map_cons, List.length_cons, ↓reduceIte, zdrop, one_i, one_b, one_sl, one_ptr, one_ref, one_nilp, one_mp, one_fn, one_nilf]
  exact h
def P3401 : Specs := vecT [7] P34
theorem P3401_app (g : FuncId) (h : ¬ (g = 4000000000)) : P3401 g = P34 g := by unfold P3401 vecT; rw [if_neg h]
theorem P3401_ok : SpecsOk Try.prog P3401 := vecT_ok P34_ok
theorem P3401_flag (d : Nat) : flagOf P3401 (some d) = if d ∈ ([7] : List Nat) then some d else none := flagOf_vecT _ _ d
attribute [go_sem] P3401_app P3401_flag
theorem CloneSk_call (l : List Sk) (x : Sh) (h : l.length ≤ 4096) (h0 : l ≠ []) : CallX Try.prog 61 [.sl (l.map EncE.cs) .no] [.cells [.sl (x.stacks.map EncE.cs) .no, .int .i64 x.hands, .int .i64 x.rain.lo, .int .i64 x.rain.hi], .cells [.sl [] .full, .int .i64 0, .int .i64 0, .int .i64 0]]
    (fun r m => r = .vec 2 1 0 l.length 3 ∧ m = [.cells [.sl (x.stacks.map EncE.cs) .no, .int .i64 x.hands, .int .i64 x.rain.lo, .int .i64 x.rain.hi], .cells [.sl [] .full, .int .i64 0, .int .i64 0, .int .i64 0], .vec (l.map EncE.cs) 3 1]) := by
  refine callX_of_vc (Φ := P3401) Try.func61 rfl (by rfl) (by rw [Try.ntmps61]; simp) mixed P3401_ok ?_
  rw [Try.ntmps61]
  simp only [Try.f61, startSt, tmFrom]
  simp (maxSteps := 4000000) only [go_sem, AV.one, drawV, intsOf, keyIdx, over, putO, memAt, List.map_cons, List.length_cons, ↓reduceIte, zdrop, one_i, one_b, one_sl, one_ptr, one_ref, one_nilp, one_mp, one_fn, one_nilf, ne_eq]
  all_goals (repeat' (first | with_reducible rfl | with_reducible apply And.intro | ((with_reducible show drawOK _ _ = true); rfl))) <;> (try first | omega | (simp only [InR]; omega) | with_reducible assumption)
  intro b hb
  cases b
  · simp (maxSteps := 4000000) only [go_sem, AV.one, drawV, intsOf, keyIdx, over, putO, memAt, List.map_cons, List.length_cons, ↓reduceIte, zdrop, one_i, one_b, one_sl, one_ptr, one_ref, one_nilp, one_mp, one_fn, one_nilf, ne_eq]
    all_goals (repeat' (first | with_reducible rfl | with_reducible apply And.intro | ((with_reducible show drawOK _ _ = true); rfl))) <;> (try first | omega | (simp only [InR]; omega) | with_reducible assumption)
    · simp [cs_sk, AV.one]
    · refine ⟨3, by simp, by simp, ?_⟩
      simp [AV.bare, bel_ints, cs_arr, dep_arr, cs_int, cs_bool, cs_list, cs_sk, cs_sp, AtHead, Same, AllO, Begins, LtAll, headSt, tokz_nil, tokz_cons, tokz1, lk, dep_int, dep_bool, dep_list, dep_sk, dep_sp, memAt, bel_map, bel_mapF, bel_mapO, bel_undef, bel_int, bel_boolv, bel_nilp, bel_nilf, bel_ptr, bel_arr, bel_mp, bel_yld, bel_agg, bel_tup, bel_ref, bel_only, bel_mpr, bel_fn, bel_sl_nil, bel_sl_nilF, bel_sl_nilO, bel_sl_cons, bel_sl_app, belO_cells, belO_tok, belO_dead, belO_deferred, belO_map, belO_iter, belO_loop, bel_vec, bel_vp, belO_vecM, belO_vec, -List.map_map]
  · have : l = [] := by simpa using hb
    exact absurd this h0
theorem CloneSkNil_call (x : Sh) : CallX Try.prog 61 [.sl [] .no] [.cells [.sl (x.stacks.map EncE.cs) .no, .int .i64 x.hands, .int .i64 x.rain.lo, .int .i64 x.rain.hi], .cells [.sl [] .full, .int .i64 0, .int .i64 0, .int .i64 0]]
    (fun r m => (r = .sl [] .full ∧ m = [.cells [.sl (x.stacks.map EncE.cs) .no, .int .i64 x.hands, .int .i64 x.rain.lo, .int .i64 x.rain.hi], .cells [.sl [] .full, .int .i64 0, .int .i64 0, .int .i64 0]]) ∨ (r = .vec 2 1 0 0 3 ∧ m = [.cells [.sl (x.stacks.map EncE.cs) .no, .int .i64 x.hands, .int .i64 x.rain.lo, .int .i64 x.rain.hi], .cells [.sl [] .full, .int .i64 0, .int .i64 0, .int .i64 0], .vec [] 3 1])) := by
  refine callX_of_vc (Φ := P3401) Try.func61 rfl (by rfl) (by rw [Try.ntmps61]; simp) mixed P3401_ok ?_
  rw [Try.ntmps61]
  simp only [Try.f61, startSt, tmFrom]
  simp (maxSteps := 4000000) only [go_sem, AV.one, drawV, intsOf, keyIdx, over, putO, memAt, List.map_cons, List.length_cons, ↓reduceIte, zdrop, one_i, one_b, one_sl, one_ptr, one_ref, one_nilp, one_mp, one_fn, one_nilf, ne_eq]
  all_goals (repeat' (first | with_reducible rfl | with_reducible apply And.intro | ((with_reducible show drawOK _ _ = true); rfl))) <;> (try first | omega | (simp only [InR]; omega) | with_reducible assumption)
  intro b
  cases b
  · simp (maxSteps := 4000000) only [go_sem, AV.one, drawV, intsOf, keyIdx, over, putO, memAt, List.map_cons, List.length_cons, ↓reduceIte, zdrop, one_i, one_b, one_sl, one_ptr, one_ref, one_nilp, one_mp, one_fn, one_nilf, ne_eq]
    all_goals (repeat' (first | with_reducible rfl | with_reducible apply And.intro | ((with_reducible show drawOK _ _ = true); rfl))) <;> (try first | omega | (simp only [InR]; omega) | with_reducible assumption)
    · refine ⟨3, by simp, by simp, .inr ?_, ?_⟩
      · simp
      · simp [AV.bare, bel_ints, cs_arr, dep_arr, cs_int, cs_bool, cs_list, cs_sk, cs_sp, AtHead, Same, AllO, Begins, LtAll, headSt, tokz_nil, tokz_cons, tokz1, lk, dep_int, dep_bool, dep_list, dep_sk, dep_sp, memAt, bel_map, bel_mapF, bel_mapO, bel_undef, bel_int, bel_boolv, bel_nilp, bel_nilf, bel_ptr, bel_arr, bel_mp, bel_yld, bel_agg, bel_tup, bel_ref, bel_only, bel_mpr, bel_fn, bel_sl_nil, bel_sl_nilF, bel_sl_nilO, bel_sl_cons, bel_sl_app, belO_cells, belO_tok, belO_dead, belO_deferred, belO_map, belO_iter, belO_loop, bel_vec, bel_vp, belO_vecM, belO_vec, -List.map_map]
  · simp (maxSteps := 4000000) only [go_sem, AV.one, drawV, intsOf, keyIdx, over, putO, memAt, List.map_cons, List.length_cons, ↓reduceIte, zdrop, one_i, one_b, one_sl, one_ptr, one_ref, one_nilp, one_mp, one_fn, one_nilf]
    all_goals (repeat' (first | with_reducible rfl | with_reducible apply And.intro | ((with_reducible show drawOK _ _ = true); rfl))) <;> (try first | omega | (simp only [InR]; omega) | with_reducible assumption)
    refine ⟨2, by simp, by simp, .inl ?_, ?_⟩
    · simp
    · simp [AV.bare, bel_ints, cs_arr, dep_arr, cs_int, cs_bool, cs_list, cs_sk, cs_sp, AtHead, Same, AllO, Begins, LtAll, headSt, tokz_nil, tokz_cons, tokz1, lk, dep_int, dep_bool, dep_list, dep_sk, dep_sp, memAt, bel_map, bel_mapF, bel_mapO, bel_undef, bel_int, bel_boolv, bel_nilp, bel_nilf, bel_ptr, bel_arr, bel_mp, bel_yld, bel_agg, bel_tup, bel_ref, bel_only, bel_mpr, bel_fn, bel_sl_nil, bel_sl_nilF, bel_sl_nilO, bel_sl_cons, bel_sl_app, belO_cells, belO_tok, belO_dead, belO_deferred, belO_map, belO_iter, belO_loop, bel_vec, bel_vp, belO_vecM, belO_vec, -List.map_map]
def P35 : Specs := addSpec 40 (spec1 (fun l : List Int => l ≠ [] ∧ l.length ≤ 4096) minL) (P34)
theorem P35_app (g : FuncId) : P35 g = (addSpec 40 (spec1 (fun l : List Int => l ≠ [] ∧ l.length ≤ 4096) minL) (P34)) g := rfl
theorem P35_ok : SpecsOk Try.prog P35 := addSpec_ok (spec1_ok minimum_call) (P34_ok)
attribute [go_sem] P35_app
theorem P35_flag (d : Option Nat) : flagOf P35 d = none := (flagOf_add (by decide) d).trans (P34_flag d)
attribute [go_sem] P35_flag
def zeroS (st : List Sk) (l : List Int) : List Sk := l.foldl (fun st i => st.set i.toNat ⟨0, (at_ st i.toNat).leak⟩) st
theorem zeroS_len (l : List Int) : ∀ st : List Sk, (zeroS st l).length = st.length := by
  induction l with
  | nil => intro st; rfl
  | cons x l ih => intro st; unfold zeroS at *; rw [List.foldl_cons, ih]; simp
theorem zeroS_take {st : List Sk} {l : List Int} {i : Nat} (hi : i < l.length) : zeroS st (l.take (i + 1)) = (zeroS st (l.take i)).set (at_ l i).toNat ⟨0, (at_ (zeroS st (l.take i)) (at_ l i).toNat).leak⟩ := by
  unfold zeroS; rw [take_succ_at hi, List.foldl_append]; rfl
def withoutS (s : Sh) (l : List Int) : Sh := ⟨zeroS s.stacks l, s.hands, s.rain⟩
theorem set_sk (Z : List Sk) (k : Nat) (x : Sk) : (Z.map EncE.cs).set k [.int .i64 x.chairs, .int .i64 x.leak.lo, .int .i64 x.leak.hi] = (Z.set k x).map EncE.cs := by
  rw [List.map_set]; rfl
theorem without_call (s : Sh) (l : List Int) (h : s.stacks.length ≤ 4096 ∧ l.length ≤ 4096 ∧ ∀ x ∈ l, idxOk s x) : CallP Try.prog 37 [Enc.enc s, Enc.enc l] (· = Enc.enc (withoutS s l)) := by
  obtain ⟨h1, h2, hl⟩ := h
  unfold withoutS
  by_cases h0 : s.stacks = []
  · have hl0 : l = [] := by
      cases l with
      | nil => rfl
      | cons x r => have := (hl x (by simp)); unfold idxOk at this; rw [h0] at this; simp at this; omega
    subst hl0
    have hst : s.stacks = [] := h0
    have hc := CloneSkNil_call s
    have hz : zeroS [] [] = ([] : List Sk) := rfl
    rw [hst] at hc
    rw [hst, hz]
    simp only [enc_fnl, enc_fnb, enc_fnc, enc_refc, enc_arr, enc_int, enc_bool, enc_list, enc_sk, enc_sp, enc_rg, enc_sh, enc_tr, enc_refs, enc_fns, enc_wks]
    refine callP_of_vc (Φ := P35) Try.func37 rfl (by rfl) (by rw [Try.ntmps37]; simp) mixed P35_ok (by simp [AV.strip, AV.strip1, Tk.strip]) ?_
    rw [Try.ntmps37]
    simp only [Try.f37, startSt, tmFrom]
    simp (maxSteps := 4000000) only [go_sem, AV.one, drawV, intsOf, keyIdx, over, putO, memAt, List.map_cons, List.length_cons, ↓reduceIte, zdrop, one_i, one_b, one_sl, one_ptr, one_ref, one_nilp, one_mp, one_fn, one_nilf, hst]
    all_goals (repeat' (first | with_reducible rfl | with_reducible apply And.intro | ((with_reducible show drawOK _ _ = true); rfl))) <;> (try first | omega | (simp only [InR]; omega) | with_reducible assumption)
    refine ⟨_, hc, ?_⟩
    rintro r mem' (⟨rfl, rfl⟩ | ⟨rfl, rfl⟩) _
    · simp (maxSteps := 4000000) only [go_sem, AV.one, drawV, intsOf, keyIdx, over, putO, memAt, List.map_cons, List.length_cons, ↓reduceIte, zdrop, one_i, one_b, one_sl, one_ptr, one_ref, one_nilp, one_mp, one_fn, one_nilf]
      all_goals (repeat' (first | with_reducible rfl | with_reducible apply And.intro | ((with_reducible show drawOK _ _ = true); rfl))) <;> (try first | omega | (simp only [InR]; omega) | with_reducible assumption)
      refine loopN (0) [] [2, 4, 11, 12] (fun i => [(13, .int .i64 i)]) (fun _ m => m) (fun _ => True) ?_ ?_ ?_ ?_
      · trivial
      · simp [AV.bare, bel_ints, cs_arr, dep_arr, cs_int, cs_bool, cs_list, cs_sk, cs_sp, AtHead, Same, AllO, Begins, LtAll, headSt, tokz_nil, tokz_cons, tokz1, lk, dep_int, dep_bool, dep_list, dep_sk, dep_sp, memAt, bel_map, bel_mapF, bel_mapO, bel_undef, bel_int, bel_boolv, bel_nilp, bel_nilf, bel_ptr, bel_arr, bel_mp, bel_yld, bel_agg, bel_tup, bel_ref, bel_only, bel_mpr, bel_fn, bel_sl_nil, bel_sl_nilF, bel_sl_nilO, bel_sl_cons, bel_sl_app, belO_cells, belO_tok, belO_dead, belO_deferred, belO_map, belO_iter, belO_loop, bel_vec, bel_vp, belO_vecM, belO_vec]
      · intro i hi; omega
      · intro _
        simp (maxSteps := 4000000) only [go_sem, AV.one, drawV, intsOf, keyIdx, over, putO, memAt, List.map_cons, List.length_cons, ↓reduceIte, zdrop, one_i, one_b, one_sl, one_ptr, one_ref, one_nilp, one_mp, one_fn, one_nilf, Int.lt_irrefl]
        all_goals (repeat' (first | with_reducible rfl | with_reducible apply And.intro | ((with_reducible show drawOK _ _ = true); rfl))) <;> (try first | omega | (simp only [InR]; omega) | with_reducible assumption)
    · simp (maxSteps := 4000000) only [go_sem, AV.one, drawV, intsOf, keyIdx, over, putO, memAt, List.map_cons, List.length_cons, ↓reduceIte, zdrop, one_i, one_b, one_sl, one_ptr, one_ref, one_nilp, one_mp, one_fn, one_nilf]
      all_goals (repeat' (first | with_reducible rfl | with_reducible apply And.intro | ((with_reducible show drawOK _ _ = true); rfl))) <;> (try first | omega | (simp only [InR]; omega) | with_reducible assumption)
      refine loopN (0) [] [2, 4, 11, 12] (fun i => [(13, .int .i64 i)]) (fun _ m => m) (fun _ => True) ?_ ?_ ?_ ?_
      · trivial
      · simp [AV.bare, bel_ints, cs_arr, dep_arr, cs_int, cs_bool, cs_list, cs_sk, cs_sp, AtHead, Same, AllO, Begins, LtAll, headSt, tokz_nil, tokz_cons, tokz1, lk, dep_int, dep_bool, dep_list, dep_sk, dep_sp, memAt, bel_map, bel_mapF, bel_mapO, bel_undef, bel_int, bel_boolv, bel_nilp, bel_nilf, bel_ptr, bel_arr, bel_mp, bel_yld, bel_agg, bel_tup, bel_ref, bel_only, bel_mpr, bel_fn, bel_sl_nil, bel_sl_nilF, bel_sl_nilO, bel_sl_cons, bel_sl_app, belO_cells, belO_tok, belO_dead, belO_deferred, belO_map, belO_iter, belO_loop, bel_vec, bel_vp, belO_vecM, belO_vec]
      · intro i hi; omega
      · intro _
        simp (maxSteps := 4000000) only [go_sem, AV.one, drawV, intsOf, keyIdx, over, putO, memAt, List.map_cons, List.length_cons, ↓reduceIte, zdrop, one_i, one_b, one_sl, one_ptr, one_ref, one_nilp, one_mp, one_fn, one_nilf, Int.lt_irrefl]
        all_goals (repeat' (first | with_reducible rfl | with_reducible apply And.intro | ((with_reducible show drawOK _ _ = true); rfl))) <;> (try first | omega | (simp only [InR]; omega) | with_reducible assumption)
  · have hc := CloneSk_call s.stacks s h1 h0
    simp only [enc_fnl, enc_fnb, enc_fnc, enc_refc, enc_arr, enc_int, enc_bool, enc_list, enc_sk, enc_sp, enc_rg, enc_sh, enc_tr, enc_refs, enc_fns, enc_wks]
    refine callP_of_vc (Φ := P35) Try.func37 rfl (by rfl) (by rw [Try.ntmps37]; simp) mixed P35_ok (by simp [AV.strip, AV.strip1, Tk.strip]) ?_
    rw [Try.ntmps37]
    simp only [Try.f37, startSt, tmFrom]
    simp (maxSteps := 4000000) only [go_sem, AV.one, drawV, intsOf, keyIdx, over, putO, memAt, List.map_cons, List.length_cons, ↓reduceIte, zdrop, one_i, one_b, one_sl, one_ptr, one_ref, one_nilp, one_mp, one_fn, one_nilf]
    all_goals (repeat' (first | with_reducible rfl | with_reducible apply And.intro | ((with_reducible show drawOK _ _ = true); rfl))) <;> (try first | omega | (simp only [InR]; omega) | with_reducible assumption)
    refine ⟨_, hc, ?_⟩
    rintro r mem' ⟨rfl, rfl⟩ _
    simp (maxSteps := 4000000) only [go_sem, AV.one, drawV, intsOf, keyIdx, over, putO, memAt, List.map_cons, List.length_cons, ↓reduceIte, zdrop, one_i, one_b, one_sl, one_ptr, one_ref, one_nilp, one_mp, one_fn, one_nilf]
    all_goals (repeat' (first | with_reducible rfl | with_reducible apply And.intro | ((with_reducible show drawOK _ _ = true); rfl))) <;> (try first | omega | (simp only [InR]; omega) | with_reducible assumption)
    have hzl := fun i => zeroS_len (l.take i) s.stacks
    refine loopN (l.length) [] [2, 4, 11, 12] (fun i => [(13, .int .i64 i)]) (fun i m => m.set 2 (.vec ((zeroS s.stacks (l.take i)).map EncE.cs) 3 1)) (fun _ => True) ?_ ?_ ?_ ?_
    · trivial
    · simp [AV.bare, bel_ints, cs_arr, dep_arr, cs_int, cs_bool, cs_list, cs_sk, cs_sp, AtHead, Same, AllO, Begins, LtAll, headSt, tokz_nil, tokz_cons, tokz1, lk, dep_int, dep_bool, dep_list, dep_sk, dep_sp, memAt, bel_map, bel_mapF, bel_mapO, bel_undef, bel_int, bel_boolv, bel_nilp, bel_nilf, bel_ptr, bel_arr, bel_mp, bel_yld, bel_agg, bel_tup, bel_ref, bel_only, bel_mpr, bel_fn, bel_sl_nil, bel_sl_nilF, bel_sl_nilO, bel_sl_cons, bel_sl_app, belO_cells, belO_tok, belO_dead, belO_deferred, belO_map, belO_iter, belO_loop, bel_vec, bel_vp, belO_vecM, belO_vec, zeroS, -List.map_map]
    · intro i hi _
      have hi' := Int.ofNat_lt.2 hi
      have hx := hl _ (at_mem hi)
      have hzt := zeroS_take (st := s.stacks) hi
      have hzi := hzl i
      obtain ⟨x, hxe⟩ : ∃ x, at_ l i = x := ⟨_, rfl⟩
      rw [hxe] at hx hzt
      obtain ⟨k, rfl⟩ := Int.eq_ofNat_of_zero_le hx.1
      have hk : k < s.stacks.length := by have := hx.2; omega
      rw [Int.toNat_natCast] at hzt
      obtain ⟨Z, hZ⟩ : ∃ Z, zeroS s.stacks (l.take i) = Z := ⟨_, rfl⟩
      obtain ⟨Z2, hZ2⟩ : ∃ Z2, zeroS s.stacks (l.take (i + 1)) = Z2 := ⟨_, rfl⟩
      rw [hZ] at hzt hzi
      rw [hZ2] at hzt
      have hkZ : k < Z.length := by omega
      have hset := set_sk Z k ⟨0, (at_ Z k).leak⟩
      rw [← hzt] at hset
      simp only at hset
      rw [hZ]
      simp (maxSteps := 4000000) only [go_sem, AV.one, drawV, intsOf, keyIdx, over, putO, memAt, List.map_cons, List.length_cons, ↓reduceIte, zdrop, one_i, one_b, one_sl, one_ptr, one_ref, one_nilp, one_mp, one_fn, one_nilf, getD_mapA hi, hi', hxe, getD_mapA hkZ, hset]
      all_goals (repeat' (first | with_reducible rfl | with_reducible apply And.intro | ((with_reducible show drawOK _ _ = true); rfl))) <;> (try first | omega | (simp only [InR]; omega) | with_reducible assumption)
      refine nxt hi trivial ?_
      simp [AV.bare, bel_ints, cs_arr, dep_arr, cs_int, cs_bool, cs_list, cs_sk, cs_sp, AtHead, Same, AllO, Begins, LtAll, headSt, tokz_nil, tokz_cons, tokz1, lk, dep_int, dep_bool, dep_list, dep_sk, dep_sp, memAt, bel_map, bel_mapF, bel_mapO, bel_undef, bel_int, bel_boolv, bel_nilp, bel_nilf, bel_ptr, bel_arr, bel_mp, bel_yld, bel_agg, bel_tup, bel_ref, bel_only, bel_mpr, bel_fn, bel_sl_nil, bel_sl_nilF, bel_sl_nilO, bel_sl_cons, bel_sl_app, belO_cells, belO_tok, belO_dead, belO_deferred, belO_map, belO_iter, belO_loop, bel_vec, bel_vp, belO_vecM, belO_vec, hZ2, -List.map_map]
    · intro _
      have hzi := hzl l.length
      rw [List.take_length] at hzi
      simp (maxSteps := 4000000) only [go_sem, AV.one, drawV, intsOf, keyIdx, over, putO, memAt, List.map_cons, List.length_cons, ↓reduceIte, zdrop, one_i, one_b, one_sl, one_ptr, one_ref, one_nilp, one_mp, one_fn, one_nilf, Int.lt_irrefl, List.take_length]
      all_goals (repeat' (first | with_reducible rfl | with_reducible apply And.intro | ((with_reducible show drawOK _ _ = true); rfl))) <;> (try first | omega | (simp only [InR]; omega) | with_reducible assumption)
      rw [List.take_of_length_le (by simp [hzi]), all_map _ (by rw [dep_sk]; omega)]
def P36 : Specs := addSpec 37 (spec2 (fun (s : Sh) (l : List Int) => s.stacks.length ≤ 4096 ∧ l.length ≤ 4096 ∧ ∀ x ∈ l, idxOk s x) withoutS) (P35)
theorem P36_app (g : FuncId) : P36 g = (addSpec 37 (spec2 (fun (s : Sh) (l : List Int) => s.stacks.length ≤ 4096 ∧ l.length ≤ 4096 ∧ ∀ x ∈ l, idxOk s x) withoutS) (P35)) g := rfl
theorem P36_ok : SpecsOk Try.prog P36 := addSpec_ok (spec2_ok without_call) (P35_ok)
attribute [go_sem] P36_app
theorem P36_flag (d : Option Nat) : flagOf P36 d = none := (flagOf_add (by decide) d).trans (P35_flag d)
attribute [go_sem] P36_flag
theorem zero_ok {st : List Sk} {P : Sk → Prop} (h : ∀ x ∈ st, P x) (hz : ∀ x, P x → P ⟨0, x.leak⟩) : ∀ l : List Int, (∀ x ∈ l, 0 ≤ x ∧ x < st.length) → ∀ x ∈ zeroS st l, P x := by
  intro l
  induction l generalizing st with
  | nil => intro _ x hx; exact h x hx
  | cons y l ih =>
    intro hl x hx
    have hy := hl y (by simp)
    unfold zeroS at hx ih
    rw [List.foldl_cons] at hx
    refine ih (st := st.set y.toNat ⟨0, (at_ st y.toNat).leak⟩) (fun x hx => ?_) (fun x hx => by simpa using hl x (by simp [hx])) x hx
    rcases List.mem_or_eq_of_mem_set hx with q | q
    · exact h x q
    · rw [q]; exact hz _ (h _ (at_mem (by omega)))
theorem without_ok {s : Sh} (h : ShOk s) {l : List Int} (hl : ∀ x ∈ l, idxOk s x) : ShOk (withoutS s l) := by
  refine ⟨by unfold withoutS; simp only [zeroS_len]; exact h.len, h.h0, h.h3, h.r, ?_⟩
  exact zero_ok (P := fun x => (0 ≤ x.chairs ∧ x.chairs ≤ 99) ∧ 0 ≤ x.leak.lo ∧ x.leak.lo ≤ x.leak.hi ∧ x.leak.hi ≤ 9) h.st (fun x hx => ⟨⟨by simp, by simp⟩, hx.2⟩) l hl
theorem withH_ok {s : Sh} (h : ShOk s) {n : Int} (h0 : 0 ≤ n) (h3 : n ≤ 3) : ShOk ⟨s.stacks, n, s.rain⟩ := ⟨h.len, h0, h3, h.r, h.st⟩
def lostB (s : Sh) (i : Nat) : Bool := decide (0 < chS s i) && decide (minL [s.hands, spS s i] = 0)
def lostN (s : Sh) (n : Nat) : List Int := ((List.range n).filter (lostB s)).map fun i : Nat => (i : Int)
theorem lostN_succ (s : Sh) (n : Nat) : lostN s (n + 1) = lostN s n ++ if lostB s n = true then [(n : Int)] else [] := by
  unfold lostN
  rw [List.range_succ, List.filter_append, List.map_append]
  congr 1
  by_cases c : lostB s n = true <;> simp [c]
theorem lostN_len (s : Sh) (n : Nat) : (lostN s n).length ≤ n := by
  unfold lostN
  rw [List.length_map]
  exact Nat.le_trans (List.length_filter_le _ _) (by simp)
def lostQ (s : Sh) : List Int × Int := if faultS s ≠ 0 then ([], faultS s) else (lostN s s.stacks.length, 0)
theorem Lost_call (s : Sh) (h : s.stacks.length ≤ 4096) : CallP Try.prog 16 [Enc.enc s] (· = Enc.enc (lostQ s)) := by
  unfold lostQ
  cases c0 : decide (faultS s = 0)
  · rw [if_pos (by simpa using c0)]
    simp only [enc_fnl, enc_fnb, enc_fnc, enc_refc, enc_arr, enc_int, enc_bool, enc_list, enc_sk, enc_sp, enc_rg, enc_sh, enc_tr, enc_refs, enc_fns, enc_wks]
    refine callP_of_vc (Φ := P36) Try.func16 rfl (by rfl) (by rw [Try.ntmps16]; simp) mixed P36_ok (by simp [AV.strip, AV.strip1, Tk.strip]) ?_
    rw [Try.ntmps16]
    simp only [Try.f16, startSt, tmFrom]
    simp (maxSteps := 4000000) only [go_sem, AV.one, drawV, intsOf, keyIdx, over, putO, memAt, List.map_cons, List.length_cons, ↓reduceIte, zdrop, one_i, one_b, one_sl, one_ptr, one_ref, one_nilp, one_mp, one_fn, one_nilf, c0]
    all_goals (repeat' (first | with_reducible rfl | with_reducible apply And.intro | ((with_reducible show drawOK _ _ = true); rfl))) <;> (try first | omega | (simp only [InR]; omega) | with_reducible assumption)
  have hf : faultS s = 0 := by simpa using c0
  have hs := fault_ok hf
  have h8 := hs.len
  rw [if_neg (by simpa using c0)]
  simp only [enc_fnl, enc_fnb, enc_fnc, enc_refc, enc_arr, enc_int, enc_bool, enc_list, enc_sk, enc_sp, enc_rg, enc_sh, enc_tr, enc_refs, enc_fns, enc_wks]
  refine callP_of_vc (Φ := P36) Try.func16 rfl (by rfl) (by rw [Try.ntmps16]; simp) mixed P36_ok (by simp [AV.strip, AV.strip1, Tk.strip]) ?_
  rw [Try.ntmps16]
  simp only [Try.f16, startSt, tmFrom]
  simp (maxSteps := 4000000) only [go_sem, AV.one, drawV, intsOf, keyIdx, over, putO, memAt, List.map_cons, List.length_cons, ↓reduceIte, zdrop, one_i, one_b, one_sl, one_ptr, one_ref, one_nilp, one_mp, one_fn, one_nilf, c0]
  all_goals (repeat' (first | with_reducible rfl | with_reducible apply And.intro | ((with_reducible show drawOK _ _ = true); rfl))) <;> (try first | omega | (simp only [InR]; omega) | with_reducible assumption)
  obtain ⟨L, hL⟩ : ∃ L, L = lostN s := ⟨_, rfl⟩
  have hLs := fun n => lostN_succ s n
  have hLl := fun n => lostN_len s n
  rw [← hL] at hLs hLl
  rw [← hL]
  have hL0 : L 0 = [] := by rw [hL]; rfl
  refine loopN (s.stacks.length) [.slot 5 1] [1, 2, 3, 14, 15] (fun i => [(16, .int .i64 i), (5, .sl ((L i).map EncE.cs) (.own 1))]) (fun i m => m.set 1 (.tok (L i).length 1)) (fun _ => True) ?_ ?_ ?_ ?_
  · trivial
  · simp [AV.bare, bel_ints, cs_arr, dep_arr, cs_int, cs_bool, cs_list, cs_sk, cs_sp, AtHead, Same, AllO, Begins, LtAll, headSt, tokz_nil, tokz_cons, tokz1, lk, dep_int, dep_bool, dep_list, dep_sk, dep_sp, memAt, bel_map, bel_mapF, bel_mapO, bel_undef, bel_int, bel_boolv, bel_nilp, bel_nilf, bel_ptr, bel_arr, bel_mp, bel_yld, bel_agg, bel_tup, bel_ref, bel_only, bel_mpr, bel_fn, bel_sl_nil, bel_sl_nilF, bel_sl_nilO, bel_sl_cons, bel_sl_app, belO_cells, belO_tok, belO_dead, belO_deferred, belO_map, belO_iter, belO_loop, bel_vec, bel_vp, belO_vecM, belO_vec, hL0, -List.map_map]
  · intro i hi _
    have hi' := Int.ofNat_lt.2 hi
    have hll := hLl i
    have hsi := hLs i
    have hsp := hs.sp hi
    have hch := ch_at s i
    cases c1 : decide (0 < (at_ s.stacks i).chairs)
    · have hb : lostB s i = false := by unfold lostB; rw [hch, c1]; rfl
      rw [hb, if_neg (by simp), List.append_nil] at hsi
      simp (maxSteps := 4000000) only [go_sem, AV.one, drawV, intsOf, keyIdx, over, putO, memAt, List.map_cons, List.length_cons, ↓reduceIte, zdrop, one_i, one_b, one_sl, one_ptr, one_ref, one_nilp, one_mp, one_fn, one_nilf, getD_mapA hi, hi', c1]
      all_goals (repeat' (first | with_reducible rfl | with_reducible apply And.intro | ((with_reducible show drawOK _ _ = true); rfl))) <;> (try first | omega | (simp only [InR]; omega) | with_reducible assumption)
      refine nxt hi trivial ?_
      simp [AV.bare, bel_ints, cs_arr, dep_arr, cs_int, cs_bool, cs_list, cs_sk, cs_sp, AtHead, Same, AllO, Begins, LtAll, headSt, tokz_nil, tokz_cons, tokz1, lk, dep_int, dep_bool, dep_list, dep_sk, dep_sp, memAt, bel_map, bel_mapF, bel_mapO, bel_undef, bel_int, bel_boolv, bel_nilp, bel_nilf, bel_ptr, bel_arr, bel_mp, bel_yld, bel_agg, bel_tup, bel_ref, bel_only, bel_mpr, bel_fn, bel_sl_nil, bel_sl_nilF, bel_sl_nilO, bel_sl_cons, bel_sl_app, belO_cells, belO_tok, belO_dead, belO_deferred, belO_map, belO_iter, belO_loop, bel_vec, bel_vp, belO_vecM, belO_vec, hsi, -List.map_map]
    · cases c2 : decide (minL [s.hands, spS s i] = 0)
      · have hb : lostB s i = false := by unfold lostB; rw [c2, Bool.and_false]
        rw [hb, if_neg (by simp), List.append_nil] at hsi
        simp (maxSteps := 4000000) only [go_sem, AV.one, drawV, intsOf, keyIdx, over, putO, memAt, List.map_cons, List.length_cons, ↓reduceIte, zdrop, one_i, one_b, one_sl, one_ptr, one_ref, one_nilp, one_mp, one_fn, one_nilf, getD_mapA hi, hi', c1, c2]
        all_goals (repeat' (first | with_reducible rfl | with_reducible apply And.intro | ((with_reducible show drawOK _ _ = true); rfl))) <;> (try first | omega | (simp only [InR]; omega) | with_reducible assumption)
        all_goals first
          | (refine nxt hi trivial ?_
             simp [AV.bare, bel_ints, cs_arr, dep_arr, cs_int, cs_bool, cs_list, cs_sk, cs_sp, AtHead, Same, AllO, Begins, LtAll, headSt, tokz_nil, tokz_cons, tokz1, lk, dep_int, dep_bool, dep_list, dep_sk, dep_sp, memAt, bel_map, bel_mapF, bel_mapO, bel_undef, bel_int, bel_boolv, bel_nilp, bel_nilf, bel_ptr, bel_arr, bel_mp, bel_yld, bel_agg, bel_tup, bel_ref, bel_only, bel_mpr, bel_fn, bel_sl_nil, bel_sl_nilF, bel_sl_nilO, bel_sl_cons, bel_sl_app, belO_cells, belO_tok, belO_dead, belO_deferred, belO_map, belO_iter, belO_loop, bel_vec, bel_vp, belO_vecM, belO_vec, hsi, -List.map_map])
          | simp
      · have hb : lostB s i = true := by unfold lostB; rw [hch, c1, c2]; rfl
        rw [hb, if_pos rfl] at hsi
        have hsl : (L (i + 1)).length = (L i).length + 1 := by rw [hsi]; simp
        simp (maxSteps := 4000000) only [go_sem, AV.one, drawV, intsOf, keyIdx, over, putO, memAt, List.map_cons, List.length_cons, ↓reduceIte, zdrop, one_i, one_b, one_sl, one_ptr, one_ref, one_nilp, one_mp, one_fn, one_nilf, getD_mapA hi, hi', c1, c2]
        all_goals (repeat' (first | with_reducible rfl | with_reducible apply And.intro | ((with_reducible show drawOK _ _ = true); rfl))) <;> (try first | omega | (simp only [InR]; omega) | with_reducible assumption)
        all_goals first
          | (refine nxt hi trivial ?_
             simp [AV.bare, bel_ints, cs_arr, dep_arr, cs_int, cs_bool, cs_list, cs_sk, cs_sp, AtHead, Same, AllO, Begins, LtAll, headSt, tokz_nil, tokz_cons, tokz1, lk, dep_int, dep_bool, dep_list, dep_sk, dep_sp, memAt, bel_map, bel_mapF, bel_mapO, bel_undef, bel_int, bel_boolv, bel_nilp, bel_nilf, bel_ptr, bel_arr, bel_mp, bel_yld, bel_agg, bel_tup, bel_ref, bel_only, bel_mpr, bel_fn, bel_sl_nil, bel_sl_nilF, bel_sl_nilO, bel_sl_cons, bel_sl_app, belO_cells, belO_tok, belO_dead, belO_deferred, belO_map, belO_iter, belO_loop, bel_vec, bel_vp, belO_vecM, belO_vec, hsl, hsi, -List.map_map])
          | simp
  · intro _
    simp (maxSteps := 4000000) only [go_sem, AV.one, drawV, intsOf, keyIdx, over, putO, memAt, List.map_cons, List.length_cons, ↓reduceIte, zdrop, one_i, one_b, one_sl, one_ptr, one_ref, one_nilp, one_mp, one_fn, one_nilf, Int.lt_irrefl]
    all_goals (repeat' (first | with_reducible rfl | with_reducible apply And.intro | ((with_reducible show drawOK _ _ = true); rfl))) <;> (try first | omega | (simp only [InR]; omega) | with_reducible assumption)
def handsF (s : Sh) : Nat → Nat → Int × Int
  | 0, _ => (0, 10)
  | f + 1, n => if mostS ⟨s.stacks, n, s.rain⟩ < totalS ⟨s.stacks, n, s.rain⟩ then handsF s f (n + 1) else ((n : Int), 0)
def handsQ (s : Sh) : Int × Int := if faultS s ≠ 0 then (0, faultS s) else handsF s 4 0
theorem Hands_call (s : Sh) (h : s.stacks.length ≤ 4096) : CallP Try.prog 18 [Enc.enc s] (· = Enc.enc (handsQ s)) := by
  unfold handsQ
  cases c0 : decide (faultS s = 0)
  · rw [if_pos (by simpa using c0)]
    simp only [enc_fnl, enc_fnb, enc_fnc, enc_refc, enc_arr, enc_int, enc_bool, enc_list, enc_sk, enc_sp, enc_rg, enc_sh, enc_tr, enc_refs, enc_fns, enc_wks]
    refine callP_of_vc (Φ := P36) Try.func18 rfl (by rfl) (by rw [Try.ntmps18]; simp) mixed P36_ok (by simp [AV.strip, AV.strip1, Tk.strip]) ?_
    rw [Try.ntmps18]
    simp only [Try.f18, startSt, tmFrom]
    simp (maxSteps := 4000000) only [go_sem, AV.one, drawV, intsOf, keyIdx, over, putO, memAt, List.map_cons, List.length_cons, ↓reduceIte, zdrop, one_i, one_b, one_sl, one_ptr, one_ref, one_nilp, one_mp, one_fn, one_nilf, c0]
    all_goals (repeat' (first | with_reducible rfl | with_reducible apply And.intro | ((with_reducible show drawOK _ _ = true); rfl))) <;> (try first | omega | (simp only [InR]; omega) | with_reducible assumption)
  have hf : faultS s = 0 := by simpa using c0
  have hs := fault_ok hf
  have h8 := hs.len
  rw [if_neg (by simpa using c0)]
  obtain ⟨X, hX⟩ : ∃ X, handsF s 4 0 = X := ⟨_, rfl⟩
  rw [hX]
  simp only [enc_fnl, enc_fnb, enc_fnc, enc_refc, enc_arr, enc_int, enc_bool, enc_list, enc_sk, enc_sp, enc_rg, enc_sh, enc_tr, enc_refs, enc_fns, enc_wks]
  refine callP_of_vc (Φ := P36) Try.func18 rfl (by rfl) (by rw [Try.ntmps18]; simp) mixed P36_ok (by simp [AV.strip, AV.strip1, Tk.strip]) ?_
  rw [Try.ntmps18]
  simp only [Try.f18, startSt, tmFrom]
  simp (maxSteps := 4000000) only [go_sem, AV.one, drawV, intsOf, keyIdx, over, putO, memAt, List.map_cons, List.length_cons, ↓reduceIte, zdrop, one_i, one_b, one_sl, one_ptr, one_ref, one_nilp, one_mp, one_fn, one_nilf, c0]
  all_goals (repeat' (first | with_reducible rfl | with_reducible apply And.intro | ((with_reducible show drawOK _ _ = true); rfl))) <;> (try first | omega | (simp only [InR]; omega) | with_reducible assumption)
  refine loopN (4) [] [1, 2, 3] (fun i => [(11, .int .i64 i)]) (fun i m => m.set 0 (.cells [.sl (s.stacks.map EncE.cs) .no, .int .i64 (if i = 0 then s.hands else ((i - 1 : Nat) : Int)), .int .i64 s.rain.lo, .int .i64 s.rain.hi])) (fun i => handsF s (4 - i) i = X) ?_ ?_ ?_ ?_
  · exact hX
  · simp [AV.bare, bel_ints, cs_arr, dep_arr, cs_int, cs_bool, cs_list, cs_sk, cs_sp, AtHead, Same, AllO, Begins, LtAll, headSt, tokz_nil, tokz_cons, tokz1, lk, dep_int, dep_bool, dep_list, dep_sk, dep_sp, memAt, bel_map, bel_mapF, bel_mapO, bel_undef, bel_int, bel_boolv, bel_nilp, bel_nilf, bel_ptr, bel_arr, bel_mp, bel_yld, bel_agg, bel_tup, bel_ref, bel_only, bel_mpr, bel_fn, bel_sl_nil, bel_sl_nilF, bel_sl_nilO, bel_sl_cons, bel_sl_app, belO_cells, belO_tok, belO_dead, belO_deferred, belO_map, belO_iter, belO_loop, bel_vec, bel_vp, belO_vecM, belO_vec, -List.map_map]
  · intro i hi hI
    have hi' : (i : Int) < 4 := by omega
    have hok := withH_ok hs (n := (i : Int)) (by omega) (by omega)
    have e4 : 4 - i = (4 - (i + 1)) + 1 := by omega
    rw [e4] at hI
    unfold handsF at hI
    cases c1 : decide (mostS ⟨s.stacks, (i : Int), s.rain⟩ < totalS ⟨s.stacks, (i : Int), s.rain⟩)
    · rw [if_neg (by simpa using c1)] at hI
      simp (maxSteps := 4000000) only [go_sem, AV.one, drawV, intsOf, keyIdx, over, putO, memAt, List.map_cons, List.length_cons, ↓reduceIte, zdrop, one_i, one_b, one_sl, one_ptr, one_ref, one_nilp, one_mp, one_fn, one_nilf, hi', c1]
      all_goals (repeat' (first | with_reducible rfl | with_reducible apply And.intro | ((with_reducible show drawOK _ _ = true); rfl))) <;> (try first | omega | (simp only [InR]; omega) | with_reducible assumption)
      rw [← hI]
    · rw [if_pos (by simpa using c1)] at hI
      simp (maxSteps := 4000000) only [go_sem, AV.one, drawV, intsOf, keyIdx, over, putO, memAt, List.map_cons, List.length_cons, ↓reduceIte, zdrop, one_i, one_b, one_sl, one_ptr, one_ref, one_nilp, one_mp, one_fn, one_nilf, hi', c1]
      all_goals (repeat' (first | with_reducible rfl | with_reducible apply And.intro | ((with_reducible show drawOK _ _ = true); rfl))) <;> (try first | omega | (simp only [InR]; omega) | with_reducible assumption)
      refine nxt hi hI ?_
      simp [AV.bare, bel_ints, cs_arr, dep_arr, cs_int, cs_bool, cs_list, cs_sk, cs_sp, AtHead, Same, AllO, Begins, LtAll, headSt, tokz_nil, tokz_cons, tokz1, lk, dep_int, dep_bool, dep_list, dep_sk, dep_sp, memAt, bel_map, bel_mapF, bel_mapO, bel_undef, bel_int, bel_boolv, bel_nilp, bel_nilf, bel_ptr, bel_arr, bel_mp, bel_yld, bel_agg, bel_tup, bel_ref, bel_only, bel_mpr, bel_fn, bel_sl_nil, bel_sl_nilF, bel_sl_nilO, bel_sl_cons, bel_sl_app, belO_cells, belO_tok, belO_dead, belO_deferred, belO_map, belO_iter, belO_loop, bel_vec, bel_vp, belO_vecM, belO_vec, -List.map_map]
  · intro hI
    simp (maxSteps := 4000000) only [go_sem, AV.one, drawV, intsOf, keyIdx, over, putO, memAt, List.map_cons, List.length_cons, ↓reduceIte, zdrop, one_i, one_b, one_sl, one_ptr, one_ref, one_nilp, one_mp, one_fn, one_nilf, show ¬ (((4 : Nat) : Int) < 4) by decide]
    all_goals (repeat' (first | with_reducible rfl | with_reducible apply And.intro | ((with_reducible show drawOK _ _ = true); rfl))) <;> (try first | omega | (simp only [InR]; omega) | with_reducible assumption)
    rw [← hI]; rfl
def worthQ (s : Sh) (i : Int) : Int × Int := if faultS s ≠ 0 then (0, faultS s) else if inB i 0 ((s.stacks.length : Int) - 1) = true then (mostS s - mostS (withoutS s [i]), 0) else (0, 2)
theorem most_le {s : Sh} (h : ShOk s) : mostS s ≤ 8 * 99 := by
  have := (wsum_bd (n := s.stacks.length) (f := fun i => chS s i) (m := 99) (memB (keptS s)) (by omega) (fun i hi => h.ch hi)).2
  have h8 := h.len
  have e : mostS s = wsum s.stacks.length (fun i => chS s i) (memB (keptS s)) := rfl
  omega
theorem Worth_call (s : Sh) (i : Int) (h : s.stacks.length ≤ 4096) : CallP Try.prog 13 [Enc.enc s, Enc.enc i] (· = Enc.enc (worthQ s i)) := by
  unfold worthQ
  cases c0 : decide (faultS s = 0)
  · rw [if_pos (by simpa using c0)]
    simp only [enc_fnl, enc_fnb, enc_fnc, enc_refc, enc_arr, enc_int, enc_bool, enc_list, enc_sk, enc_sp, enc_rg, enc_sh, enc_tr, enc_refs, enc_fns, enc_wks]
    refine callP_of_vc (Φ := P36) Try.func13 rfl (by rfl) (by rw [Try.ntmps13]; simp) mixed P36_ok (by simp [AV.strip, AV.strip1, Tk.strip]) ?_
    rw [Try.ntmps13]
    simp only [Try.f13, startSt, tmFrom]
    simp (maxSteps := 4000000) only [go_sem, AV.one, drawV, intsOf, keyIdx, over, putO, memAt, List.map_cons, List.length_cons, ↓reduceIte, zdrop, one_i, one_b, one_sl, one_ptr, one_ref, one_nilp, one_mp, one_fn, one_nilf, c0]
    all_goals (repeat' (first | with_reducible rfl | with_reducible apply And.intro | ((with_reducible show drawOK _ _ = true); rfl))) <;> (try first | omega | (simp only [InR]; omega) | with_reducible assumption)
  have hf : faultS s = 0 := by simpa using c0
  have hs := fault_ok hf
  have h8 := hs.len
  rw [if_neg (by simpa using c0)]
  cases c1 : inB i 0 ((s.stacks.length : Int) - 1)
  · simp only [enc_fnl, enc_fnb, enc_fnc, enc_refc, enc_arr, enc_int, enc_bool, enc_list, enc_sk, enc_sp, enc_rg, enc_sh, enc_tr, enc_refs, enc_fns, enc_wks]
    refine callP_of_vc (Φ := P36) Try.func13 rfl (by rfl) (by rw [Try.ntmps13]; simp) mixed P36_ok (by simp [AV.strip, AV.strip1, Tk.strip]) ?_
    rw [Try.ntmps13]
    simp only [Try.f13, startSt, tmFrom]
    simp (maxSteps := 4000000) only [go_sem, AV.one, drawV, intsOf, keyIdx, over, putO, memAt, List.map_cons, List.length_cons, ↓reduceIte, zdrop, one_i, one_b, one_sl, one_ptr, one_ref, one_nilp, one_mp, one_fn, one_nilf, c0, c1]
    all_goals (repeat' (first | with_reducible rfl | with_reducible apply And.intro | ((with_reducible show drawOK _ _ = true); rfl))) <;> (try first | omega | (simp only [InR]; omega) | with_reducible assumption)
  · have hi := (inB_iff _ _ _).1 c1
    have hix : ∀ x ∈ [i], idxOk s x := fun x hx => by simp at hx; rw [hx]; unfold idxOk; omega
    have hwo := without_ok hs hix
    have hio := hix i (by simp)
    have m1 := most_le hs
    have m2 := most_le hwo
    have m3 := most_nonneg hs
    have m4 := most_nonneg hwo
    simp only [enc_fnl, enc_fnb, enc_fnc, enc_refc, enc_arr, enc_int, enc_bool, enc_list, enc_sk, enc_sp, enc_rg, enc_sh, enc_tr, enc_refs, enc_fns, enc_wks]
    refine callP_of_vc (Φ := P36) Try.func13 rfl (by rfl) (by rw [Try.ntmps13]; simp) mixed P36_ok (by simp [AV.strip, AV.strip1, Tk.strip]) ?_
    rw [Try.ntmps13]
    simp only [Try.f13, startSt, tmFrom]
    simp (maxSteps := 4000000) only [go_sem, AV.one, drawV, intsOf, keyIdx, over, putO, memAt, List.map_cons, List.length_cons, ↓reduceIte, zdrop, one_i, one_b, one_sl, one_ptr, one_ref, one_nilp, one_mp, one_fn, one_nilf, c0, c1]
    all_goals (repeat' (first | with_reducible rfl | with_reducible apply And.intro | ((with_reducible show drawOK _ _ = true); rfl))) <;> (try first | omega | (simp only [InR]; omega) | with_reducible assumption)
end Go.Proofs
namespace Go.Proofs
open Go.Fs
set_option linter.unusedSimpArgs false
set_option linter.unusedVariables false
set_option maxHeartbeats 32000000
set_option maxRecDepth 1000000
theorem bits64_calls (x : Int) (w : World) (h0 : 0 ≤ x) (h1 : x ≤ 255) :
    CallsIn Fence.wide 0 Try.prog 93 #[.int .u64 x] w fun e w' => ∃ k, e = .returned (.int .i64 k) ∧ w' = w := by
  refine callsIn_of_wp Try.func93 rfl trivial ?_
  simp only [Try.ntmps93, List.size_toArray, List.length_cons, List.length_nil, Nat.reduceAdd, Nat.reduceSub, Array.replicate_succ, Array.replicate_zero, List.push_toArray, List.append_toArray, List.nil_append, List.cons_append]
  gi_wp2
  go_ret
  exact ⟨_, rfl, rfl⟩
theorem bits64_call (x : Int) (mem : List AObj) (h0 : 0 ≤ x) (h1 : x ≤ 255) : CallX Try.prog 93 [.int .u64 x] mem (fun r m => (∃ k, r = .int .i64 k) ∧ m = mem) := by
  refine ⟨⟨_, Try.func93, rfl, rfl⟩, fun X κ ρ τ w vs hm hX hs hr ht => ?_⟩
  have h2 := (hr 0 (by simp)).int_inv
  have e : vs = #[.int .u64 x] := by
    apply Array.ext
    · simpa using hs
    · intro i h3 h4
      simp at h4
      subst h4
      simpa [Array.getD, h3] using h2
  subst e
  refine (bits64_calls x w h0 h1).mono ?_
  rintro e w' ⟨k, rfl, rfl⟩
  exact ⟨_, κ, ρ, τ, mem, .int .i64 k, rfl, hm, ⟨rfl, rfl, rfl, Nat.le_refl _, fun _ _ => rfl⟩, .int _ _, tok_of_no rfl, Ext.refl _ _ _ _ _, Nat.le_refl _, KeepX.refl _ _, ⟨k, rfl⟩, rfl⟩
theorem bitsL_call (x : Int) (mem : List AObj) (hm : ∀ o ∈ mem, belO mem.length o) (h0 : 0 ≤ x) (h1 : x ≤ 255) : CallX Try.prog 72 [.int .u64 x] mem (fun r m => (∃ k, r = .int .i64 k) ∧ m = mem) := by
  have hc := bits64_call x mem h0 h1
  refine callX_of_vc (Φ := P36) Try.func72 rfl (by rfl) (by rw [Try.ntmps72]; simp) mixed P36_ok ?_
  rw [Try.ntmps72]
  simp only [Try.f72, startSt, tmFrom]
  simp (maxSteps := 4000000) only [go_sem, AV.one, drawV, intsOf, keyIdx, over, putO, memAt, List.map_cons, List.length_cons, ↓reduceIte, zdrop, one_i, one_b, one_sl, one_ptr, one_ref, one_nilp, one_mp, one_fn, one_nilf]
  all_goals (repeat' (first | with_reducible rfl | with_reducible apply And.intro | ((with_reducible show drawOK _ _ = true); rfl))) <;> (try first | omega | (simp only [InR]; omega) | with_reducible assumption)
  refine ⟨_, hc, ?_⟩
  rintro r mem' ⟨⟨k, rfl⟩, rfl⟩ _
  simp (maxSteps := 4000000) only [go_sem, AV.one, drawV, intsOf, keyIdx, over, putO, memAt, List.map_cons, List.length_cons, ↓reduceIte, zdrop, one_i, one_b, one_sl, one_ptr, one_ref, one_nilp, one_mp, one_fn, one_nilf]
  all_goals (repeat' (first | with_reducible rfl | with_reducible apply And.intro | ((with_reducible show drawOK _ _ = true); rfl))) <;> (try first | omega | (simp only [InR]; omega) | with_reducible assumption)
  refine ⟨mem'.length, Nat.le_refl _, Nat.le_refl _, ?_⟩
  rw [List.take_length]
  exact ⟨⟨⟨k, rfl⟩, rfl⟩, by simp [AV.bare, bel_ints, cs_arr, dep_arr, cs_int, cs_bool, cs_list, cs_sk, cs_sp, AtHead, Same, AllO, Begins, LtAll, headSt, tokz_nil, tokz_cons, tokz1, lk, dep_int, dep_bool, dep_list, dep_sk, dep_sp, memAt, bel_map, bel_mapF, bel_mapO, bel_undef, bel_int, bel_boolv, bel_nilp, bel_nilf, bel_ptr, bel_arr, bel_mp, bel_yld, bel_agg, bel_tup, bel_ref, bel_only, bel_mpr, bel_fn, bel_sl_nil, bel_sl_nilF, bel_sl_nilO, bel_sl_cons, bel_sl_app, belO_cells, belO_tok, belO_dead, belO_deferred, belO_map, belO_iter, belO_loop, bel_vec, bel_vp, belO_vecM, belO_vec], hm⟩
end Go.Proofs
namespace Go.Proofs
open Go.Fs
set_option linter.unusedSimpArgs false
set_option linter.unusedVariables false
set_option maxHeartbeats 4000000
set_option maxRecDepth 8000
theorem isNaN_call (x : Int) : CallP Try.prog 101 [Enc.enc x] (· = Enc.enc false) := by
  simp only [enc_fnl, enc_fnb, enc_fnc, enc_refc, enc_arr, enc_int, enc_bool, enc_list, enc_sk, enc_sp, enc_rg, enc_sh, enc_tr, enc_refs, enc_fns, enc_wks]
  refine callP_of_vc (Φ := P36) Try.func101 rfl (by rfl) (by rw [Try.ntmps101]; simp) mixed P36_ok (by simp [AV.strip, AV.strip1, Tk.strip]) ?_
  rw [Try.ntmps101]
  simp only [Try.f101, startSt, tmFrom]
  simp (maxSteps := 4000000) only [go_sem, AV.one, drawV, intsOf, keyIdx, over, putO, memAt, List.map_cons, List.length_cons, ↓reduceIte, zdrop, one_i, one_b, one_sl, one_ptr, one_ref, one_nilp, one_mp, one_fn, one_nilf, ne_eq, not_true_eq_false, decide_true, decide_false, Bool.not_true]
def P37 : Specs := addSpec 16 (spec1 (fun s : Sh => s.stacks.length ≤ 4096) lostQ) (addSpec 18 (spec1 (fun s : Sh => s.stacks.length ≤ 4096) handsQ) (addSpec 13 (spec2 (fun (s : Sh) (_ : Int) => s.stacks.length ≤ 4096) worthQ) (addSpec 101 (spec1 (fun _ : Int => True) (fun _ => false)) (P36))))
theorem P37_app (g : FuncId) : P37 g = (addSpec 16 (spec1 (fun s : Sh => s.stacks.length ≤ 4096) lostQ) (addSpec 18 (spec1 (fun s : Sh => s.stacks.length ≤ 4096) handsQ) (addSpec 13 (spec2 (fun (s : Sh) (_ : Int) => s.stacks.length ≤ 4096) worthQ) (addSpec 101 (spec1 (fun _ : Int => True) (fun _ => false)) (P36))))) g := rfl
theorem P37_ok : SpecsOk Try.prog P37 := addSpec_ok (spec1_ok Lost_call) (addSpec_ok (spec1_ok Hands_call) (addSpec_ok (spec2_ok Worth_call) (addSpec_ok (spec1_ok fun x _ => isNaN_call x) (P36_ok))))
attribute [go_sem] P37_app
theorem P37_flag (d : Option Nat) : flagOf P37 d = none := (flagOf_add (by decide) d).trans ((flagOf_add (by decide) d).trans ((flagOf_add (by decide) d).trans ((flagOf_add (by decide) d).trans (P36_flag d))))
attribute [go_sem] P37_flag
theorem Less_call (x y : Int) : CallP Try.prog 89 [Enc.enc x, Enc.enc y] (· = Enc.enc (decide (x < y))) := by
  simp only [enc_fnl, enc_fnb, enc_fnc, enc_refc, enc_arr, enc_int, enc_bool, enc_list, enc_sk, enc_sp, enc_rg, enc_sh, enc_tr, enc_refs, enc_fns, enc_wks]
  refine callP_of_vc (Φ := P37) Try.func89 rfl (by rfl) (by rw [Try.ntmps89]; simp) mixed P37_ok (by simp [AV.strip, AV.strip1, Tk.strip]) ?_
  rw [Try.ntmps89]
  simp only [Try.f89, startSt, tmFrom]
  simp (maxSteps := 4000000) only [go_sem, AV.one, drawV, intsOf, keyIdx, over, putO, memAt, List.map_cons, List.length_cons, ↓reduceIte, zdrop, one_i, one_b, one_sl, one_ptr, one_ref, one_nilp, one_mp, one_fn, one_nilf]
def P38 : Specs := addSpec 89 (spec2 (fun (_ _ : Int) => True) (fun x y => decide (x < y))) (P37)
theorem P38_app (g : FuncId) : P38 g = (addSpec 89 (spec2 (fun (_ _ : Int) => True) (fun x y => decide (x < y))) (P37)) g := rfl
theorem P38_ok : SpecsOk Try.prog P38 := addSpec_ok (spec2_ok fun x y _ => Less_call x y) (P37_ok)
attribute [go_sem] P38_app
theorem P38_flag (d : Option Nat) : flagOf P38 d = none := (flagOf_add (by decide) d).trans (P37_flag d)
attribute [go_sem] P38_flag
section
variable {mem : List AObj} {v s : Nat}
theorem memAt_set_same (hv : v < mem.length) (o : AObj) : memAt (mem.set v o) v = o := by simp [memAt, List.getD, hv]
theorem set_set_same (o o' : AObj) : (mem.set v o).set v o' = mem.set v o' := List.set_set _
theorem set_self {o : AObj} (h : memAt mem v = o) : mem.set v o = mem := by
  apply List.ext_getElem
  · simp
  · intro i h1 h2
    rw [List.getElem_set]
    split
    · rename_i q; subst q; rw [← h]; simp [memAt, List.getD, h2]
    · rfl
theorem memAt_some {o : AObj} (h : memAt mem v = o) (ho : o ≠ .dead) : v < mem.length := by
  by_cases c : v < mem.length
  · exact c
  · exact absurd (by rw [← h]; simp [memAt, List.getD, List.getElem?_eq_none (Nat.le_of_not_lt c)]) ho
theorem ok_set (hm : ∀ o ∈ mem, belO mem.length o) (o : AObj) (ho : belO mem.length o) : ∀ x ∈ mem.set v o, belO (mem.set v o).length x := fun x hx => by
  rw [List.length_set]
  rcases List.mem_or_eq_of_mem_set hx with q | q
  · exact hm x q
  · rw [q]; exact ho
theorem insO_call (l : List Int) (h : memAt mem v = .vec (l.map EncE.cs) 1 s) (hm : ∀ o ∈ mem, belO mem.length o) (hn : l.length ≤ 4096) :
    CallX Try.prog 83 [.vec v s 0 l.length 1, .int .i64 0, .int .i64 l.length] mem
      (fun r m => r = .tup [] ∧ m = mem.set v (.vec ((sortS (fun i => i) l).map EncE.cs) 1 s)) := by
  have hv := memAt_some h (by simp)
  have hokv : ∀ L : List Int, ∀ o ∈ mem.set v (.vec (L.map EncE.cs) 1 s), belO (mem.set v (.vec (L.map EncE.cs) 1 s)).length o := fun L => ok_set hm _ (by rw [belO_vecM _ _ _ (by rw [dep_int]; omega)]; trivial)
  refine callX_of_vc (Φ := P38) Try.func83 rfl (by rfl) (by rw [Try.ntmps83]; simp) mixed P38_ok ?_
  rw [Try.ntmps83]
  simp only [Try.f83, startSt, tmFrom]
  obtain ⟨key, hkey⟩ : ∃ key : Int → Int, key = (fun i => i) := ⟨_, rfl⟩
  rw [← hkey]
  have hlt : ∀ x y, (key x < key y) = (x < y) := fun x y => by rw [hkey]
  simp (maxSteps := 4000000) only [go_sem, AV.one, drawV, intsOf, keyIdx, over, putO, memAt, List.map_cons, List.length_cons, ↓reduceIte, zdrop, one_i, one_b, one_sl, one_ptr, one_ref, one_nilp, one_mp, one_fn, one_nilf]
  all_goals (repeat' (first | with_reducible rfl | with_reducible apply And.intro | ((with_reducible show drawOK _ _ = true); rfl))) <;> (try first | omega | (simp only [InR]; omega) | with_reducible assumption)
  have hms := fun o => memAt_set_same (mem := mem) hv o
  have hss := fun o o' => set_set_same (mem := mem) (v := v) o o'
  refine loopN (l.length - 1) [] [0, 1, 2] (fun i => [(6, .int .i64 ((i + 1 : Nat) : Int))]) (fun i _ => mem.set v (.vec ((sortS key (l.take (i + 1)) ++ l.drop (i + 1)).map EncE.cs) 1 s)) (fun _ => True) ?_ ?_ ?_ ?_
  · trivial
  · have e : sortS key (l.take (0 + 1)) ++ l.drop (0 + 1) = l := by
      cases l with
      | nil => rfl
      | cons x r => simp [sortS, insS, insJ]
    rw [e, set_self h]
    refine ⟨rfl, rfl, rfl, Nat.le_refl _, begins_refl _, ?_, allO_of hm, trivial⟩
    show Same _ mem.length _
    simp [AV.bare, bel_ints, cs_arr, dep_arr, cs_int, cs_bool, cs_list, cs_sk, cs_sp, AtHead, Same, AllO, Begins, LtAll, headSt, tokz_nil, tokz_cons, tokz1, lk, dep_int, dep_bool, dep_list, dep_sk, dep_sp, memAt, bel_map, bel_mapF, bel_mapO, bel_undef, bel_int, bel_boolv, bel_nilp, bel_nilf, bel_ptr, bel_arr, bel_mp, bel_yld, bel_agg, bel_tup, bel_ref, bel_only, bel_mpr, bel_fn, bel_sl_nil, bel_sl_nilF, bel_sl_nilO, bel_sl_cons, bel_sl_app, belO_cells, belO_tok, belO_dead, belO_deferred, belO_map, belO_iter, belO_loop, bel_vec, bel_vp, belO_vecM, belO_vec, hv]
  · intro i hi _
    have hi1 : i + 1 < l.length := by omega
    have hi' := Int.ofNat_lt.2 hi1
    have hPl : (sortS key (l.take (i + 1))).length = i + 1 := by rw [sortS_len, List.length_take]; omega
    have hS := ins_sorted_at (key := key) hi1
    have hdr := drop_at hi1
    obtain ⟨x, hxe⟩ : ∃ x, at_ l (i + 1) = x := ⟨_, rfl⟩
    obtain ⟨P, hP⟩ : ∃ P, sortS key (l.take (i + 1)) = P := ⟨_, rfl⟩
    obtain ⟨rest, hrest⟩ : ∃ rest, l.drop (i + 1 + 1) = rest := ⟨_, rfl⟩
    rw [hxe] at hS hdr
    rw [hP] at hPl hS
    rw [hrest] at hdr
    have hlen : l.length = (i + 1) + 1 + rest.length := by rw [← hrest, List.length_drop]; omega
    rw [hP, hdr]
    simp (maxSteps := 4000000) only [go_sem, AV.one, drawV, intsOf, keyIdx, over, putO, List.map_cons, List.length_cons, ↓reduceIte, zdrop, one_i, one_b, one_sl, one_ptr, one_ref, one_nilp, one_mp, one_fn, one_nilf, hi', hms]
    all_goals (repeat' (first | with_reducible rfl | with_reducible apply And.intro | ((with_reducible show drawOK _ _ = true); rfl))) <;> (try first | omega | (simp only [InR]; omega) | with_reducible assumption)
    refine loopB [] [0, 1, 2, 6, 10, 11, 15] (fun j : Nat => [(7, .int .i64 j)]) (fun j _ => mem.set v (.vec ((P.take j ++ x :: P.drop j ++ rest).map EncE.cs) 1 s)) (fun j => j ≤ i + 1 ∧ insJ key P x j = insS key P x) (fun j => j) (i + 1) ?_ ?_ ?_
    · exact ⟨Nat.le_refl _, by unfold insS; rw [hPl]⟩
    · have e : P.take (i + 1) ++ x :: P.drop (i + 1) ++ rest = P ++ x :: rest := by
        rw [List.take_of_length_le (by omega), List.drop_eq_nil_of_le (by omega)]; simp
      obtain ⟨L, hL⟩ : ∃ L, P ++ x :: rest = L := ⟨_, rfl⟩
      simp only [e, hL]
      refine ⟨rfl, rfl, rfl, by simp [AV.bare, bel_ints, cs_arr, dep_arr, cs_int, cs_bool, cs_list, cs_sk, cs_sp, AtHead, Same, AllO, Begins, LtAll, headSt, tokz_nil, tokz_cons, tokz1, lk, dep_int, dep_bool, dep_list, dep_sk, dep_sp, memAt, bel_map, bel_mapF, bel_mapO, bel_undef, bel_int, bel_boolv, bel_nilp, bel_nilf, bel_ptr, bel_arr, bel_mp, bel_yld, bel_agg, bel_tup, bel_ref, bel_only, bel_mpr, bel_fn, bel_sl_nil, bel_sl_nilF, bel_sl_nilO, bel_sl_cons, bel_sl_app, belO_cells, belO_tok, belO_dead, belO_deferred, belO_map, belO_iter, belO_loop, bel_vec, bel_vp, belO_vecM, belO_vec], begins_refl _, ?_, allO_of (hokv L), trivial⟩
      simp [AV.bare, bel_ints, cs_arr, dep_arr, cs_int, cs_bool, cs_list, cs_sk, cs_sp, AtHead, Same, AllO, Begins, LtAll, headSt, tokz_nil, tokz_cons, tokz1, lk, dep_int, dep_bool, dep_list, dep_sk, dep_sp, memAt, bel_map, bel_mapF, bel_mapO, bel_undef, bel_int, bel_boolv, bel_nilp, bel_nilf, bel_ptr, bel_arr, bel_mp, bel_yld, bel_agg, bel_tup, bel_ref, bel_only, bel_mpr, bel_fn, bel_sl_nil, bel_sl_nilF, bel_sl_nilO, bel_sl_cons, bel_sl_app, belO_cells, belO_tok, belO_dead, belO_deferred, belO_map, belO_iter, belO_loop, bel_vec, bel_vp, belO_vecM, belO_vec, hv]
    · rintro j ⟨hj, hI⟩
      cases j with
      | zero =>
        have h01 : ((0 : Int) - 1).toNat = 0 := rfl
        have hg0 : ((P.take 0 ++ x :: P.drop 0 ++ rest).map EncE.cs).getD 0 [] = [AV.int .i64 x] := rfl
        have hfin : P.take 0 ++ x :: P.drop 0 ++ rest = sortS key (l.take (i + 1 + 1)) ++ l.drop (i + 1 + 1) := by rw [hS, ← hI, hrest]; rfl
        obtain ⟨L, hL⟩ : ∃ L, P.take 0 ++ x :: P.drop 0 ++ rest = L := ⟨_, rfl⟩
        rw [hL] at hg0 hfin
        simp only [hL]
        simp (maxSteps := 4000000) only [go_sem, AV.one, drawV, intsOf, keyIdx, over, putO, List.map_cons, List.length_cons, ↓reduceIte, zdrop, one_i, one_b, one_sl, one_ptr, one_ref, one_nilp, one_mp, one_fn, one_nilf, hg0, h01, hms]
        all_goals (repeat' (first | with_reducible rfl | with_reducible apply And.intro | ((with_reducible show drawOK _ _ = true); rfl))) <;> (try first | omega | (simp only [InR]; omega) | with_reducible assumption)
        refine nxt hi trivial ?_
        rw [← hfin]
        refine ⟨rfl, rfl, rfl, by simp [AV.bare, bel_ints, cs_arr, dep_arr, cs_int, cs_bool, cs_list, cs_sk, cs_sp, AtHead, Same, AllO, Begins, LtAll, headSt, tokz_nil, tokz_cons, tokz1, lk, dep_int, dep_bool, dep_list, dep_sk, dep_sp, memAt, bel_map, bel_mapF, bel_mapO, bel_undef, bel_int, bel_boolv, bel_nilp, bel_nilf, bel_ptr, bel_arr, bel_mp, bel_yld, bel_agg, bel_tup, bel_ref, bel_only, bel_mpr, bel_fn, bel_sl_nil, bel_sl_nilF, bel_sl_nilO, bel_sl_cons, bel_sl_app, belO_cells, belO_tok, belO_dead, belO_deferred, belO_map, belO_iter, belO_loop, bel_vec, bel_vp, belO_vecM, belO_vec], begins_refl _, ?_, allO_of (hokv L), trivial⟩
        simp [AV.bare, bel_ints, cs_arr, dep_arr, cs_int, cs_bool, cs_list, cs_sk, cs_sp, AtHead, Same, AllO, Begins, LtAll, headSt, tokz_nil, tokz_cons, tokz1, lk, dep_int, dep_bool, dep_list, dep_sk, dep_sp, memAt, bel_map, bel_mapF, bel_mapO, bel_undef, bel_int, bel_boolv, bel_nilp, bel_nilf, bel_ptr, bel_arr, bel_mp, bel_yld, bel_agg, bel_tup, bel_ref, bel_only, bel_mpr, bel_fn, bel_sl_nil, bel_sl_nilF, bel_sl_nilO, bel_sl_cons, bel_sl_app, belO_cells, belO_tok, belO_dead, belO_deferred, belO_map, belO_iter, belO_loop, bel_vec, bel_vp, belO_vecM, belO_vec, hv]
      | succ j =>
        have hjP : j < P.length := by omega
        have hjl : j + 1 < l.length := by omega
        have hsub : (((j + 1 : Nat) : Int) - 1).toNat = j := by omega
        have hsub2 : ((j + 1 : Nat) : Int) - 1 = (j : Int) := by omega
        have hgt : decide (((j + 1 : Nat) : Int) > 0) = true := by simp
        have hltj := hlt x (at_ P j)
        have hins : insJ key P x (j + 1) = if key x < key (at_ P j) then insJ key P x j else P.take (j + 1) ++ x :: P.drop (j + 1) := rfl
        have hswap := swap_mid P x rest hjP
        have htl : (P.take (j + 1)).length = j + 1 := by rw [List.length_take]; omega
        obtain ⟨L, hL⟩ : ∃ L, P.take (j + 1) ++ x :: P.drop (j + 1) ++ rest = L := ⟨_, rfl⟩
        have hLl : L.length = l.length := by
          rw [← hL]; simp; omega
        have hax : at_ L (j + 1) = x := by
          rw [← hL, List.append_assoc, List.cons_append]; exact at_mid _ _ _ htl
        have hay : at_ L j = at_ P j := by
          rw [← hL, List.append_assoc, at_append_left (by omega), at_take (by omega)]
        obtain ⟨y, hy⟩ : ∃ y, at_ P j = y := ⟨_, rfl⟩
        rw [hy] at hltj hins hswap hay
        rw [hL] at hswap
        have hgx : (L.map EncE.cs).getD (j + 1) [] = [AV.int .i64 x] := by rw [getD_mapA (by omega), hax]; rfl
        have hgy : (L.map EncE.cs).getD j [] = [AV.int .i64 y] := by rw [getD_mapA (by omega), hay]; rfl
        have hgy2 : ∀ v, ((L.set (j + 1) v).map EncE.cs).getD j [] = [AV.int .i64 y] := fun v => by
          rw [getD_mapA (by simp; omega), at_set_ne (by omega), hay]; rfl
        simp only [hL]
        cases c : decide (x < y)
        · have c' : ¬ key x < key y := by rw [hltj]; simpa using c
          rw [if_neg c'] at hins
          have hfin : L = sortS key (l.take (i + 1 + 1)) ++ l.drop (i + 1 + 1) := by rw [hS, ← hI, hins, hrest, hL]
          simp (maxSteps := 4000000) only [go_sem, AV.one, drawV, intsOf, keyIdx, over, putO, List.map_cons, List.length_cons, ↓reduceIte, zdrop, one_i, one_b, one_sl, one_ptr, one_ref, one_nilp, one_mp, one_fn, one_nilf, hgx, hgy, hsub, hsub2, hgt, c, hms]
          all_goals (repeat' (first | with_reducible rfl | with_reducible apply And.intro | ((with_reducible show drawOK _ _ = true); rfl))) <;> (try first | omega | (simp only [InR]; omega) | with_reducible assumption)
          refine nxt hi trivial ?_
          rw [← hfin]
          refine ⟨rfl, rfl, rfl, by simp [AV.bare, bel_ints, cs_arr, dep_arr, cs_int, cs_bool, cs_list, cs_sk, cs_sp, AtHead, Same, AllO, Begins, LtAll, headSt, tokz_nil, tokz_cons, tokz1, lk, dep_int, dep_bool, dep_list, dep_sk, dep_sp, memAt, bel_map, bel_mapF, bel_mapO, bel_undef, bel_int, bel_boolv, bel_nilp, bel_nilf, bel_ptr, bel_arr, bel_mp, bel_yld, bel_agg, bel_tup, bel_ref, bel_only, bel_mpr, bel_fn, bel_sl_nil, bel_sl_nilF, bel_sl_nilO, bel_sl_cons, bel_sl_app, belO_cells, belO_tok, belO_dead, belO_deferred, belO_map, belO_iter, belO_loop, bel_vec, bel_vp, belO_vecM, belO_vec], begins_refl _, ?_, allO_of (hokv L), trivial⟩
          simp [AV.bare, bel_ints, cs_arr, dep_arr, cs_int, cs_bool, cs_list, cs_sk, cs_sp, AtHead, Same, AllO, Begins, LtAll, headSt, tokz_nil, tokz_cons, tokz1, lk, dep_int, dep_bool, dep_list, dep_sk, dep_sp, memAt, bel_map, bel_mapF, bel_mapO, bel_undef, bel_int, bel_boolv, bel_nilp, bel_nilf, bel_ptr, bel_arr, bel_mp, bel_yld, bel_agg, bel_tup, bel_ref, bel_only, bel_mpr, bel_fn, bel_sl_nil, bel_sl_nilF, bel_sl_nilO, bel_sl_cons, bel_sl_app, belO_cells, belO_tok, belO_dead, belO_deferred, belO_map, belO_iter, belO_loop, bel_vec, bel_vp, belO_vecM, belO_vec, hv]
        · have c' : key x < key y := by rw [hltj]; simpa using c
          rw [if_pos c'] at hins
          simp (maxSteps := 4000000) only [go_sem, AV.one, drawV, intsOf, keyIdx, over, putO, List.map_cons, List.length_cons, ↓reduceIte, zdrop, one_i, one_b, one_sl, one_ptr, one_ref, one_nilp, one_mp, one_fn, one_nilf, hgx, hgy, hgy2, set_cs, hsub, hsub2, hgt, c, hLl, List.length_set, hms, hss]
          all_goals (repeat' (first | with_reducible rfl | with_reducible apply And.intro | ((with_reducible show drawOK _ _ = true); rfl))) <;> (try first | omega | (simp only [InR]; omega) | with_reducible assumption)
          refine ⟨j, ⟨by omega, by rw [← hins]; exact hI⟩, by omega, atHead_weak ?_⟩
          rw [hswap]
          obtain ⟨L2, hL2⟩ : ∃ L2, P.take j ++ x :: P.drop j ++ rest = L2 := ⟨_, rfl⟩
          simp only [hL2, hsub2]
          refine ⟨rfl, rfl, rfl, by simp [AV.bare, bel_ints, cs_arr, dep_arr, cs_int, cs_bool, cs_list, cs_sk, cs_sp, AtHead, Same, AllO, Begins, LtAll, headSt, tokz_nil, tokz_cons, tokz1, lk, dep_int, dep_bool, dep_list, dep_sk, dep_sp, memAt, bel_map, bel_mapF, bel_mapO, bel_undef, bel_int, bel_boolv, bel_nilp, bel_nilf, bel_ptr, bel_arr, bel_mp, bel_yld, bel_agg, bel_tup, bel_ref, bel_only, bel_mpr, bel_fn, bel_sl_nil, bel_sl_nilF, bel_sl_nilO, bel_sl_cons, bel_sl_app, belO_cells, belO_tok, belO_dead, belO_deferred, belO_map, belO_iter, belO_loop, bel_vec, bel_vp, belO_vecM, belO_vec], begins_refl _, ?_, allO_of (hokv L2), trivial⟩
          simp [AV.bare, bel_ints, cs_arr, dep_arr, cs_int, cs_bool, cs_list, cs_sk, cs_sp, AtHead, Same, AllO, Begins, LtAll, headSt, tokz_nil, tokz_cons, tokz1, lk, dep_int, dep_bool, dep_list, dep_sk, dep_sp, memAt, bel_map, bel_mapF, bel_mapO, bel_undef, bel_int, bel_boolv, bel_nilp, bel_nilf, bel_ptr, bel_arr, bel_mp, bel_yld, bel_agg, bel_tup, bel_ref, bel_only, bel_mpr, bel_fn, bel_sl_nil, bel_sl_nilF, bel_sl_nilO, bel_sl_cons, bel_sl_app, belO_cells, belO_tok, belO_dead, belO_deferred, belO_map, belO_iter, belO_loop, bel_vec, bel_vp, belO_vecM, belO_vec, hv]
  · intro _
    have hn' : ¬ (((l.length - 1 + 1 : Nat) : Int) < (l.length : Int)) := by omega
    have hfin : sortS key (l.take (l.length - 1 + 1)) ++ l.drop (l.length - 1 + 1) = sortS key l := by
      rw [List.take_of_length_le (by omega), List.drop_eq_nil_of_le (by omega), List.append_nil]
    simp only [hfin]
    simp (maxSteps := 4000000) only [go_sem, AV.one, drawV, intsOf, keyIdx, over, putO, memAt, List.map_cons, List.length_cons, ↓reduceIte, zdrop, one_i, one_b, one_sl, one_ptr, one_ref, one_nilp, one_mp, one_fn, one_nilf, hn']
    all_goals (repeat' (first | with_reducible rfl | with_reducible apply And.intro | ((with_reducible show drawOK _ _ = true); rfl))) <;> (try first | omega | (simp only [InR]; omega) | with_reducible assumption)
    refine ⟨mem.length, Nat.le_refl _, by simp, ?_, by simp [AV.bare, bel_ints, cs_arr, dep_arr, cs_int, cs_bool, cs_list, cs_sk, cs_sp, AtHead, Same, AllO, Begins, LtAll, headSt, tokz_nil, tokz_cons, tokz1, lk, dep_int, dep_bool, dep_list, dep_sk, dep_sp, memAt, bel_map, bel_mapF, bel_mapO, bel_undef, bel_int, bel_boolv, bel_nilp, bel_nilf, bel_ptr, bel_arr, bel_mp, bel_yld, bel_agg, bel_tup, bel_ref, bel_only, bel_mpr, bel_fn, bel_sl_nil, bel_sl_nilF, bel_sl_nilO, bel_sl_cons, bel_sl_app, belO_cells, belO_tok, belO_dead, belO_deferred, belO_map, belO_iter, belO_loop, bel_vec, bel_vp, belO_vecM, belO_vec], ?_⟩
    · rw [List.take_of_length_le (by simp)]
    · have := hokv (sortS key l)
      rw [List.length_set] at this
      rw [List.take_of_length_le (by simp)]
      exact this
theorem pdq_call (l : List Int) (k : Int) (h : memAt mem v = .vec (l.map EncE.cs) 1 s) (hm : ∀ o ∈ mem, belO mem.length o) (hn : l.length ≤ 12) :
    CallX Try.prog 71 [.vec v s 0 l.length 1, .int .i64 0, .int .i64 l.length, .int .i64 k] mem
      (fun r m => r = .tup [] ∧ m = mem.set v (.vec ((sortS (fun i => i) l).map EncE.cs) 1 s)) := by
  have hv := memAt_some h (by simp)
  have hc := insO_call l h hm (by omega)
  refine callX_of_vc (Φ := P38) Try.func71 rfl (by rfl) (by rw [Try.ntmps71]; simp) mixed P38_ok ?_
  rw [Try.ntmps71]
  simp only [Try.f71, startSt, tmFrom]
  have hn' : (l.length : Int) - 0 ≤ 12 := by omega
  simp (maxSteps := 4000000) only [go_sem, AV.one, drawV, intsOf, keyIdx, over, putO, memAt, List.map_cons, List.length_cons, ↓reduceIte, zdrop, one_i, one_b, one_sl, one_ptr, one_ref, one_nilp, one_mp, one_fn, one_nilf]
  all_goals (repeat' (first | with_reducible rfl | with_reducible apply And.intro | ((with_reducible show drawOK _ _ = true); rfl))) <;> (try first | omega | (simp only [InR]; omega) | with_reducible assumption)
  refine loopN (0) [] [0, 1, 2, 3, 8, 9] (fun _ => [(0, .vec v s 0 l.length 1)]) (fun _ m => m) (fun _ => True) ?_ ?_ ?_ ?_
  · trivial
  · refine ⟨rfl, rfl, rfl, Nat.le_refl _, begins_refl _, ?_, allO_of hm, trivial⟩
    show Same _ mem.length _
    simp [AV.bare, bel_ints, cs_arr, dep_arr, cs_int, cs_bool, cs_list, cs_sk, cs_sp, AtHead, Same, AllO, Begins, LtAll, headSt, tokz_nil, tokz_cons, tokz1, lk, dep_int, dep_bool, dep_list, dep_sk, dep_sp, memAt, bel_map, bel_mapF, bel_mapO, bel_undef, bel_int, bel_boolv, bel_nilp, bel_nilf, bel_ptr, bel_arr, bel_mp, bel_yld, bel_agg, bel_tup, bel_ref, bel_only, bel_mpr, bel_fn, bel_sl_nil, bel_sl_nilF, bel_sl_nilO, bel_sl_cons, bel_sl_app, belO_cells, belO_tok, belO_dead, belO_deferred, belO_map, belO_iter, belO_loop, bel_vec, bel_vp, belO_vecM, belO_vec, hv]
  · intro i hi _
    omega
  · intro _
    simp (maxSteps := 4000000) only [go_sem, AV.one, drawV, intsOf, keyIdx, over, putO, memAt, List.map_cons, List.length_cons, ↓reduceIte, zdrop, one_i, one_b, one_sl, one_ptr, one_ref, one_nilp, one_mp, one_fn, one_nilf, hn']
    all_goals (repeat' (first | with_reducible rfl | with_reducible apply And.intro | ((with_reducible show drawOK _ _ = true); rfl))) <;> (try first | omega | (simp only [InR]; omega) | with_reducible assumption)
    refine ⟨_, hc, ?_⟩
    rintro r mem' ⟨rfl, rfl⟩ _
    refine ⟨mem.length, Nat.le_refl _, by simp, ?_, by simp [AV.bare, bel_ints, cs_arr, dep_arr, cs_int, cs_bool, cs_list, cs_sk, cs_sp, AtHead, Same, AllO, Begins, LtAll, headSt, tokz_nil, tokz_cons, tokz1, lk, dep_int, dep_bool, dep_list, dep_sk, dep_sp, memAt, bel_map, bel_mapF, bel_mapO, bel_undef, bel_int, bel_boolv, bel_nilp, bel_nilf, bel_ptr, bel_arr, bel_mp, bel_yld, bel_agg, bel_tup, bel_ref, bel_only, bel_mpr, bel_fn, bel_sl_nil, bel_sl_nilF, bel_sl_nilO, bel_sl_cons, bel_sl_app, belO_cells, belO_tok, belO_dead, belO_deferred, belO_map, belO_iter, belO_loop, bel_vec, bel_vp, belO_vecM, belO_vec], ?_⟩
    · rw [List.take_of_length_le (by simp)]
    · have := ok_set (v := v) hm (.vec ((sortS (fun i => i) l).map EncE.cs) 1 s) (by rw [belO_vecM _ _ _ (by rw [dep_int]; omega)]; trivial)
      rw [List.length_set] at this
      rw [List.take_of_length_le (by simp)]
      exact this
theorem Sort_call (l : List Int) (h : memAt mem v = .vec (l.map EncE.cs) 1 s) (hm : ∀ o ∈ mem, belO mem.length o) (hn : l.length ≤ 12) :
    CallX Try.prog 54 [.vec v s 0 l.length 1] mem
      (fun r m => r = .tup [] ∧ m = mem.set v (.vec ((sortS (fun i => i) l).map EncE.cs) 1 s)) := by
  have hv := memAt_some h (by simp)
  have hb := bitsL_call (l.length : Int) mem hm (by omega) (by omega)
  have hc := fun k => pdq_call l k h hm hn
  refine callX_of_vc (Φ := P38) Try.func54 rfl (by rfl) (by rw [Try.ntmps54]; simp) mixed P38_ok ?_
  rw [Try.ntmps54]
  simp only [Try.f54, startSt, tmFrom]
  simp (maxSteps := 4000000) only [go_sem, AV.one, drawV, intsOf, keyIdx, over, putO, memAt, List.map_cons, List.length_cons, ↓reduceIte, zdrop, one_i, one_b, one_sl, one_ptr, one_ref, one_nilp, one_mp, one_fn, one_nilf]
  all_goals (repeat' (first | with_reducible rfl | with_reducible apply And.intro | ((with_reducible show drawOK _ _ = true); rfl))) <;> (try first | omega | (simp only [InR]; omega) | with_reducible assumption)
  refine ⟨_, hb, ?_⟩
  rintro r mem' ⟨⟨k, rfl⟩, rfl⟩ _
  simp (maxSteps := 4000000) only [go_sem, AV.one, drawV, intsOf, keyIdx, over, putO, memAt, List.map_cons, List.length_cons, ↓reduceIte, zdrop, one_i, one_b, one_sl, one_ptr, one_ref, one_nilp, one_mp, one_fn, one_nilf]
  all_goals (repeat' (first | with_reducible rfl | with_reducible apply And.intro | ((with_reducible show drawOK _ _ = true); rfl))) <;> (try first | omega | (simp only [InR]; omega) | with_reducible assumption)
  refine ⟨_, hc k, ?_⟩
  rintro r m3 ⟨rfl, rfl⟩ _
  refine ⟨mem'.length, Nat.le_refl _, by simp, ?_, by simp [AV.bare, bel_ints, cs_arr, dep_arr, cs_int, cs_bool, cs_list, cs_sk, cs_sp, AtHead, Same, AllO, Begins, LtAll, headSt, tokz_nil, tokz_cons, tokz1, lk, dep_int, dep_bool, dep_list, dep_sk, dep_sp, memAt, bel_map, bel_mapF, bel_mapO, bel_undef, bel_int, bel_boolv, bel_nilp, bel_nilf, bel_ptr, bel_arr, bel_mp, bel_yld, bel_agg, bel_tup, bel_ref, bel_only, bel_mpr, bel_fn, bel_sl_nil, bel_sl_nilF, bel_sl_nilO, bel_sl_cons, bel_sl_app, belO_cells, belO_tok, belO_dead, belO_deferred, belO_map, belO_iter, belO_loop, bel_vec, bel_vp, belO_vecM, belO_vec], ?_⟩
  · rw [List.take_of_length_le (by simp)]
  · have := ok_set (v := v) hm (.vec ((sortS (fun i => i) l).map EncE.cs) 1 s) (by rw [belO_vecM _ _ _ (by rw [dep_int]; omega)]; trivial)
    rw [List.length_set] at this
    rw [List.take_of_length_le (by simp)]
    exact this
def compN (l : List Int) : Nat → List Int
  | 0 => []
  | k + 1 => if 1 ≤ k ∧ at_ l k = at_ l (k - 1) then compN l k else compN l k ++ [at_ l k]
def compactL (l : List Int) : List Int := compN l l.length
theorem compN_le (l : List Int) : ∀ k, (compN l k).length ≤ k
  | 0 => Nat.le_refl _
  | k + 1 => by
    have := compN_le l k
    unfold compN
    split
    · omega
    · simp; omega
theorem compN_take (l : List Int) : ∀ k, k ≤ l.length → (∀ i, 1 ≤ i → i < k → at_ l i ≠ at_ l (i - 1)) → compN l k = l.take k
  | 0, _, _ => by simp [compN]
  | k + 1, hk, h => by
    have ih := compN_take l k (by omega) (fun i h1 h2 => h i h1 (by omega))
    unfold compN
    rw [if_neg (fun q => h k q.1 (by omega) q.2), ih, take_succ_at (by omega)]
theorem rep_zero_cs (n : Nat) : List.replicate n [AV.int .i64 0] = (List.replicate n (0 : Int)).map EncE.cs := by simp [cs_int]
theorem Compact_call (l : List Int) (h : memAt mem v = .vec (l.map EncE.cs) 1 s) (hm : ∀ o ∈ mem, belO mem.length o) (hn : l.length ≤ 4096) :
    CallX Try.prog 55 [.vec v s 0 l.length 1] mem
      (fun r m => r = .vec v s 0 (compactL l).length 1 ∧ ∃ r, m = mem.set v (.vec ((compactL l ++ r).map EncE.cs) 1 s)) := by
  have hv := memAt_some h (by simp)
  have hokv : ∀ L : List Int, ∀ o ∈ mem.set v (.vec (L.map EncE.cs) 1 s), belO (mem.set v (.vec (L.map EncE.cs) 1 s)).length o := fun L => ok_set hm _ (by rw [belO_vecM _ _ _ (by rw [dep_int]; omega)]; trivial)
  refine callX_of_vc (Φ := P38) Try.func55 rfl (by rfl) (by rw [Try.ntmps55]; simp) mixed P38_ok ?_
  rw [Try.ntmps55]
  simp only [Try.f55, startSt, tmFrom]
  have hms := fun o => memAt_set_same (mem := mem) hv o
  have hss := fun o o' => set_set_same (mem := mem) (v := v) o o'
  by_cases c2 : l.length < 2
  · have c2' : (l.length : Int) < 2 := by omega
    have hcl : compactL l = l := by
      unfold compactL
      rw [compN_take l _ (Nat.le_refl _) (fun i h1 h2 => by omega), List.take_length]
    rw [hcl]
    simp (maxSteps := 4000000) only [go_sem, AV.one, drawV, intsOf, keyIdx, over, putO, memAt, List.map_cons, List.length_cons, ↓reduceIte, zdrop, one_i, one_b, one_sl, one_ptr, one_ref, one_nilp, one_mp, one_fn, one_nilf, c2']
    all_goals (repeat' (first | with_reducible rfl | with_reducible apply And.intro | ((with_reducible show drawOK _ _ = true); rfl))) <;> (try first | omega | (simp only [InR]; omega) | with_reducible assumption)
    refine ⟨mem.length, Nat.le_refl _, Nat.le_refl _, ⟨[], ?_⟩, by simp [AV.bare, bel_ints, cs_arr, dep_arr, cs_int, cs_bool, cs_list, cs_sk, cs_sp, AtHead, Same, AllO, Begins, LtAll, headSt, tokz_nil, tokz_cons, tokz1, lk, dep_int, dep_bool, dep_list, dep_sk, dep_sp, memAt, bel_map, bel_mapF, bel_mapO, bel_undef, bel_int, bel_boolv, bel_nilp, bel_nilf, bel_ptr, bel_arr, bel_mp, bel_yld, bel_agg, bel_tup, bel_ref, bel_only, bel_mpr, bel_fn, bel_sl_nil, bel_sl_nilF, bel_sl_nilO, bel_sl_cons, bel_sl_app, belO_cells, belO_tok, belO_dead, belO_deferred, belO_map, belO_iter, belO_loop, bel_vec, bel_vp, belO_vecM, belO_vec, hv], by rw [List.take_length]; exact hm⟩
    · rw [List.append_nil, set_self h, List.take_length]
  have c2' : ¬ ((l.length : Int) < 2) := by omega
  simp (maxSteps := 4000000) only [go_sem, AV.one, drawV, intsOf, keyIdx, over, putO, memAt, List.map_cons, List.length_cons, ↓reduceIte, zdrop, one_i, one_b, one_sl, one_ptr, one_ref, one_nilp, one_mp, one_fn, one_nilf, c2']
  all_goals (repeat' (first | with_reducible rfl | with_reducible apply And.intro | ((with_reducible show drawOK _ _ = true); rfl))) <;> (try first | omega | (simp only [InR]; omega) | with_reducible assumption)
  refine loopN (l.length - 1) [] [0, 2] (fun i => [(3, .int .i64 ((i + 1 : Nat) : Int))]) (fun _ m => m) (fun k => ∀ i, 1 ≤ i → i < k + 1 → at_ l i ≠ at_ l (i - 1)) ?_ ?_ ?_ ?_
  · intro i h1 h2; omega
  · refine ⟨rfl, rfl, rfl, Nat.le_refl _, begins_refl _, ?_, allO_of hm, trivial⟩
    show Same _ mem.length _
    simp [AV.bare, bel_ints, cs_arr, dep_arr, cs_int, cs_bool, cs_list, cs_sk, cs_sp, AtHead, Same, AllO, Begins, LtAll, headSt, tokz_nil, tokz_cons, tokz1, lk, dep_int, dep_bool, dep_list, dep_sk, dep_sp, memAt, bel_map, bel_mapF, bel_mapO, bel_undef, bel_int, bel_boolv, bel_nilp, bel_nilf, bel_ptr, bel_arr, bel_mp, bel_yld, bel_agg, bel_tup, bel_ref, bel_only, bel_mpr, bel_fn, bel_sl_nil, bel_sl_nilF, bel_sl_nilO, bel_sl_cons, bel_sl_app, belO_cells, belO_tok, belO_dead, belO_deferred, belO_map, belO_iter, belO_loop, bel_vec, bel_vp, belO_vecM, belO_vec, hv]
  · intro i hi hI
    have hi1 : i + 1 < l.length := by omega
    have hi' := Int.ofNat_lt.2 hi1
    have hsub : (((i + 1 : Nat) : Int) - 1).toNat = i := by omega
    have hsub2 : ((i + 1 : Nat) : Int) - 1 = (i : Int) := by omega
    cases c1 : decide (at_ l (i + 1) = at_ l i)
    · simp (maxSteps := 4000000) only [go_sem, AV.one, drawV, intsOf, keyIdx, over, putO, List.map_cons, List.length_cons, ↓reduceIte, zdrop, one_i, one_b, one_sl, one_ptr, one_ref, one_nilp, one_mp, one_fn, one_nilf, hi', h, getD_mapA hi1, getD_mapA (show i < l.length by omega), hsub, hsub2, c1]
      all_goals (repeat' (first | with_reducible rfl | with_reducible apply And.intro | ((with_reducible show drawOK _ _ = true); rfl))) <;> (try first | omega | (simp only [InR]; omega) | with_reducible assumption)
      refine nxt hi ?_ ?_
      · intro k h1 h2
        by_cases e : k = i + 1
        · subst e; simpa using c1
        · exact hI k h1 (by omega)
      · refine ⟨rfl, rfl, rfl, Nat.le_refl _, begins_refl _, ?_, allO_of hm, trivial⟩
        show Same _ mem.length _
        simp [AV.bare, bel_ints, cs_arr, dep_arr, cs_int, cs_bool, cs_list, cs_sk, cs_sp, AtHead, Same, AllO, Begins, LtAll, headSt, tokz_nil, tokz_cons, tokz1, lk, dep_int, dep_bool, dep_list, dep_sk, dep_sp, memAt, bel_map, bel_mapF, bel_mapO, bel_undef, bel_int, bel_boolv, bel_nilp, bel_nilf, bel_ptr, bel_arr, bel_mp, bel_yld, bel_agg, bel_tup, bel_ref, bel_only, bel_mpr, bel_fn, bel_sl_nil, bel_sl_nilF, bel_sl_nilO, bel_sl_cons, bel_sl_app, belO_cells, belO_tok, belO_dead, belO_deferred, belO_map, belO_iter, belO_loop, bel_vec, bel_vp, belO_vecM, belO_vec, hv]
    · simp (maxSteps := 4000000) only [go_sem, AV.one, drawV, intsOf, keyIdx, over, putO, List.map_cons, List.length_cons, ↓reduceIte, zdrop, one_i, one_b, one_sl, one_ptr, one_ref, one_nilp, one_mp, one_fn, one_nilf, hi', h, getD_mapA hi1, getD_mapA (show i < l.length by omega), hsub, hsub2, c1]
      all_goals (repeat' (first | with_reducible rfl | with_reducible apply And.intro | ((with_reducible show drawOK _ _ = true); rfl))) <;> (try first | omega | (simp only [InR]; omega) | with_reducible assumption)
      have hdup : at_ l (i + 1) = at_ l i := by simpa using c1
      have hC0 : compN l (i + 1) = l.take (i + 1) := compN_take l _ (by omega) (fun k h1 h2 => hI k h1 (by omega))
      have hC1 : compN l (i + 2) = l.take (i + 1) := by
        rw [← hC0]
        show (if 1 ≤ i + 1 ∧ at_ l (i + 1) = at_ l (i + 1 - 1) then compN l (i + 1) else _) = _
        rw [if_pos ⟨by omega, hdup⟩]
      obtain ⟨C, hC⟩ : ∃ C : Nat → List Int, C = fun j => compN l (i + 2 + j) := ⟨_, rfl⟩
      have hCl0 : (C 0).length = i + 1 := by rw [hC]; show (compN l (i + 2)).length = _; rw [hC1, List.length_take]; omega
      have hCs : ∀ j, C (j + 1) = if at_ l (i + 2 + j) = at_ l (i + 1 + j) then C j else C j ++ [at_ l (i + 2 + j)] := fun j => by
        rw [hC]
        show compN l (i + 2 + j + 1) = _
        show (if 1 ≤ i + 2 + j ∧ at_ l (i + 2 + j) = at_ l (i + 2 + j - 1) then compN l (i + 2 + j) else _) = _
        rw [show i + 2 + j - 1 = i + 1 + j by omega]
        simp only [show 1 ≤ i + 2 + j by omega, true_and]
      have hfinC : C (l.length - (i + 2)) = compactL l := by rw [hC]; unfold compactL; dsimp only; congr 1; omega
      have hZ0 : C 0 ++ l.drop (C 0).length = l := by
        rw [hCl0, show C 0 = l.take (i + 1) by rw [hC]; exact hC1, List.take_append_drop]
      have hsl : ((l.length : Int) - ((i + 1 : Nat) : Int)).toNat = l.length - (i + 1) := by omega
      refine loopN (l.length - (i + 2)) [] [0, 2, 4, 10, 11, 12, 16, 17, 18, 19, 20, 21, 22, 23, 24, 26, 27, 28] (fun j => [(5, .int .i64 ((j + 1 : Nat) : Int)), (3, .int .i64 ((C j).length : Int))]) (fun j _ => mem.set v (.vec ((C j ++ l.drop (C j).length).map EncE.cs) 1 s)) (fun j => (C j).length ≤ i + 1 + j) ?_ ?_ ?_ ?_
      · show (C 0).length ≤ _
        omega
      · have hM0 : mem.set v (.vec ((C 0 ++ l.drop (C 0).length).map EncE.cs) 1 s) = mem := by rw [hZ0, set_self h]
        refine ⟨rfl, rfl, rfl, ?_, ?_, ?_, allO_of ?_, trivial⟩
        · simp only [headSt, tokz_nil]; rw [hM0]; exact Nat.le_refl _
        · simp only [headSt, tokz_nil]; rw [hM0]; exact begins_refl _
        · simp only [headSt, tokz_nil]; rw [hM0, hCl0]; simp [AV.bare, bel_ints, cs_arr, dep_arr, cs_int, cs_bool, cs_list, cs_sk, cs_sp, AtHead, Same, AllO, Begins, LtAll, headSt, tokz_nil, tokz_cons, tokz1, lk, dep_int, dep_bool, dep_list, dep_sk, dep_sp, memAt, bel_map, bel_mapF, bel_mapO, bel_undef, bel_int, bel_boolv, bel_nilp, bel_nilf, bel_ptr, bel_arr, bel_mp, bel_yld, bel_agg, bel_tup, bel_ref, bel_only, bel_mpr, bel_fn, bel_sl_nil, bel_sl_nilF, bel_sl_nilO, bel_sl_cons, bel_sl_app, belO_cells, belO_tok, belO_dead, belO_deferred, belO_map, belO_iter, belO_loop, bel_vec, bel_vp, belO_vecM, belO_vec, hv]
        · simp only [headSt, tokz_nil]; rw [hM0]; exact hm
      · intro j hj hCj
        have hp : i + 2 + j < l.length := by omega
        obtain ⟨D, hD⟩ : ∃ D, C j = D := ⟨_, rfl⟩
        have hCsj := hCs j
        rw [hD] at hCj hCsj
        rw [hD]
        obtain ⟨Z, hZ⟩ : ∃ Z, D ++ l.drop D.length = Z := ⟨_, rfl⟩
        have hZl : Z.length = l.length := by rw [← hZ]; simp; omega
        have hZat : ∀ k, D.length ≤ k → k < l.length → at_ Z k = at_ l k := fun k h1 h2 => by
          rw [← hZ]
          simp only [at_, List.getD]
          rw [List.getElem?_append_right h1, List.getElem?_drop]
          congr 2; omega
        have hj1 : ((j + 1 : Nat) : Int) < ((l.length - (i + 1) : Nat) : Int) := by omega
        have hs1 : (((j + 1 : Nat) : Int) - 1).toNat = j := by omega
        have hs2 : ((j + 1 : Nat) : Int) - 1 = (j : Int) := by omega
        have hgx : (Z.map EncE.cs).getD (i + 1 + (j + 1)) [] = [AV.int .i64 (at_ l (i + 2 + j))] := by
          rw [getD_mapA (by omega), hZat _ (by omega) (by omega), show i + 1 + (j + 1) = i + 2 + j by omega]; rfl
        have hgy : (Z.map EncE.cs).getD (i + 1 + j) [] = [AV.int .i64 (at_ l (i + 1 + j))] := by
          rw [getD_mapA (by omega), hZat _ (by omega) (by omega)]; rfl
        have hDl : D.length < l.length := by omega
        have hgD : (Z.map EncE.cs).getD D.length [] = [AV.int .i64 (at_ Z D.length)] := by rw [getD_mapA (by omega)]; rfl
        rw [hZ]
        cases c3 : decide (at_ l (i + 2 + j) = at_ l (i + 1 + j))
        · have c3' : ¬ at_ l (i + 2 + j) = at_ l (i + 1 + j) := by simpa using c3
          rw [if_neg c3'] at hCsj
          have hset : Z.set D.length (at_ l (i + 2 + j)) = C (j + 1) ++ l.drop (C (j + 1)).length := by
            rw [hCsj, ← hZ]
            rw [List.set_append_right _ _ (Nat.le_refl _), Nat.sub_self, drop_at hDl]
            simp
          have hlen1 : (C (j + 1)).length = D.length + 1 := by rw [hCsj]; simp
          simp (maxSteps := 4000000) only [go_sem, AV.one, drawV, intsOf, keyIdx, over, putO, List.map_cons, List.length_cons, ↓reduceIte, zdrop, one_i, one_b, one_sl, one_ptr, one_ref, one_nilp, one_mp, one_fn, one_nilf, hsl, hms, hss, hj1, hs1, hs2, hgx, hgy, hgD, c3, set_cs, hset]
          all_goals (repeat' (first | with_reducible rfl | with_reducible apply And.intro | ((with_reducible show drawOK _ _ = true); rfl))) <;> (try first | omega | (simp only [InR]; omega) | with_reducible assumption)
          refine nxt hj (by rw [hlen1]; omega) ?_
          refine ⟨rfl, rfl, rfl, by simp [AV.bare, bel_ints, cs_arr, dep_arr, cs_int, cs_bool, cs_list, cs_sk, cs_sp, AtHead, Same, AllO, Begins, LtAll, headSt, tokz_nil, tokz_cons, tokz1, lk, dep_int, dep_bool, dep_list, dep_sk, dep_sp, memAt, bel_map, bel_mapF, bel_mapO, bel_undef, bel_int, bel_boolv, bel_nilp, bel_nilf, bel_ptr, bel_arr, bel_mp, bel_yld, bel_agg, bel_tup, bel_ref, bel_only, bel_mpr, bel_fn, bel_sl_nil, bel_sl_nilF, bel_sl_nilO, bel_sl_cons, bel_sl_app, belO_cells, belO_tok, belO_dead, belO_deferred, belO_map, belO_iter, belO_loop, bel_vec, bel_vp, belO_vecM, belO_vec], begins_refl _, ?_, allO_of (hokv _), trivial⟩
          simp [AV.bare, bel_ints, cs_arr, dep_arr, cs_int, cs_bool, cs_list, cs_sk, cs_sp, AtHead, Same, AllO, Begins, LtAll, headSt, tokz_nil, tokz_cons, tokz1, lk, dep_int, dep_bool, dep_list, dep_sk, dep_sp, memAt, bel_map, bel_mapF, bel_mapO, bel_undef, bel_int, bel_boolv, bel_nilp, bel_nilf, bel_ptr, bel_arr, bel_mp, bel_yld, bel_agg, bel_tup, bel_ref, bel_only, bel_mpr, bel_fn, bel_sl_nil, bel_sl_nilF, bel_sl_nilO, bel_sl_cons, bel_sl_app, belO_cells, belO_tok, belO_dead, belO_deferred, belO_map, belO_iter, belO_loop, bel_vec, bel_vp, belO_vecM, belO_vec, hv, hlen1]
        · have c3' : at_ l (i + 2 + j) = at_ l (i + 1 + j) := by simpa using c3
          rw [if_pos c3'] at hCsj
          simp (maxSteps := 4000000) only [go_sem, AV.one, drawV, intsOf, keyIdx, over, putO, List.map_cons, List.length_cons, ↓reduceIte, zdrop, one_i, one_b, one_sl, one_ptr, one_ref, one_nilp, one_mp, one_fn, one_nilf, hsl, hms, hss, hj1, hs1, hs2, hgx, hgy, hgD, c3]
          all_goals (repeat' (first | with_reducible rfl | with_reducible apply And.intro | ((with_reducible show drawOK _ _ = true); rfl))) <;> (try first | omega | (simp only [InR]; omega) | with_reducible assumption)
          refine nxt hj (by rw [hCsj]; omega) ?_
          refine ⟨rfl, rfl, rfl, by simp [AV.bare, bel_ints, cs_arr, dep_arr, cs_int, cs_bool, cs_list, cs_sk, cs_sp, AtHead, Same, AllO, Begins, LtAll, headSt, tokz_nil, tokz_cons, tokz1, lk, dep_int, dep_bool, dep_list, dep_sk, dep_sp, memAt, bel_map, bel_mapF, bel_mapO, bel_undef, bel_int, bel_boolv, bel_nilp, bel_nilf, bel_ptr, bel_arr, bel_mp, bel_yld, bel_agg, bel_tup, bel_ref, bel_only, bel_mpr, bel_fn, bel_sl_nil, bel_sl_nilF, bel_sl_nilO, bel_sl_cons, bel_sl_app, belO_cells, belO_tok, belO_dead, belO_deferred, belO_map, belO_iter, belO_loop, bel_vec, bel_vp, belO_vecM, belO_vec], ?_, ?_, allO_of (by rw [hCsj, hZ]; exact hokv _), trivial⟩
          · simp only [headSt, tokz_nil]; rw [hCsj, hZ]; exact begins_refl _
          · simp [AV.bare, bel_ints, cs_arr, dep_arr, cs_int, cs_bool, cs_list, cs_sk, cs_sp, AtHead, Same, AllO, Begins, LtAll, headSt, tokz_nil, tokz_cons, tokz1, lk, dep_int, dep_bool, dep_list, dep_sk, dep_sp, memAt, bel_map, bel_mapF, bel_mapO, bel_undef, bel_int, bel_boolv, bel_nilp, bel_nilf, bel_ptr, bel_arr, bel_mp, bel_yld, bel_agg, bel_tup, bel_ref, bel_only, bel_mpr, bel_fn, bel_sl_nil, bel_sl_nilF, bel_sl_nilO, bel_sl_cons, bel_sl_app, belO_cells, belO_tok, belO_dead, belO_deferred, belO_map, belO_iter, belO_loop, bel_vec, bel_vp, belO_vecM, belO_vec, hv, hCsj]
      · intro hCj
        have hDn : (C (l.length - (i + 2))).length ≤ l.length := by omega
        rw [hfinC] at hDn
        rw [hfinC]
        obtain ⟨D, hD⟩ : ∃ D, compactL l = D := ⟨_, rfl⟩
        rw [hD] at hDn
        rw [hD]
        have hj1 : ¬ (((l.length - (i + 2) + 1 : Nat) : Int) < ((l.length - (i + 1) : Nat) : Int)) := by omega
        have hsl2 : ((l.length : Int) - (D.length : Int)).toNat = l.length - D.length := by omega
        simp (maxSteps := 4000000) only [go_sem, AV.one, drawV, intsOf, keyIdx, over, putO, List.map_cons, List.length_cons, ↓reduceIte, zdrop, one_i, one_b, one_sl, one_ptr, one_ref, one_nilp, one_mp, one_fn, one_nilf, hsl, hsl2, hms, hss, hj1]
        all_goals (repeat' (first | with_reducible rfl | with_reducible apply And.intro | ((with_reducible show drawOK _ _ = true); rfl))) <;> (try first | omega | (simp only [InR]; omega) | with_reducible assumption)
        have hz0 : ((D.length : Int) - 0).toNat = D.length := by omega
        have hce : clearE ((D ++ l.drop D.length).map EncE.cs) D.length (l.length - D.length) [AV.int .i64 0] = (D ++ List.replicate (l.length - D.length) 0).map EncE.cs := by
          unfold clearE
          have e1 : List.drop (D.length + (l.length - D.length)) ((D ++ l.drop D.length).map EncE.cs) = [] := List.drop_eq_nil_of_le (by simp <;> omega)
          have e2 : List.take D.length ((D ++ l.drop D.length).map EncE.cs) = D.map EncE.cs := by rw [← List.map_take, List.take_append_of_le_length (Nat.le_refl _), List.take_length]
          rw [e1, e2, rep_zero_cs, List.append_nil, List.map_append]
        rw [hce, hz0]
        refine ⟨mem.length, Nat.le_refl _, by simp, ⟨rfl, List.replicate (l.length - D.length) 0, ?_⟩, by simp [AV.bare, bel_ints, cs_arr, dep_arr, cs_int, cs_bool, cs_list, cs_sk, cs_sp, AtHead, Same, AllO, Begins, LtAll, headSt, tokz_nil, tokz_cons, tokz1, lk, dep_int, dep_bool, dep_list, dep_sk, dep_sp, memAt, bel_map, bel_mapF, bel_mapO, bel_undef, bel_int, bel_boolv, bel_nilp, bel_nilf, bel_ptr, bel_arr, bel_mp, bel_yld, bel_agg, bel_tup, bel_ref, bel_only, bel_mpr, bel_fn, bel_sl_nil, bel_sl_nilF, bel_sl_nilO, bel_sl_cons, bel_sl_app, belO_cells, belO_tok, belO_dead, belO_deferred, belO_map, belO_iter, belO_loop, bel_vec, bel_vp, belO_vecM, belO_vec, hv], ?_⟩
        · rw [List.take_of_length_le (by simp)]
        · have := hokv (D ++ List.replicate (l.length - D.length) 0)
          rw [List.length_set] at this
          rw [List.take_of_length_le (by simp)]
          exact this
  · intro hI
    have hn' : ¬ (((l.length - 1 + 1 : Nat) : Int) < (l.length : Int)) := by omega
    have hcl : compactL l = l := by
      unfold compactL
      rw [compN_take l _ (Nat.le_refl _) (fun i h1 h2 => hI i h1 (by omega)), List.take_length]
    rw [hcl]
    simp (maxSteps := 4000000) only [go_sem, AV.one, drawV, intsOf, keyIdx, over, putO, memAt, List.map_cons, List.length_cons, ↓reduceIte, zdrop, one_i, one_b, one_sl, one_ptr, one_ref, one_nilp, one_mp, one_fn, one_nilf, hn']
    all_goals (repeat' (first | with_reducible rfl | with_reducible apply And.intro | ((with_reducible show drawOK _ _ = true); rfl))) <;> (try first | omega | (simp only [InR]; omega) | with_reducible assumption)
    refine ⟨mem.length, Nat.le_refl _, Nat.le_refl _, ⟨[], ?_⟩, by simp [AV.bare, bel_ints, cs_arr, dep_arr, cs_int, cs_bool, cs_list, cs_sk, cs_sp, AtHead, Same, AllO, Begins, LtAll, headSt, tokz_nil, tokz_cons, tokz1, lk, dep_int, dep_bool, dep_list, dep_sk, dep_sp, memAt, bel_map, bel_mapF, bel_mapO, bel_undef, bel_int, bel_boolv, bel_nilp, bel_nilf, bel_ptr, bel_arr, bel_mp, bel_yld, bel_agg, bel_tup, bel_ref, bel_only, bel_mpr, bel_fn, bel_sl_nil, bel_sl_nilF, bel_sl_nilO, bel_sl_cons, bel_sl_app, belO_cells, belO_tok, belO_dead, belO_deferred, belO_map, belO_iter, belO_loop, bel_vec, bel_vp, belO_vecM, belO_vec, hv], by rw [List.take_length]; exact hm⟩
    · rw [List.append_nil, set_self h, List.take_length]
end
end Go.Proofs
