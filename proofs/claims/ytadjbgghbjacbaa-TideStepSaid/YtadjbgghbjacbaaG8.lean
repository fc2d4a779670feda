/- The texts S4, S5, S6, joined. -/
import Derived.Test.YtadjbgghbjacbaaG7
set_option linter.all false
/- Truths of a table, and what is asked of them. -/
namespace Go.Proofs
open Go.Fs
set_option linter.unusedSimpArgs false
set_option maxHeartbeats 1000000
set_option maxRecDepth 8000

def zipB (l : List Int) (hs : List Rg) : List Bool := List.zipWith (fun x r => inB x r.lo r.hi) l hs
theorem zipB_at {l : List Int} {hs : List Rg} {i : Nat} (h1 : i < l.length) (h2 : i < hs.length) : at_ (zipB l hs) i = inB (at_ l i) (at_ hs i).lo (at_ hs i).hi := by
  simp [at_, zipB, List.getD, List.getElem?_zipWith, h1, h2]
theorem zipB_len (l : List Int) (hs : List Rg) : (zipB l hs).length = min l.length hs.length := by simp [zipB]
theorem zipB_LOk {t : Tb} {l : List Int} (h : HOk t) (hl : l.length = t.heights.length) (hz : (zipB l t.heights).all id = true) : LOk l := by
  refine ⟨by have := h.len; omega, fun x hx => ?_⟩
  obtain ⟨i, hi, rfl⟩ := List.getElem_of_mem hx
  have h2 : i < t.heights.length := by omega
  have h3 : i < (zipB l t.heights).length := by rw [zipB_len]; omega
  have := List.all_eq_true.1 hz _ (at_mem h3)
  rw [zipB_at hi h2] at this
  have hr := h.h _ (at_mem h2)
  have := (inB_iff _ _ _).1 this
  rw [at_get hi] at this
  omega
def listedB (t : Tb) (l : List Int) : Bool := (zipB l t.heights).all id && (decide ((l.length : Int) = t.heights.length) && nearL t.step l)
theorem IsListed_call (t : Tb) (l : List Int) (h : HOk t ∧ l.length ≤ 4096) : CallP Try.prog 57 [Enc.enc t, Enc.enc l] (· = Enc.enc (listedB t l)) := by
  have hs0 := h.1.s0
  have hs1 := h.1.s1
  have hl := h.2
  have hh := h.1.len
  simp only [enc_fnl, enc_fnb, enc_fnc, enc_refc, enc_arr, enc_int, enc_bool, enc_list, enc_rg, enc_mk, enc_tb]
  refine callP_of_vc (Φ := P6) Try.func57 rfl (by rfl) (by rw [Try.ntmps57]; simp) mixed P6_ok (by simp [AV.strip, Tk.strip]) ?_
  rw [Try.ntmps57]
  simp only [Try.f57, startSt, tmFrom]
  simp (maxSteps := 4000000) only [go_sem, AV.one, drawV, intsOf, keyIdx, over, putO, memAt, List.map_cons, List.length_cons, ↓reduceIte]
  refine loopN ((zipB l t.heights).length) [] [1, 2, 4] (fun i => [(5, .int .i64 i)]) (fun _ m => m) (fun i => ((zipB l t.heights).take i).all id = true) ?_ ?_ ?_ ?_
  · simp
  · simp [bel_ints, cs_arr, dep_arr, cs_int, cs_bool, cs_list, cs_rg, cs_mk, AtHead, Same, AllO, Begins, LtAll, headSt, tokz_nil, tokz_cons, tokz1, lk, dep_int, dep_bool, dep_list, dep_rg, dep_mk, memAt, bel_map, bel_mapF, bel_mapO, bel_undef, bel_int, bel_boolv, bel_nilp, bel_nilf, bel_ptr, bel_arr, bel_mp, bel_yld, bel_agg, bel_tup, bel_ref, bel_only, bel_mpr, bel_fn, bel_sl_nil, bel_sl_nilF, bel_sl_nilO, bel_sl_cons, bel_sl_app, belO_cells, belO_tok, belO_dead, belO_deferred, belO_map, belO_iter, belO_loop]
  · intro i hi hI
    have hz := zipB_len l t.heights
    have h1 : i < l.length := by omega
    have h2 : i < t.heights.length := by omega
    have hz := zipB_at h1 h2
    cases c : inB (at_ l i) (at_ t.heights i).lo (at_ t.heights i).hi <;>
      simp (maxSteps := 4000000) only [go_sem, AV.one, drawV, intsOf, keyIdx, over, putO, memAt, List.map_cons, List.length_cons, ↓reduceIte, getD_mapA h1, getD_mapA h2, Int.ofNat_lt.2 h1, Int.ofNat_lt.2 h2, c]
    all_goals all_goals (repeat' (first | with_reducible rfl | with_reducible apply And.intro | ((with_reducible show drawOK _ = true); rfl))) <;> (try first | omega | (simp only [InR]; omega) | with_reducible assumption)
    · rw [listedB, all_at hi (by rw [hz, c]; rfl)]; rfl
    · refine nxt hi ?_ ?_
      · rw [all_take hi, hI, hz, c]; rfl
      · simp [bel_ints, cs_arr, dep_arr, cs_int, cs_bool, cs_list, cs_rg, cs_mk, AtHead, Same, AllO, Begins, LtAll, headSt, tokz_nil, tokz_cons, tokz1, lk, dep_int, dep_bool, dep_list, dep_rg, dep_mk, memAt, bel_map, bel_mapF, bel_mapO, bel_undef, bel_int, bel_boolv, bel_nilp, bel_nilf, bel_ptr, bel_arr, bel_mp, bel_yld, bel_agg, bel_tup, bel_ref, bel_only, bel_mpr, bel_fn, bel_sl_nil, bel_sl_nilF, bel_sl_nilO, bel_sl_cons, bel_sl_app, belO_cells, belO_tok, belO_dead, belO_deferred, belO_map, belO_iter, belO_loop]
  · intro hI
    have hI := fault_all hI
    have hz := zipB_len l t.heights
    have hd : decide (((zipB l t.heights).length : Int) < (l.length : Int)) = true → decide (((zipB l t.heights).length : Int) < (t.heights.length : Int)) = false := by
      simp; omega
    cases c1 : decide (((zipB l t.heights).length : Int) < (l.length : Int))
    · cases c2 : decide ((l.length : Int) = t.heights.length)
      · simp (maxSteps := 4000000) only [go_sem, AV.one, drawV, intsOf, keyIdx, over, putO, memAt, List.map_cons, List.length_cons, ↓reduceIte, c1, c2]
        simp [listedB, c2]
      · have hlo := zipB_LOk h.1 (by simp at c2; omega) hI
        simp (maxSteps := 4000000) only [go_sem, AV.one, drawV, intsOf, keyIdx, over, putO, memAt, List.map_cons, List.length_cons, ↓reduceIte, c1, c2]
        all_goals (repeat' (first | with_reducible rfl | with_reducible apply And.intro | ((with_reducible show drawOK _ = true); rfl))) <;> (try first | omega | (simp only [InR]; omega) | with_reducible assumption)
        simp [listedB, c2, hI]
    · have c3 := hd c1
      cases c2 : decide ((l.length : Int) = t.heights.length)
      · simp (maxSteps := 4000000) only [go_sem, AV.one, drawV, intsOf, keyIdx, over, putO, memAt, List.map_cons, List.length_cons, ↓reduceIte, c1, c2, c3]
        simp [listedB, c2]
      · have hlo := zipB_LOk h.1 (by simp at c2; omega) hI
        simp (maxSteps := 4000000) only [go_sem, AV.one, drawV, intsOf, keyIdx, over, putO, memAt, List.map_cons, List.length_cons, ↓reduceIte, c1, c2, c3]
        all_goals (repeat' (first | with_reducible rfl | with_reducible apply And.intro | ((with_reducible show drawOK _ = true); rfl))) <;> (try first | omega | (simp only [InR]; omega) | with_reducible assumption)
        simp [listedB, c2, hI]
def P7 : Specs := addSpec 57 (spec2 (fun (t : Tb) (l : List Int) => HOk t ∧ l.length ≤ 4096) listedB) (P6)
theorem P7_app (g : FuncId) : P7 g = (addSpec 57 (spec2 (fun (t : Tb) (l : List Int) => HOk t ∧ l.length ≤ 4096) listedB) (P6)) g := rfl
theorem P7_ok : SpecsOk Try.prog P7 := addSpec_ok (spec2_ok IsListed_call) (P6_ok)
attribute [go_sem] P7_app

def isTruthB (t : Tb) (l : List Int) : Bool := listedB t l && t.marks.all (rightM l)
theorem listedB_len {t : Tb} {l : List Int} (h : listedB t l = true) : l.length = t.heights.length := by
  simp only [listedB, Bool.and_eq_true, decide_eq_true_eq] at h
  omega
theorem IsTruth_call (t : Tb) (l : List Int) (h : (HOk t ∧ l.length ≤ 4096) ∧ MOk t) : CallP Try.prog 56 [Enc.enc t, Enc.enc l] (· = Enc.enc (isTruthB t l)) := by
  have h0 := h.1.1
  have h1 := h.1.2
  have hm := h.2.len
  cases c0 : listedB t l
  · simp only [enc_fnl, enc_fnb, enc_fnc, enc_refc, enc_arr, enc_int, enc_bool, enc_list, enc_rg, enc_mk, enc_tb]
    refine callP_of_vc (Φ := P7) Try.func56 rfl (by rfl) (by rw [Try.ntmps56]; simp) mixed P7_ok (by simp [AV.strip, Tk.strip]) ?_
    rw [Try.ntmps56]
    simp only [Try.f56, startSt, tmFrom]
    simp (maxSteps := 4000000) only [go_sem, AV.one, drawV, intsOf, keyIdx, over, putO, memAt, List.map_cons, List.length_cons, ↓reduceIte, c0]
    all_goals (repeat' (first | with_reducible rfl | with_reducible apply And.intro | ((with_reducible show drawOK _ = true); rfl))) <;> (try first | omega | (simp only [InR]; omega) | with_reducible assumption)
    simp [isTruthB, c0]
  have hll := listedB_len c0
  simp only [enc_fnl, enc_fnb, enc_fnc, enc_refc, enc_arr, enc_int, enc_bool, enc_list, enc_rg, enc_mk, enc_tb]
  refine callP_of_vc (Φ := P7) Try.func56 rfl (by rfl) (by rw [Try.ntmps56]; simp) mixed P7_ok (by simp [AV.strip, Tk.strip]) ?_
  rw [Try.ntmps56]
  simp only [Try.f56, startSt, tmFrom]
  simp (maxSteps := 4000000) only [go_sem, AV.one, drawV, intsOf, keyIdx, over, putO, memAt, List.map_cons, List.length_cons, ↓reduceIte, c0]
  refine ⟨⟨h0, h1⟩, ?_⟩
  refine loopN (t.marks.length) [] [1, 2, 4] (fun i => [(5, .int .i64 i)]) (fun _ m => m) (fun i => (t.marks.take i).all (rightM l) = true) ?_ ?_ ?_ ?_
  · simp
  · simp [bel_ints, cs_arr, dep_arr, cs_int, cs_bool, cs_list, cs_rg, cs_mk, AtHead, Same, AllO, Begins, LtAll, headSt, tokz_nil, tokz_cons, tokz1, lk, dep_int, dep_bool, dep_list, dep_rg, dep_mk, memAt, bel_map, bel_mapF, bel_mapO, bel_undef, bel_int, bel_boolv, bel_nilp, bel_nilf, bel_ptr, bel_arr, bel_mp, bel_yld, bel_agg, bel_tup, bel_ref, bel_only, bel_mpr, bel_fn, bel_sl_nil, bel_sl_nilF, bel_sl_nilO, bel_sl_cons, bel_sl_app, belO_cells, belO_tok, belO_dead, belO_deferred, belO_map, belO_iter, belO_loop]
  · intro i hi hI
    have hr := h.2.m _ (at_mem hi)
    cases c : rightM l (at_ t.marks i) <;>
      simp (maxSteps := 4000000) only [go_sem, AV.one, drawV, intsOf, keyIdx, over, putO, memAt, List.map_cons, List.length_cons, ↓reduceIte, getD_mapA hi, Int.ofNat_lt.2 hi, c]
    all_goals all_goals (repeat' (first | with_reducible rfl | with_reducible apply And.intro | ((with_reducible show drawOK _ = true); rfl))) <;> (try first | omega | (simp only [InR]; omega) | with_reducible assumption)
    · rw [isTruthB, all_at hi c, Bool.and_false]
    · refine nxt hi ?_ ?_
      · rw [all_take hi, hI, c]; rfl
      · simp [bel_ints, cs_arr, dep_arr, cs_int, cs_bool, cs_list, cs_rg, cs_mk, AtHead, Same, AllO, Begins, LtAll, headSt, tokz_nil, tokz_cons, tokz1, lk, dep_int, dep_bool, dep_list, dep_rg, dep_mk, memAt, bel_map, bel_mapF, bel_mapO, bel_undef, bel_int, bel_boolv, bel_nilp, bel_nilf, bel_ptr, bel_arr, bel_mp, bel_yld, bel_agg, bel_tup, bel_ref, bel_only, bel_mpr, bel_fn, bel_sl_nil, bel_sl_nilF, bel_sl_nilO, bel_sl_cons, bel_sl_app, belO_cells, belO_tok, belO_dead, belO_deferred, belO_map, belO_iter, belO_loop]
  · intro hI
    have hI := fault_all hI
    simp (maxSteps := 4000000) only [go_sem, AV.one, drawV, intsOf, keyIdx, over, putO, memAt, List.map_cons, List.length_cons, ↓reduceIte]
    simp [isTruthB, c0, hI]
def P8 : Specs := addSpec 56 (spec2 (fun (t : Tb) (l : List Int) => (HOk t ∧ l.length ≤ 4096) ∧ MOk t) isTruthB) (P7)
theorem P8_app (g : FuncId) : P8 g = (addSpec 56 (spec2 (fun (t : Tb) (l : List Int) => (HOk t ∧ l.length ≤ 4096) ∧ MOk t) isTruthB) (P7)) g := rfl
theorem P8_ok : SpecsOk Try.prog P8 := addSpec_ok (spec2_ok IsTruth_call) (P7_ok)
attribute [go_sem] P8_app

def truthsL (t : Tb) : List (List Int) := (listsL t).filter (isTruthB t)
theorem Truths_call (t : Tb) (h : HOk t ∧ MOk t) : CallP Try.prog 39 [Enc.enc t] (· = Enc.enc (truthsL t)) := by
  have h0 := h.1
  have h1 := h.2
  have hll := listsL_len h.1
  simp only [enc_fnl, enc_fnb, enc_fnc, enc_refc, enc_arr, enc_int, enc_bool, enc_list, enc_rg, enc_mk, enc_tb]
  refine callP_of_vc (Φ := P8) Try.func39 rfl (by rfl) (by rw [Try.ntmps39]; simp) mixed P8_ok (by simp [AV.strip, Tk.strip]) ?_
  rw [Try.ntmps39]
  simp only [Try.f39, startSt, tmFrom]
  simp (maxSteps := 4000000) only [go_sem, AV.one, drawV, intsOf, keyIdx, over, putO, memAt, List.map_cons, List.length_cons, ↓reduceIte]
  refine ⟨h0, ?_⟩
  refine loopN ((listsL t).length) [.slot 3 1] [1, 2, 4] (fun i => [(5, .int .i64 i), (3, .sl ((((listsL t).take i).filter (isTruthB t)).map EncE.cs) (.own 1))]) (fun i m => m.set 1 (.tok (((listsL t).take i).filter (isTruthB t)).length 1)) (fun _ => True) ?_ ?_ ?_ ?_
  · trivial
  · simp [bel_ints, cs_arr, dep_arr, cs_int, cs_bool, cs_list, cs_rg, cs_mk, AtHead, Same, AllO, Begins, LtAll, headSt, tokz_nil, tokz_cons, tokz1, lk, dep_int, dep_bool, dep_list, dep_rg, dep_mk, memAt, bel_map, bel_mapF, bel_mapO, bel_undef, bel_int, bel_boolv, bel_nilp, bel_nilf, bel_ptr, bel_arr, bel_mp, bel_yld, bel_agg, bel_tup, bel_ref, bel_only, bel_mpr, bel_fn, bel_sl_nil, bel_sl_nilF, bel_sl_nilO, bel_sl_cons, bel_sl_app, belO_cells, belO_tok, belO_dead, belO_deferred, belO_map, belO_iter, belO_loop]
  · intro i hi _
    have hat := listsL_at h.1 _ (at_mem hi)
    have hlen := hat.2.len
    have hf := List.length_filter_le (isTruthB t) ((listsL t).take i)
    have hf2 : ((listsL t).take i).length ≤ 3000 := by simp; omega
    cases c : isTruthB t (at_ (listsL t) i) <;>
      simp (maxSteps := 4000000) only [go_sem, AV.one, drawV, intsOf, keyIdx, over, putO, memAt, List.map_cons, List.length_cons, ↓reduceIte, getD_mapA hi, Int.ofNat_lt.2 hi, c]
    all_goals all_goals (repeat' (first | with_reducible rfl | with_reducible apply And.intro | ((with_reducible show drawOK _ = true); rfl))) <;> (try first | omega | (simp only [InR]; omega) | with_reducible assumption)
    all_goals
      refine nxt hi trivial ?_
      simp [bel_ints, cs_arr, dep_arr, cs_int, cs_bool, cs_list, cs_rg, cs_mk, AtHead, Same, AllO, Begins, LtAll, headSt, tokz_nil, tokz_cons, tokz1, lk, dep_int, dep_bool, dep_list, dep_rg, dep_mk, memAt, bel_map, bel_mapF, bel_mapO, bel_undef, bel_int, bel_boolv, bel_nilp, bel_nilf, bel_ptr, bel_arr, bel_mp, bel_yld, bel_agg, bel_tup, bel_ref, bel_only, bel_mpr, bel_fn, bel_sl_nil, bel_sl_nilF, bel_sl_nilO, bel_sl_cons, bel_sl_app, belO_cells, belO_tok, belO_dead, belO_deferred, belO_map, belO_iter, belO_loop, filter_take hi, c]
  · intro _
    simp (maxSteps := 4000000) only [go_sem, AV.one, drawV, intsOf, keyIdx, over, putO, memAt, List.map_cons, List.length_cons, ↓reduceIte, List.take_length]
    all_goals (repeat' (first | with_reducible rfl | with_reducible apply And.intro | ((with_reducible show drawOK _ = true); rfl))) <;> (try first | omega | (simp only [InR]; omega) | with_reducible assumption)
    rfl

def wetN (l : List Int) (level : Int) (n : Nat) : List Int := ((List.range n).filter fun i => decide (level < at_ l i)).map fun i : Nat => (i : Int)
def wetL (l : List Int) (level : Int) : List Int := wetN l level l.length
theorem wetN_succ (l : List Int) (level : Int) (n : Nat) : wetN l level (n + 1) = wetN l level n ++ (if level < at_ l n then [(n : Int)] else []) := by
  simp only [wetN, List.range_succ, List.filter_append, List.map_append]
  by_cases c : level < at_ l n <;> simp [List.filter, c]
theorem wetN_len (l : List Int) (level : Int) (n : Nat) : (wetN l level n).length ≤ n := by
  have := List.length_filter_le (fun i => decide (level < at_ l i)) (List.range n)
  simpa [wetN] using this
theorem Wet_call (l : List Int) (level : Int) (h : l.length ≤ 4096) : CallP Try.prog 58 [Enc.enc l, Enc.enc level] (· = Enc.enc (wetL l level)) := by
  simp only [enc_fnl, enc_fnb, enc_fnc, enc_refc, enc_arr, enc_int, enc_bool, enc_list, enc_rg, enc_mk, enc_tb]
  refine callP_of_vc (Φ := P8) Try.func58 rfl (by rfl) (by rw [Try.ntmps58]; simp) mixed P8_ok (by simp [AV.strip, Tk.strip]) ?_
  rw [Try.ntmps58]
  simp only [Try.f58, startSt, tmFrom]
  simp (maxSteps := 4000000) only [go_sem, AV.one, drawV, intsOf, keyIdx, over, putO, memAt, List.map_cons, List.length_cons, ↓reduceIte]
  refine loopN (l.length) [.slot 5 1] [0, 1, 4] (fun i => [(6, .int .i64 i), (5, .sl ((wetN l level i).map EncE.cs) (.own 0))]) (fun i m => m.set 0 (.tok (wetN l level i).length 1)) (fun _ => True) ?_ ?_ ?_ ?_
  · trivial
  · simp [bel_ints, cs_arr, dep_arr, cs_int, cs_bool, cs_list, cs_rg, cs_mk, AtHead, Same, AllO, Begins, LtAll, headSt, tokz_nil, tokz_cons, tokz1, lk, dep_int, dep_bool, dep_list, dep_rg, dep_mk, memAt, bel_map, bel_mapF, bel_mapO, bel_undef, bel_int, bel_boolv, bel_nilp, bel_nilf, bel_ptr, bel_arr, bel_mp, bel_yld, bel_agg, bel_tup, bel_ref, bel_only, bel_mpr, bel_fn, bel_sl_nil, bel_sl_nilF, bel_sl_nilO, bel_sl_cons, bel_sl_app, belO_cells, belO_tok, belO_dead, belO_deferred, belO_map, belO_iter, belO_loop, wetN]
  · intro i hi _
    have hw := wetN_len l level i
    cases c : decide (level < at_ l i) <;>
      simp (maxSteps := 4000000) only [go_sem, AV.one, drawV, intsOf, keyIdx, over, putO, memAt, List.map_cons, List.length_cons, ↓reduceIte, getD_mapA hi, Int.ofNat_lt.2 hi, c]
    all_goals all_goals (repeat' (first | with_reducible rfl | with_reducible apply And.intro | ((with_reducible show drawOK _ = true); rfl))) <;> (try first | omega | (simp only [InR]; omega) | with_reducible assumption)
    all_goals
      refine nxt hi trivial ?_
      simp at c
      simp [bel_ints, cs_arr, dep_arr, cs_int, cs_bool, cs_list, cs_rg, cs_mk, AtHead, Same, AllO, Begins, LtAll, headSt, tokz_nil, tokz_cons, tokz1, lk, dep_int, dep_bool, dep_list, dep_rg, dep_mk, memAt, bel_map, bel_mapF, bel_mapO, bel_undef, bel_int, bel_boolv, bel_nilp, bel_nilf, bel_ptr, bel_arr, bel_mp, bel_yld, bel_agg, bel_tup, bel_ref, bel_only, bel_mpr, bel_fn, bel_sl_nil, bel_sl_nilF, bel_sl_nilO, bel_sl_cons, bel_sl_app, belO_cells, belO_tok, belO_dead, belO_deferred, belO_map, belO_iter, belO_loop, wetN_succ, c]
      try (intro q; omega)
      try omega
  · intro _
    simp (maxSteps := 4000000) only [go_sem, AV.one, drawV, intsOf, keyIdx, over, putO, memAt, List.map_cons, List.length_cons, ↓reduceIte]
    rfl
end Go.Proofs
/- Bounds, verdicts, levels that are dry. -/
namespace Go.Proofs
open Go.Fs
set_option linter.unusedSimpArgs false
set_option maxHeartbeats 1000000
set_option maxRecDepth 8000

def P9 : Specs := addSpec 39 (spec1 (fun t => HOk t ∧ MOk t) truthsL) (addSpec 58 (spec2 (fun (l : List Int) (_ : Int) => l.length ≤ 4096) wetL) (P8))
theorem P9_app (g : FuncId) : P9 g = (addSpec 39 (spec1 (fun t => HOk t ∧ MOk t) truthsL) (addSpec 58 (spec2 (fun (l : List Int) (_ : Int) => l.length ≤ 4096) wetL) (P8))) g := rfl
theorem P9_ok : SpecsOk Try.prog P9 := addSpec_ok (spec1_ok Truths_call) (addSpec_ok (spec2_ok Wet_call) (P8_ok))
attribute [go_sem] P9_app
def soonestL (l : List Int) (level : Int) : Int :=
  match wetL l level with
  | [] => l.length
  | w :: _ => w
theorem Soonest_call (l : List Int) (level : Int) (h : l.length ≤ 4096) : CallP Try.prog 40 [Enc.enc l, Enc.enc level] (· = Enc.enc (soonestL l level)) := by
  unfold soonestL
  cases c : wetL l level
  · simp only [enc_fnl, enc_fnb, enc_fnc, enc_refc, enc_arr, enc_int, enc_bool, enc_list, enc_rg, enc_mk, enc_tb]
    refine callP_of_vc (Φ := P9) Try.func40 rfl (by rfl) (by rw [Try.ntmps40]; simp) mixed P9_ok (by simp [AV.strip, Tk.strip]) ?_
    rw [Try.ntmps40]
    simp only [Try.f40, startSt, tmFrom]
    simp (maxSteps := 4000000) only [go_sem, AV.one, drawV, intsOf, keyIdx, over, putO, memAt, List.map_cons, List.length_cons, ↓reduceIte, c]
    all_goals (repeat' (first | with_reducible rfl | with_reducible apply And.intro | ((with_reducible show drawOK _ = true); rfl))) <;> (try first | omega | (simp only [InR]; omega) | with_reducible assumption)
  · rename_i w r
    simp only [enc_fnl, enc_fnb, enc_fnc, enc_refc, enc_arr, enc_int, enc_bool, enc_list, enc_rg, enc_mk, enc_tb]
    refine callP_of_vc (Φ := P9) Try.func40 rfl (by rfl) (by rw [Try.ntmps40]; simp) mixed P9_ok (by simp [AV.strip, Tk.strip]) ?_
    rw [Try.ntmps40]
    simp only [Try.f40, startSt, tmFrom]
    simp (maxSteps := 4000000) only [go_sem, AV.one, drawV, intsOf, keyIdx, over, putO, memAt, List.map_cons, List.length_cons, ↓reduceIte, c, show ¬ (((r.length + 1 : Nat) : Int) = 0) by omega]
    all_goals (repeat' (first | with_reducible rfl | with_reducible apply And.intro | ((with_reducible show drawOK _ = true); rfl))) <;> (try first | omega | (simp only [InR]; omega) | with_reducible assumption)

def widerR (r : Rg) (n : Int) : Rg := ⟨min r.lo n, max r.hi n⟩
theorem Wider_call (r : Rg) (n : Int) : CallP Try.prog 69 [Enc.enc r, Enc.enc n] (· = Enc.enc (widerR r n)) := by
  simp only [enc_fnl, enc_fnb, enc_fnc, enc_refc, enc_arr, enc_int, enc_bool, enc_list, enc_rg, enc_mk, enc_tb]
  refine callP_of_vc (Φ := P9) Try.func69 rfl (by rfl) (by rw [Try.ntmps69]; simp) mixed P9_ok (by simp [AV.strip, Tk.strip]) ?_
  rw [Try.ntmps69]
  simp only [Try.f69, startSt, tmFrom]
  simp (maxSteps := 4000000) only [go_sem, AV.one, drawV, intsOf, keyIdx, over, putO, memAt, List.map_cons, List.length_cons, ↓reduceIte]
  rfl
def emptyR : Rg := ⟨1099511627776, -1⟩
theorem Empty_call : CallP Try.prog 68 [] (· = Enc.enc emptyR) := by
  simp only [enc_fnl, enc_fnb, enc_fnc, enc_refc, enc_arr, enc_int, enc_bool, enc_list, enc_rg, enc_mk, enc_tb]
  refine callP_of_vc (Φ := P9) Try.func68 rfl (by rfl) (by rw [Try.ntmps68]; simp) mixed P9_ok (by simp [AV.strip, Tk.strip]) ?_
  rw [Try.ntmps68]
  simp only [Try.f68, startSt, tmFrom]
  simp (maxSteps := 4000000) only [go_sem, AV.one, drawV, intsOf, keyIdx, over, putO, memAt, List.map_cons, List.length_cons, ↓reduceIte]
  rfl
theorem fold_take {α β : Type} [Inhabited α] {l : List α} {f : β → α → β} {b : β} {i : Nat} (h : i < l.length) : (l.take (i + 1)).foldl f b = f ((l.take i).foldl f b) (at_ l i) := by
  rw [take_succ_at h, List.foldl_append]; rfl
def P10 : Specs := addSpec 40 (spec2 (fun (l : List Int) (_ : Int) => l.length ≤ 4096) soonestL) (addSpec 69 (spec2 (fun (_ : Rg) (_ : Int) => True) widerR) (addSpec 68 (spec0 emptyR) (P9)))
theorem P10_app (g : FuncId) : P10 g = (addSpec 40 (spec2 (fun (l : List Int) (_ : Int) => l.length ≤ 4096) soonestL) (addSpec 69 (spec2 (fun (_ : Rg) (_ : Int) => True) widerR) (addSpec 68 (spec0 emptyR) (P9)))) g := rfl
theorem P10_ok : SpecsOk Try.prog P10 := addSpec_ok (spec2_ok Soonest_call) (addSpec_ok (spec2_ok fun a b _ => Wider_call a b) (addSpec_ok (spec0_ok Empty_call) (P9_ok)))
attribute [go_sem] P10_app
def boundsL (ls : List (List Int)) (hour : Int) : Rg := ls.foldl (fun r l => widerR r (at_ l hour.toNat)) emptyR
theorem Bounds_call (ls : List (List Int)) (hour : Int) (h : ls.length ≤ 4096 ∧ 0 ≤ hour ∧ ∀ l ∈ ls, hour < l.length) : CallP Try.prog 28 [Enc.enc ls, Enc.enc hour] (· = Enc.enc (boundsL ls hour)) := by
  obtain ⟨hour, rfl⟩ := Int.eq_ofNat_of_zero_le h.2.1
  simp only [enc_fnl, enc_fnb, enc_fnc, enc_refc, enc_arr, enc_int, enc_bool, enc_list, enc_rg, enc_mk, enc_tb]
  refine callP_of_vc (Φ := P10) Try.func28 rfl (by rfl) (by rw [Try.ntmps28]; simp) mixed P10_ok (by simp [AV.strip, Tk.strip]) ?_
  rw [Try.ntmps28]
  simp only [Try.f28, startSt, tmFrom]
  simp (maxSteps := 4000000) only [go_sem, AV.one, drawV, intsOf, keyIdx, over, putO, memAt, List.map_cons, List.length_cons, ↓reduceIte]
  refine loopN (ls.length) [] [0, 1, 4, 5] (fun i => [(6, .int .i64 i)]) (fun i m => m.set 1 (.cells (EncE.cs ((ls.take i).foldl (fun r l => widerR r (at_ l hour)) emptyR)))) (fun _ => True) ?_ ?_ ?_ ?_
  · trivial
  · simp [bel_ints, cs_arr, dep_arr, cs_int, cs_bool, cs_list, cs_rg, cs_mk, AtHead, Same, AllO, Begins, LtAll, headSt, tokz_nil, tokz_cons, tokz1, lk, dep_int, dep_bool, dep_list, dep_rg, dep_mk, memAt, bel_map, bel_mapF, bel_mapO, bel_undef, bel_int, bel_boolv, bel_nilp, bel_nilf, bel_ptr, bel_arr, bel_mp, bel_yld, bel_agg, bel_tup, bel_ref, bel_only, bel_mpr, bel_fn, bel_sl_nil, bel_sl_nilF, bel_sl_nilO, bel_sl_cons, bel_sl_app, belO_cells, belO_tok, belO_dead, belO_deferred, belO_map, belO_iter, belO_loop]
  · intro i hi _
    have hh := h.2.2 _ (at_mem hi)
    simp (maxSteps := 4000000) only [go_sem, AV.one, drawV, intsOf, keyIdx, over, putO, memAt, List.map_cons, List.length_cons, ↓reduceIte, getD_mapA hi, Int.ofNat_lt.2 hi, getD_mapA (show hour < (at_ ls i).length by omega)]
    all_goals (repeat' (first | with_reducible rfl | with_reducible apply And.intro | ((with_reducible show drawOK _ = true); rfl))) <;> (try first | omega | (simp only [InR]; omega) | with_reducible assumption)
    refine nxt hi trivial ?_
    simp [bel_ints, cs_arr, dep_arr, cs_int, cs_bool, cs_list, cs_rg, cs_mk, AtHead, Same, AllO, Begins, LtAll, headSt, tokz_nil, tokz_cons, tokz1, lk, dep_int, dep_bool, dep_list, dep_rg, dep_mk, memAt, bel_map, bel_mapF, bel_mapO, bel_undef, bel_int, bel_boolv, bel_nilp, bel_nilf, bel_ptr, bel_arr, bel_mp, bel_yld, bel_agg, bel_tup, bel_ref, bel_only, bel_mpr, bel_fn, bel_sl_nil, bel_sl_nilF, bel_sl_nilO, bel_sl_cons, bel_sl_app, belO_cells, belO_tok, belO_dead, belO_deferred, belO_map, belO_iter, belO_loop, fold_take hi]
  · intro _
    simp (maxSteps := 4000000) only [go_sem, AV.one, drawV, intsOf, keyIdx, over, putO, memAt, List.map_cons, List.length_cons, ↓reduceIte, List.take_length]
    rfl
def reachL (ls : List (List Int)) (level : Int) : Rg := ls.foldl (fun r l => widerR r (soonestL l level)) emptyR
theorem Reach_call (ls : List (List Int)) (level : Int) (h : ls.length ≤ 4096 ∧ ∀ l ∈ ls, l.length ≤ 4096) : CallP Try.prog 31 [Enc.enc ls, Enc.enc level] (· = Enc.enc (reachL ls level)) := by
  simp only [enc_fnl, enc_fnb, enc_fnc, enc_refc, enc_arr, enc_int, enc_bool, enc_list, enc_rg, enc_mk, enc_tb]
  refine callP_of_vc (Φ := P10) Try.func31 rfl (by rfl) (by rw [Try.ntmps31]; simp) mixed P10_ok (by simp [AV.strip, Tk.strip]) ?_
  rw [Try.ntmps31]
  simp only [Try.f31, startSt, tmFrom]
  simp (maxSteps := 4000000) only [go_sem, AV.one, drawV, intsOf, keyIdx, over, putO, memAt, List.map_cons, List.length_cons, ↓reduceIte]
  refine loopN (ls.length) [] [0, 1, 4, 5] (fun i => [(6, .int .i64 i)]) (fun i m => m.set 1 (.cells (EncE.cs ((ls.take i).foldl (fun r l => widerR r (soonestL l level)) emptyR)))) (fun _ => True) ?_ ?_ ?_ ?_
  · trivial
  · simp [bel_ints, cs_arr, dep_arr, cs_int, cs_bool, cs_list, cs_rg, cs_mk, AtHead, Same, AllO, Begins, LtAll, headSt, tokz_nil, tokz_cons, tokz1, lk, dep_int, dep_bool, dep_list, dep_rg, dep_mk, memAt, bel_map, bel_mapF, bel_mapO, bel_undef, bel_int, bel_boolv, bel_nilp, bel_nilf, bel_ptr, bel_arr, bel_mp, bel_yld, bel_agg, bel_tup, bel_ref, bel_only, bel_mpr, bel_fn, bel_sl_nil, bel_sl_nilF, bel_sl_nilO, bel_sl_cons, bel_sl_app, belO_cells, belO_tok, belO_dead, belO_deferred, belO_map, belO_iter, belO_loop]
  · intro i hi _
    have hh := h.2 _ (at_mem hi)
    simp (maxSteps := 4000000) only [go_sem, AV.one, drawV, intsOf, keyIdx, over, putO, memAt, List.map_cons, List.length_cons, ↓reduceIte, getD_mapA hi, Int.ofNat_lt.2 hi]
    all_goals (repeat' (first | with_reducible rfl | with_reducible apply And.intro | ((with_reducible show drawOK _ = true); rfl))) <;> (try first | omega | (simp only [InR]; omega) | with_reducible assumption)
    refine nxt hi trivial ?_
    simp [bel_ints, cs_arr, dep_arr, cs_int, cs_bool, cs_list, cs_rg, cs_mk, AtHead, Same, AllO, Begins, LtAll, headSt, tokz_nil, tokz_cons, tokz1, lk, dep_int, dep_bool, dep_list, dep_rg, dep_mk, memAt, bel_map, bel_mapF, bel_mapO, bel_undef, bel_int, bel_boolv, bel_nilp, bel_nilf, bel_ptr, bel_arr, bel_mp, bel_yld, bel_agg, bel_tup, bel_ref, bel_only, bel_mpr, bel_fn, bel_sl_nil, bel_sl_nilF, bel_sl_nilO, bel_sl_cons, bel_sl_app, belO_cells, belO_tok, belO_dead, belO_deferred, belO_map, belO_iter, belO_loop, fold_take hi]
  · intro _
    simp (maxSteps := 4000000) only [go_sem, AV.one, drawV, intsOf, keyIdx, over, putO, memAt, List.map_cons, List.length_cons, ↓reduceIte, List.take_length]
    rfl
def wetMany (ls : List (List Int)) (level : Int) (hour : Nat) : Int := ls.foldl (fun n l => if level < at_ l hour then n + 1 else n) 0
def verdictL (ls : List (List Int)) (level hour : Int) : Int :=
  if wetMany ls level hour.toNat = ls.length then 1 else if wetMany ls level hour.toNat = 0 then 2 else 3
theorem wetMany_bd (ls : List (List Int)) (level : Int) (hour : Nat) : 0 ≤ wetMany ls level hour ∧ wetMany ls level hour ≤ ls.length := by
  have key : ∀ (ls : List (List Int)) (n : Int), n ≤ ls.foldl (fun n l => if level < at_ l hour then n + 1 else n) n ∧ ls.foldl (fun n l => if level < at_ l hour then n + 1 else n) n ≤ n + ls.length := by
    intro ls
    induction ls with
    | nil => intro n; simp
    | cons l ls ih =>
      intro n
      simp only [List.foldl_cons, List.length_cons]
      by_cases c : level < at_ l hour
      · have := ih (n + 1)
        rw [if_pos c]; omega
      · have := ih n
        rw [if_neg c]; omega
  have := key ls 0
  unfold wetMany
  omega
theorem Verdict_call (ls : List (List Int)) (level hour : Int) (h : ls.length ≤ 4096 ∧ 0 ≤ hour ∧ ∀ l ∈ ls, hour < l.length) : CallP Try.prog 29 [Enc.enc ls, Enc.enc level, Enc.enc hour] (· = Enc.enc (verdictL ls level hour)) := by
  obtain ⟨hour, rfl⟩ := Int.eq_ofNat_of_zero_le h.2.1
  simp only [enc_fnl, enc_fnb, enc_fnc, enc_refc, enc_arr, enc_int, enc_bool, enc_list, enc_rg, enc_mk, enc_tb]
  refine callP_of_vc (Φ := P10) Try.func29 rfl (by rfl) (by rw [Try.ntmps29]; simp) mixed P10_ok (by simp [AV.strip, Tk.strip]) ?_
  rw [Try.ntmps29]
  simp only [Try.f29, startSt, tmFrom]
  simp (maxSteps := 4000000) only [go_sem, AV.one, drawV, intsOf, keyIdx, over, putO, memAt, List.map_cons, List.length_cons, ↓reduceIte]
  refine loopN (ls.length) [] [0, 1, 2, 6] (fun i => [(8, .int .i64 i), (7, .int .i64 (wetMany (ls.take i) level hour))]) (fun _ m => m) (fun _ => True) ?_ ?_ ?_ ?_
  · trivial
  · simp [bel_ints, cs_arr, dep_arr, cs_int, cs_bool, cs_list, cs_rg, cs_mk, AtHead, Same, AllO, Begins, LtAll, headSt, tokz_nil, tokz_cons, tokz1, lk, dep_int, dep_bool, dep_list, dep_rg, dep_mk, memAt, bel_map, bel_mapF, bel_mapO, bel_undef, bel_int, bel_boolv, bel_nilp, bel_nilf, bel_ptr, bel_arr, bel_mp, bel_yld, bel_agg, bel_tup, bel_ref, bel_only, bel_mpr, bel_fn, bel_sl_nil, bel_sl_nilF, bel_sl_nilO, bel_sl_cons, bel_sl_app, belO_cells, belO_tok, belO_dead, belO_deferred, belO_map, belO_iter, belO_loop, wetMany]
  · intro i hi _
    have hh := h.2.2 _ (at_mem hi)
    have hb := wetMany_bd (ls.take i) level hour
    have hb2 : (ls.take i).length ≤ 4096 := by simp; omega
    cases c : decide (level < at_ (at_ ls i) hour) <;>
      simp (maxSteps := 4000000) only [go_sem, AV.one, drawV, intsOf, keyIdx, over, putO, memAt, List.map_cons, List.length_cons, ↓reduceIte, getD_mapA hi, Int.ofNat_lt.2 hi, getD_mapA (show hour < (at_ ls i).length by omega), c]
    all_goals all_goals (repeat' (first | with_reducible rfl | with_reducible apply And.intro | ((with_reducible show drawOK _ = true); rfl))) <;> (try first | omega | (simp only [InR]; omega) | with_reducible assumption)
    all_goals
      refine nxt hi trivial ?_
      simp at c
      unfold wetMany
      simp [bel_ints, cs_arr, dep_arr, cs_int, cs_bool, cs_list, cs_rg, cs_mk, AtHead, Same, AllO, Begins, LtAll, headSt, tokz_nil, tokz_cons, tokz1, lk, dep_int, dep_bool, dep_list, dep_rg, dep_mk, memAt, bel_map, bel_mapF, bel_mapO, bel_undef, bel_int, bel_boolv, bel_nilp, bel_nilf, bel_ptr, bel_arr, bel_mp, bel_yld, bel_agg, bel_tup, bel_ref, bel_only, bel_mpr, bel_fn, bel_sl_nil, bel_sl_nilF, bel_sl_nilO, bel_sl_cons, bel_sl_app, belO_cells, belO_tok, belO_dead, belO_deferred, belO_map, belO_iter, belO_loop, fold_take hi, c]
      try (intro q; omega)
  · intro _
    simp (maxSteps := 4000000) only [go_sem, AV.one, drawV, intsOf, keyIdx, over, putO, memAt, List.map_cons, List.length_cons, ↓reduceIte, List.take_length]
    unfold verdictL
    simp only [Int.toNat_natCast]
    refine ⟨fun q => ?_, fun q => ⟨fun q2 => ?_, fun q2 => ?_⟩⟩ <;> simp_all
def isDryB (ls : List (List Int)) (a b level : Int) : Bool := ls.all fun l => decide (topL l a b ≤ level)
theorem IsDry_call (ls : List (List Int)) (a b level : Int) (h : (ls.length ≤ 4096 ∧ 0 ≤ a ∧ a ≤ b) ∧ ∀ l ∈ ls, b < l.length ∧ l.length ≤ 4096) : CallP Try.prog 53 [Enc.enc ls, Enc.enc a, Enc.enc b, Enc.enc level] (· = Enc.enc (isDryB ls a b level)) := by
  have h1 := h.1.1
  have h2 := h.1.2.1
  have h3 := h.1.2.2
  simp only [enc_fnl, enc_fnb, enc_fnc, enc_refc, enc_arr, enc_int, enc_bool, enc_list, enc_rg, enc_mk, enc_tb]
  refine callP_of_vc (Φ := P10) Try.func53 rfl (by rfl) (by rw [Try.ntmps53]; simp) mixed P10_ok (by simp [AV.strip, Tk.strip]) ?_
  rw [Try.ntmps53]
  simp only [Try.f53, startSt, tmFrom]
  simp (maxSteps := 4000000) only [go_sem, AV.one, drawV, intsOf, keyIdx, over, putO, memAt, List.map_cons, List.length_cons, ↓reduceIte]
  refine loopN (ls.length) [] [0, 1, 2, 3, 8] (fun i => [(9, .int .i64 i)]) (fun _ m => m) (fun i => isDryB (ls.take i) a b level = true) ?_ ?_ ?_ ?_
  · simp [isDryB]
  · simp [bel_ints, cs_arr, dep_arr, cs_int, cs_bool, cs_list, cs_rg, cs_mk, AtHead, Same, AllO, Begins, LtAll, headSt, tokz_nil, tokz_cons, tokz1, lk, dep_int, dep_bool, dep_list, dep_rg, dep_mk, memAt, bel_map, bel_mapF, bel_mapO, bel_undef, bel_int, bel_boolv, bel_nilp, bel_nilf, bel_ptr, bel_arr, bel_mp, bel_yld, bel_agg, bel_tup, bel_ref, bel_only, bel_mpr, bel_fn, bel_sl_nil, bel_sl_nilF, bel_sl_nilO, bel_sl_cons, bel_sl_app, belO_cells, belO_tok, belO_dead, belO_deferred, belO_map, belO_iter, belO_loop]
  · intro i hi hI
    have hh := h.2 _ (at_mem hi)
    cases c : decide (level < topL (at_ ls i) a b) <;>
      simp (maxSteps := 4000000) only [go_sem, AV.one, drawV, intsOf, keyIdx, over, putO, memAt, List.map_cons, List.length_cons, ↓reduceIte, getD_mapA hi, Int.ofNat_lt.2 hi, c]
    all_goals all_goals (repeat' (first | with_reducible rfl | with_reducible apply And.intro | ((with_reducible show drawOK _ = true); rfl))) <;> (try first | omega | (simp only [InR]; omega) | with_reducible assumption)
    · refine nxt hi ?_ ?_
      · simp at c
        unfold isDryB at hI ⊢
        rw [all_take hi, hI]; simpa using c
      · simp [bel_ints, cs_arr, dep_arr, cs_int, cs_bool, cs_list, cs_rg, cs_mk, AtHead, Same, AllO, Begins, LtAll, headSt, tokz_nil, tokz_cons, tokz1, lk, dep_int, dep_bool, dep_list, dep_rg, dep_mk, memAt, bel_map, bel_mapF, bel_mapO, bel_undef, bel_int, bel_boolv, bel_nilp, bel_nilf, bel_ptr, bel_arr, bel_mp, bel_yld, bel_agg, bel_tup, bel_ref, bel_only, bel_mpr, bel_fn, bel_sl_nil, bel_sl_nilF, bel_sl_nilO, bel_sl_cons, bel_sl_app, belO_cells, belO_tok, belO_dead, belO_deferred, belO_map, belO_iter, belO_loop]
    · simp at c
      rw [isDryB, all_at hi (by simpa using c)]
  · intro hI
    have hI := fault_all hI
    simp (maxSteps := 4000000) only [go_sem, AV.one, drawV, intsOf, keyIdx, over, putO, memAt, List.map_cons, List.length_cons, ↓reduceIte]
    rw [show isDryB ls a b level = true from hI]
def dryN (ls : List (List Int)) (a b : Int) : Nat → Int → Int
  | 0, n => n
  | f + 1, n => if isDryB ls a b n then n else dryN ls a b f (n + 1)
def dryL (ls : List (List Int)) (a b : Int) : Int := dryN ls a b 99 0
def P11 : Specs := addSpec 53 (spec4 (fun (ls : List (List Int)) (a b _ : Int) => (ls.length ≤ 4096 ∧ 0 ≤ a ∧ a ≤ b) ∧ ∀ l ∈ ls, b < l.length ∧ l.length ≤ 4096) isDryB) (P10)
theorem P11_app (g : FuncId) : P11 g = (addSpec 53 (spec4 (fun (ls : List (List Int)) (a b _ : Int) => (ls.length ≤ 4096 ∧ 0 ≤ a ∧ a ≤ b) ∧ ∀ l ∈ ls, b < l.length ∧ l.length ≤ 4096) isDryB) (P10)) g := rfl
theorem P11_ok : SpecsOk Try.prog P11 := addSpec_ok (spec4_ok IsDry_call) (P10_ok)
attribute [go_sem] P11_app
theorem Dry_call (ls : List (List Int)) (a b : Int) (h : (ls.length ≤ 4096 ∧ 0 ≤ a ∧ a ≤ b) ∧ ∀ l ∈ ls, b < l.length ∧ l.length ≤ 4096) : CallP Try.prog 52 [Enc.enc ls, Enc.enc a, Enc.enc b] (· = Enc.enc (dryL ls a b)) := by
  have h1 := h.1.1
  have h2 := h.1.2.1
  have h3 := h.1.2.2
  have h4 := h.2
  simp only [enc_fnl, enc_fnb, enc_fnc, enc_refc, enc_arr, enc_int, enc_bool, enc_list, enc_rg, enc_mk, enc_tb]
  refine callP_of_vc (Φ := P11) Try.func52 rfl (by rfl) (by rw [Try.ntmps52]; simp) mixed P11_ok (by simp [AV.strip, Tk.strip]) ?_
  rw [Try.ntmps52]
  simp only [Try.f52, startSt, tmFrom]
  simp (maxSteps := 4000000) only [go_sem, AV.one, drawV, intsOf, keyIdx, over, putO, memAt, List.map_cons, List.length_cons, ↓reduceIte]
  refine loopN (99) [] [0, 1, 2, 6] (fun i => [(7, .int .i64 i)]) (fun _ m => m) (fun i => dryN ls a b (99 - i) i = dryL ls a b) ?_ ?_ ?_ ?_
  · rfl
  · simp [bel_ints, cs_arr, dep_arr, cs_int, cs_bool, cs_list, cs_rg, cs_mk, AtHead, Same, AllO, Begins, LtAll, headSt, tokz_nil, tokz_cons, tokz1, lk, dep_int, dep_bool, dep_list, dep_rg, dep_mk, memAt, bel_map, bel_mapF, bel_mapO, bel_undef, bel_int, bel_boolv, bel_nilp, bel_nilf, bel_ptr, bel_arr, bel_mp, bel_yld, bel_agg, bel_tup, bel_ref, bel_only, bel_mpr, bel_fn, bel_sl_nil, bel_sl_nilF, bel_sl_nilO, bel_sl_cons, bel_sl_app, belO_cells, belO_tok, belO_dead, belO_deferred, belO_map, belO_iter, belO_loop]
  · intro i hi hI
    rw [show 99 - i = (98 - i) + 1 by omega, dryN] at hI
    cases c : isDryB ls a b i <;>
      simp (maxSteps := 4000000) only [go_sem, AV.one, drawV, intsOf, keyIdx, over, putO, memAt, List.map_cons, List.length_cons, ↓reduceIte, (by omega : (i : Int) < 99), c]
    all_goals all_goals (repeat' (first | with_reducible rfl | with_reducible apply And.intro | ((with_reducible show drawOK _ = true); rfl))) <;> (try first | omega | (simp only [InR]; omega) | with_reducible assumption)
    · rw [c] at hI
      refine nxt hi ?_ ?_
      · rw [← hI, show 99 - (i + 1) = 98 - i by omega]; simp
      · simp [bel_ints, cs_arr, dep_arr, cs_int, cs_bool, cs_list, cs_rg, cs_mk, AtHead, Same, AllO, Begins, LtAll, headSt, tokz_nil, tokz_cons, tokz1, lk, dep_int, dep_bool, dep_list, dep_rg, dep_mk, memAt, bel_map, bel_mapF, bel_mapO, bel_undef, bel_int, bel_boolv, bel_nilp, bel_nilf, bel_ptr, bel_arr, bel_mp, bel_yld, bel_agg, bel_tup, bel_ref, bel_only, bel_mpr, bel_fn, bel_sl_nil, bel_sl_nilF, bel_sl_nilO, bel_sl_cons, bel_sl_app, belO_cells, belO_tok, belO_dead, belO_deferred, belO_map, belO_iter, belO_loop]
    · rw [c] at hI
      rw [← hI]; rfl
  · intro hI
    simp (maxSteps := 4000000) only [go_sem, AV.one, drawV, intsOf, keyIdx, over, putO, memAt, List.map_cons, List.length_cons, ↓reduceIte, show ¬ (((99 : Nat) : Int) < 99) by omega]
    rw [← hI]; rfl
def P12 : Specs := addSpec 28 (spec2 (fun (ls : List (List Int)) (hour : Int) => ls.length ≤ 4096 ∧ 0 ≤ hour ∧ ∀ l ∈ ls, hour < l.length) boundsL) (addSpec 31 (spec2 (fun (ls : List (List Int)) (_ : Int) => ls.length ≤ 4096 ∧ ∀ l ∈ ls, l.length ≤ 4096) reachL) (addSpec 29 (spec3 (fun (ls : List (List Int)) (_ hour : Int) => ls.length ≤ 4096 ∧ 0 ≤ hour ∧ ∀ l ∈ ls, hour < l.length) verdictL) (addSpec 52 (spec3 (fun (ls : List (List Int)) (a b : Int) => (ls.length ≤ 4096 ∧ 0 ≤ a ∧ a ≤ b) ∧ ∀ l ∈ ls, b < l.length ∧ l.length ≤ 4096) dryL) (P11))))
theorem P12_app (g : FuncId) : P12 g = (addSpec 28 (spec2 (fun (ls : List (List Int)) (hour : Int) => ls.length ≤ 4096 ∧ 0 ≤ hour ∧ ∀ l ∈ ls, hour < l.length) boundsL) (addSpec 31 (spec2 (fun (ls : List (List Int)) (_ : Int) => ls.length ≤ 4096 ∧ ∀ l ∈ ls, l.length ≤ 4096) reachL) (addSpec 29 (spec3 (fun (ls : List (List Int)) (_ hour : Int) => ls.length ≤ 4096 ∧ 0 ≤ hour ∧ ∀ l ∈ ls, hour < l.length) verdictL) (addSpec 52 (spec3 (fun (ls : List (List Int)) (a b : Int) => (ls.length ≤ 4096 ∧ 0 ≤ a ∧ a ≤ b) ∧ ∀ l ∈ ls, b < l.length ∧ l.length ≤ 4096) dryL) (P11))))) g := rfl
theorem P12_ok : SpecsOk Try.prog P12 := addSpec_ok (spec2_ok Bounds_call) (addSpec_ok (spec2_ok Reach_call) (addSpec_ok (spec3_ok Verdict_call) (addSpec_ok (spec3_ok Dry_call) (P11_ok))))
attribute [go_sem] P12_app
end Go.Proofs
/- Sets by bits. -/
namespace Go.Proofs
open Go.Fs
set_option linter.unusedSimpArgs false
set_option maxHeartbeats 1000000
set_option maxRecDepth 8000

theorem pow_bd : ∀ k : Nat, k ≤ 8 → (1 : Int) ≤ 2 ^ k ∧ (2 : Int) ^ k ≤ 256 := by decide
theorem bits64 : ((IntKind.i64.bits : Nat) : Int) = 64 := rfl
theorem pow_nat (k : Nat) : (1 * 2 ^ k : Int) = ((2 ^ k : Nat) : Int) := by simp
def fullT (t : Tb) : Int := 2 ^ t.marks.length - 1
theorem Full_call (t : Tb) (h : t.marks.length ≤ 7) : CallP Try.prog 48 [Enc.enc t] (· = Enc.enc (fullT t)) := by
  have := pow_bd t.marks.length (by omega)
  simp only [enc_fnl, enc_fnb, enc_fnc, enc_refc, enc_arr, enc_int, enc_bool, enc_list, enc_rg, enc_mk, enc_tb]
  refine callP_of_vc (Φ := P12) Try.func48 rfl (by rfl) (by rw [Try.ntmps48]; simp) mixed P12_ok (by simp [AV.strip, Tk.strip]) ?_
  rw [Try.ntmps48]
  simp only [Try.f48, startSt, tmFrom]
  simp (maxSteps := 4000000) only [go_sem, AV.one, drawV, intsOf, keyIdx, over, putO, memAt, List.map_cons, List.length_cons, ↓reduceIte, Int.one_mul, bits64]
  all_goals (repeat' (first | with_reducible rfl | with_reducible apply And.intro | ((with_reducible show drawOK _ = true); rfl))) <;> (try first | omega | (simp only [InR]; omega) | with_reducible assumption)
  rfl

/-- Which of the first n marks are right in a list, by bits. -/
def rb (l : List Int) (ms : List Mk) : Nat → Nat
  | 0 => 0
  | n + 1 => if rightM l (at_ ms n) then rb l ms n ||| 2 ^ n else rb l ms n
theorem rb_lt (l : List Int) (ms : List Mk) (n : Nat) : rb l ms n < 2 ^ n := by
  induction n with
  | zero => simp [rb]
  | succ n ih =>
    have h1 : 2 ^ n < 2 ^ (n + 1) := Nat.pow_lt_pow_right (by omega) (by omega)
    unfold rb
    split
    · exact Nat.or_lt_two_pow (by omega) h1
    · omega
theorem rb_bd (l : List Int) (ms : List Mk) (n : Nat) (h : n ≤ 8) : rb l ms n < 256 := by
  have h1 := rb_lt l ms n
  have h2 : 2 ^ n ≤ 2 ^ 8 := Nat.pow_le_pow_right (by omega) h
  omega
def allN (t : Tb) (n : Nat) : List Int := ((listsL t).take n).map fun l => (rb l t.marks t.marks.length : Int)
def allL (t : Tb) : List Int := allN t (listsL t).length
theorem allN_succ (t : Tb) (i : Nat) (h : i < (listsL t).length) : allN t (i + 1) = allN t i ++ [(rb (at_ (listsL t) i) t.marks t.marks.length : Int)] := by
  unfold allN; rw [take_succ_at h, List.map_append]; rfl
theorem allN_len (t : Tb) (i : Nat) (h : i ≤ (listsL t).length) : (allN t i).length = i := by simp [allN]; omega
theorem All_call (t : Tb) (h : HOk t ∧ MOk t) : CallP Try.prog 34 [Enc.enc t] (· = Enc.enc (allL t)) := by
  have h0 := h.1
  have hll := listsL_len h.1
  have hm := h.2.len
  simp only [enc_fnl, enc_fnb, enc_fnc, enc_refc, enc_arr, enc_int, enc_bool, enc_list, enc_rg, enc_mk, enc_tb]
  refine callP_of_vc (Φ := P12) Try.func34 rfl (by rfl) (by rw [Try.ntmps34]; simp) mixed P12_ok (by simp [AV.strip, Tk.strip]) ?_
  rw [Try.ntmps34]
  simp only [Try.f34, startSt, tmFrom]
  simp (maxSteps := 4000000) only [go_sem, AV.one, drawV, intsOf, keyIdx, over, putO, memAt, List.map_cons, List.length_cons, ↓reduceIte]
  refine ⟨h0, ?_⟩
  refine loopN ((listsL t).length) [.slot 3 1] [1, 2, 4] (fun i => [(5, .int .i64 i), (3, .sl ((allN t i).map EncE.cs) (.own 1))]) (fun i m => m.set 1 (.tok (allN t i).length 1)) (fun _ => True) ?_ ?_ ?_ ?_
  · trivial
  · simp [bel_ints, cs_arr, dep_arr, cs_int, cs_bool, cs_list, cs_rg, cs_mk, AtHead, Same, AllO, Begins, LtAll, headSt, tokz_nil, tokz_cons, tokz1, lk, dep_int, dep_bool, dep_list, dep_rg, dep_mk, memAt, bel_map, bel_mapF, bel_mapO, bel_undef, bel_int, bel_boolv, bel_nilp, bel_nilf, bel_ptr, bel_arr, bel_mp, bel_yld, bel_agg, bel_tup, bel_ref, bel_only, bel_mpr, bel_fn, bel_sl_nil, bel_sl_nilF, bel_sl_nilO, bel_sl_cons, bel_sl_app, belO_cells, belO_tok, belO_dead, belO_deferred, belO_map, belO_iter, belO_loop, allN]
  · intro i hi _
    have hat := listsL_at h.1 _ (at_mem hi)
    have hlen := hat.2.len
    have hal := allN_len t i (by omega)
    simp (maxSteps := 4000000) only [go_sem, AV.one, drawV, intsOf, keyIdx, over, putO, memAt, List.map_cons, List.length_cons, ↓reduceIte, getD_mapA hi, Int.ofNat_lt.2 hi, hal]
    refine loopN (t.marks.length) [] [1, 2, 3, 4, 5, 10, 11, 12] (fun k => [(7, .int .i64 k), (6, .int .i64 (rb (at_ (listsL t) i) t.marks k))]) (fun _ m => m) (fun _ => True) ?_ ?_ ?_ ?_
    · trivial
    · simp [bel_ints, cs_arr, dep_arr, cs_int, cs_bool, cs_list, cs_rg, cs_mk, AtHead, Same, AllO, Begins, LtAll, headSt, tokz_nil, tokz_cons, tokz1, lk, dep_int, dep_bool, dep_list, dep_rg, dep_mk, memAt, bel_map, bel_mapF, bel_mapO, bel_undef, bel_int, bel_boolv, bel_nilp, bel_nilf, bel_ptr, bel_arr, bel_mp, bel_yld, bel_agg, bel_tup, bel_ref, bel_only, bel_mpr, bel_fn, bel_sl_nil, bel_sl_nilF, bel_sl_nilO, bel_sl_cons, bel_sl_app, belO_cells, belO_tok, belO_dead, belO_deferred, belO_map, belO_iter, belO_loop, rb]
    · intro k hk _
      have hr := h.2.m _ (at_mem hk)
      have hp := pow_bd k (by omega)
      have hb := rb_bd (at_ (listsL t) i) t.marks k (by omega)
      have hpn := pow_nat k
      cases c : rightM (at_ (listsL t) i) (at_ t.marks k) <;>
        simp (maxSteps := 4000000) only [go_sem, AV.one, drawV, intsOf, keyIdx, over, putO, memAt, List.map_cons, List.length_cons, ↓reduceIte, getD_mapA hi, Int.ofNat_lt.2 hi, getD_mapA hk, Int.ofNat_lt.2 hk, c, pow_nat, bits64]
      all_goals all_goals (repeat' (first | with_reducible rfl | with_reducible apply And.intro | ((with_reducible show drawOK _ = true); rfl))) <;> (try first | omega | (simp only [InR]; omega) | with_reducible assumption)
      all_goals
        refine nxt hk trivial ?_
        simp [bel_ints, cs_arr, dep_arr, cs_int, cs_bool, cs_list, cs_rg, cs_mk, AtHead, Same, AllO, Begins, LtAll, headSt, tokz_nil, tokz_cons, tokz1, lk, dep_int, dep_bool, dep_list, dep_rg, dep_mk, memAt, bel_map, bel_mapF, bel_mapO, bel_undef, bel_int, bel_boolv, bel_nilp, bel_nilf, bel_ptr, bel_arr, bel_mp, bel_yld, bel_agg, bel_tup, bel_ref, bel_only, bel_mpr, bel_fn, bel_sl_nil, bel_sl_nilF, bel_sl_nilO, bel_sl_cons, bel_sl_app, belO_cells, belO_tok, belO_dead, belO_deferred, belO_map, belO_iter, belO_loop, rb, c]
    · intro _
      have hb := rb_bd (at_ (listsL t) i) t.marks t.marks.length (by omega)
      simp (maxSteps := 4000000) only [go_sem, AV.one, drawV, intsOf, keyIdx, over, putO, memAt, List.map_cons, List.length_cons, ↓reduceIte, hal]
      all_goals (repeat' (first | with_reducible rfl | with_reducible apply And.intro | ((with_reducible show drawOK _ = true); rfl))) <;> (try first | omega | (simp only [InR]; omega) | with_reducible assumption)
      refine nxt hi trivial ?_
      simp [bel_ints, cs_arr, dep_arr, cs_int, cs_bool, cs_list, cs_rg, cs_mk, AtHead, Same, AllO, Begins, LtAll, headSt, tokz_nil, tokz_cons, tokz1, lk, dep_int, dep_bool, dep_list, dep_rg, dep_mk, memAt, bel_map, bel_mapF, bel_mapO, bel_undef, bel_int, bel_boolv, bel_nilp, bel_nilf, bel_ptr, bel_arr, bel_mp, bel_yld, bel_agg, bel_tup, bel_ref, bel_only, bel_mpr, bel_fn, bel_sl_nil, bel_sl_nilF, bel_sl_nilO, bel_sl_cons, bel_sl_app, belO_cells, belO_tok, belO_dead, belO_deferred, belO_map, belO_iter, belO_loop, allN_succ t i hi, hal]
  · intro _
    simp (maxSteps := 4000000) only [go_sem, AV.one, drawV, intsOf, keyIdx, over, putO, memAt, List.map_cons, List.length_cons, ↓reduceIte]
    rfl

def canB (all : List Int) (marks : Int) : Bool := all.any fun x => decide (((x.toNat &&& marks.toNat : Nat) : Int) = marks)
theorem any_take {α : Type} [Inhabited α] {l : List α} {p : α → Bool} {i : Nat} (h : i < l.length) : (l.take (i + 1)).any p = ((l.take i).any p || p (at_ l i)) := by
  rw [take_succ_at h, List.any_append]; simp
theorem any_at {α : Type} [Inhabited α] {l : List α} {p : α → Bool} {i : Nat} (h : i < l.length) (hp : p (at_ l i) = true) : l.any p = true := by
  rw [List.any_eq_true]; exact ⟨_, at_mem h, hp⟩
/-- Small sets. -/
def BOk (x : Int) : Prop := 0 ≤ x ∧ x ≤ 511
theorem Can_call (all : List Int) (marks : Int) (h : (all.length ≤ 4096 ∧ ∀ x ∈ all, BOk x) ∧ BOk marks) : CallP Try.prog 76 [Enc.enc all, Enc.enc marks] (· = Enc.enc (canB all marks)) := by
  have h1 := h.1.1
  have h2 := h.2
  unfold BOk at h2
  simp only [enc_fnl, enc_fnb, enc_fnc, enc_refc, enc_arr, enc_int, enc_bool, enc_list, enc_rg, enc_mk, enc_tb]
  refine callP_of_vc (Φ := P12) Try.func76 rfl (by rfl) (by rw [Try.ntmps76]; simp) mixed P12_ok (by simp [AV.strip, Tk.strip]) ?_
  rw [Try.ntmps76]
  simp only [Try.f76, startSt, tmFrom]
  simp (maxSteps := 4000000) only [go_sem, AV.one, drawV, intsOf, keyIdx, over, putO, memAt, List.map_cons, List.length_cons, ↓reduceIte]
  refine loopN (all.length) [] [0, 1, 4] (fun i => [(5, .int .i64 i)]) (fun _ m => m) (fun i => (all.take i).any (fun x => decide (((x.toNat &&& marks.toNat : Nat) : Int) = marks)) = false) ?_ ?_ ?_ ?_
  · simp
  · simp [bel_ints, cs_arr, dep_arr, cs_int, cs_bool, cs_list, cs_rg, cs_mk, AtHead, Same, AllO, Begins, LtAll, headSt, tokz_nil, tokz_cons, tokz1, lk, dep_int, dep_bool, dep_list, dep_rg, dep_mk, memAt, bel_map, bel_mapF, bel_mapO, bel_undef, bel_int, bel_boolv, bel_nilp, bel_nilf, bel_ptr, bel_arr, bel_mp, bel_yld, bel_agg, bel_tup, bel_ref, bel_only, bel_mpr, bel_fn, bel_sl_nil, bel_sl_nilF, bel_sl_nilO, bel_sl_cons, bel_sl_app, belO_cells, belO_tok, belO_dead, belO_deferred, belO_map, belO_iter, belO_loop]
  · intro i hi hI
    have hb := h.1.2 _ (at_mem hi)
    unfold BOk at hb
    cases c : decide ((((at_ all i).toNat &&& marks.toNat : Nat) : Int) = marks) <;>
      simp (maxSteps := 4000000) only [go_sem, AV.one, drawV, intsOf, keyIdx, over, putO, memAt, List.map_cons, List.length_cons, ↓reduceIte, getD_mapA hi, Int.ofNat_lt.2 hi, c]
    all_goals all_goals (repeat' (first | with_reducible rfl | with_reducible apply And.intro | ((with_reducible show drawOK _ = true); rfl))) <;> (try first | omega | (simp only [InR]; omega) | with_reducible assumption)
    · refine nxt hi ?_ ?_
      · rw [any_take hi, hI, c]; rfl
      · simp [bel_ints, cs_arr, dep_arr, cs_int, cs_bool, cs_list, cs_rg, cs_mk, AtHead, Same, AllO, Begins, LtAll, headSt, tokz_nil, tokz_cons, tokz1, lk, dep_int, dep_bool, dep_list, dep_rg, dep_mk, memAt, bel_map, bel_mapF, bel_mapO, bel_undef, bel_int, bel_boolv, bel_nilp, bel_nilf, bel_ptr, bel_arr, bel_mp, bel_yld, bel_agg, bel_tup, bel_ref, bel_only, bel_mpr, bel_fn, bel_sl_nil, bel_sl_nilF, bel_sl_nilO, bel_sl_cons, bel_sl_app, belO_cells, belO_tok, belO_dead, belO_deferred, belO_map, belO_iter, belO_loop]
    · rw [canB, any_at hi c]
  · intro hI
    rw [List.take_length] at hI
    simp (maxSteps := 4000000) only [go_sem, AV.one, drawV, intsOf, keyIdx, over, putO, memAt, List.map_cons, List.length_cons, ↓reduceIte]
    rw [canB, hI]

/-- How many bits a number has. -/
def blN (b : Nat) : Nat := if b = 0 then 0 else b.log2 + 1
def bitsN (b n : Nat) : List Int := ((List.range n).filter fun p => b.testBit p).map fun p : Nat => (p : Int)
def bitsL (b : Nat) : List Int := bitsN b (blN b)
theorem bitsN_succ (b n : Nat) : bitsN b (n + 1) = bitsN b n ++ (if b.testBit n then [(n : Int)] else []) := by
  simp only [bitsN, List.range_succ, List.filter_append, List.map_append]
  cases c : b.testBit n <;> simp [List.filter, c]
theorem bitsN_len (b n : Nat) : (bitsN b n).length ≤ n := by
  have := List.length_filter_le (fun p => b.testBit p) (List.range n)
  simpa [bitsN] using this
theorem blN_lt {b p : Nat} (h : p < blN b) : 0 < b / 2 ^ p := by
  unfold blN at h
  split at h
  · omega
  · rename_i hb
    have : 2 ^ p ≤ b := (Nat.le_log2 hb).1 (by omega)
    exact Nat.div_pos this (Nat.two_pow_pos p)
theorem blN_end (b : Nat) : b / 2 ^ blN b = 0 := by
  unfold blN
  split
  · rename_i h; subst h; rfl
  · rename_i h
    exact Nat.div_eq_of_lt ((Nat.log2_lt h).1 (by omega))
theorem blN_le {b : Nat} (h : b ≤ 511) : blN b ≤ 9 := by
  unfold blN
  split
  · omega
  · rename_i hb
    have := (Nat.log2_lt (k := 9) hb).2 (by omega)
    omega
theorem Bits_call (b : Int) (h : BOk b) : CallP Try.prog 50 [Enc.enc b] (· = Enc.enc (bitsL b.toNat)) := by
  have h0 := h.1
  have h1 := h.2
  obtain ⟨b, rfl⟩ := Int.eq_ofNat_of_zero_le h.1
  have hl := blN_le (b := b) (by omega)
  have hdiv : ∀ p : Nat, ((b : Int) / 2 ^ p) = ((b / 2 ^ p : Nat) : Int) := fun p => by simp
  simp only [enc_fnl, enc_fnb, enc_fnc, enc_refc, enc_arr, enc_int, enc_bool, enc_list, enc_rg, enc_mk, enc_tb]
  refine callP_of_vc (Φ := P12) Try.func50 rfl (by rfl) (by rw [Try.ntmps50]; simp) mixed P12_ok (by simp [AV.strip, Tk.strip]) ?_
  rw [Try.ntmps50]
  simp only [Try.f50, startSt, tmFrom]
  simp (maxSteps := 4000000) only [go_sem, AV.one, drawV, intsOf, keyIdx, over, putO, memAt, List.map_cons, List.length_cons, ↓reduceIte]
  refine loopN (blN b) [.slot 3 1] [0, 2] (fun i => [(4, .int .i64 i), (3, .sl ((bitsN b i).map EncE.cs) (.own 0))]) (fun i m => m.set 0 (.tok (bitsN b i).length 1)) (fun _ => True) ?_ ?_ ?_ ?_
  · trivial
  · simp [bel_ints, cs_arr, dep_arr, cs_int, cs_bool, cs_list, cs_rg, cs_mk, AtHead, Same, AllO, Begins, LtAll, headSt, tokz_nil, tokz_cons, tokz1, lk, dep_int, dep_bool, dep_list, dep_rg, dep_mk, memAt, bel_map, bel_mapF, bel_mapO, bel_undef, bel_int, bel_boolv, bel_nilp, bel_nilf, bel_ptr, bel_arr, bel_mp, bel_yld, bel_agg, bel_tup, bel_ref, bel_only, bel_mpr, bel_fn, bel_sl_nil, bel_sl_nilF, bel_sl_nilO, bel_sl_cons, bel_sl_app, belO_cells, belO_tok, belO_dead, belO_deferred, belO_map, belO_iter, belO_loop, bitsN]
  · intro i hi _
    have hw := bitsN_len b i
    have h3 := blN_lt hi
    have h4 : (0 : Int) < ((b / 2 ^ i : Nat) : Int) := by omega
    have h5 := Nat.div_le_self b (2 ^ i)
    have h6 : b.testBit i = decide (((b / 2 ^ i : Nat) : Int) % 2 = 1) := by
      rw [Nat.testBit_eq_decide_div_mod_eq]
      congr 1
      simp only [eq_iff_iff]
      omega
    cases c : decide (((b / 2 ^ i : Nat) : Int) % 2 = 1) <;>
      simp (maxSteps := 4000000) only [go_sem, AV.one, drawV, intsOf, keyIdx, over, putO, memAt, List.map_cons, List.length_cons, ↓reduceIte, hdiv, h4, c, bits64]
    all_goals all_goals (repeat' (first | with_reducible rfl | with_reducible apply And.intro | ((with_reducible show drawOK _ = true); rfl))) <;> (try first | omega | (simp only [InR]; omega) | with_reducible assumption)
    all_goals
      refine nxt hi trivial ?_
      rw [c] at h6
      simp [bel_ints, cs_arr, dep_arr, cs_int, cs_bool, cs_list, cs_rg, cs_mk, AtHead, Same, AllO, Begins, LtAll, headSt, tokz_nil, tokz_cons, tokz1, lk, dep_int, dep_bool, dep_list, dep_rg, dep_mk, memAt, bel_map, bel_mapF, bel_mapO, bel_undef, bel_int, bel_boolv, bel_nilp, bel_nilf, bel_ptr, bel_arr, bel_mp, bel_yld, bel_agg, bel_tup, bel_ref, bel_only, bel_mpr, bel_fn, bel_sl_nil, bel_sl_nilF, bel_sl_nilO, bel_sl_cons, bel_sl_app, belO_cells, belO_tok, belO_dead, belO_deferred, belO_map, belO_iter, belO_loop, bitsN_succ, h6]
  · intro _
    have h3 := blN_end b
    have hw := bitsN_len b (blN b)
    simp (maxSteps := 4000000) only [go_sem, AV.one, drawV, intsOf, keyIdx, over, putO, memAt, List.map_cons, List.length_cons, ↓reduceIte, hdiv, h3, bits64]
    all_goals (repeat' (first | with_reducible rfl | with_reducible apply And.intro | ((with_reducible show drawOK _ = true); rfl))) <;> (try first | omega | (simp only [InR]; omega) | with_reducible assumption)
    rfl
def P13 : Specs := addSpec 48 (spec1 (fun t : Tb => t.marks.length ≤ 7) fullT) (addSpec 34 (spec1 (fun t => HOk t ∧ MOk t) allL) (addSpec 76 (spec2 (fun (all : List Int) (marks : Int) => (all.length ≤ 4096 ∧ ∀ x ∈ all, BOk x) ∧ BOk marks) canB) (addSpec 50 (spec1 BOk (fun b => bitsL b.toNat)) (P12))))
theorem P13_app (g : FuncId) : P13 g = (addSpec 48 (spec1 (fun t : Tb => t.marks.length ≤ 7) fullT) (addSpec 34 (spec1 (fun t => HOk t ∧ MOk t) allL) (addSpec 76 (spec2 (fun (all : List Int) (marks : Int) => (all.length ≤ 4096 ∧ ∀ x ∈ all, BOk x) ∧ BOk marks) canB) (addSpec 50 (spec1 BOk (fun b => bitsL b.toNat)) (P12))))) g := rfl
theorem P13_ok : SpecsOk Try.prog P13 := addSpec_ok (spec1_ok Full_call) (addSpec_ok (spec1_ok All_call) (addSpec_ok (spec2_ok Can_call) (addSpec_ok (spec1_ok Bits_call) (P12_ok))))
attribute [go_sem] P13_app
def beforeL : List Int → List Int → Bool
  | [], [] => false
  | [], _ :: _ => true
  | _ :: _, [] => false
  | a :: r, b :: s => if a = b then beforeL r s else decide (a < b)
theorem drop_at {α : Type} [Inhabited α] {l : List α} {i : Nat} (h : i < l.length) : l.drop i = at_ l i :: l.drop (i + 1) := by
  rw [at_get h]; exact List.drop_eq_getElem_cons h
theorem Before_call (a b : List Int) (h : a.length ≤ 4096 ∧ b.length ≤ 4096) : CallP Try.prog 83 [Enc.enc a, Enc.enc b] (· = Enc.enc (beforeL a b)) := by
  have h1 := h.1
  have h2 := h.2
  simp only [enc_fnl, enc_fnb, enc_fnc, enc_refc, enc_arr, enc_int, enc_bool, enc_list, enc_rg, enc_mk, enc_tb]
  refine callP_of_vc (Φ := P13) Try.func83 rfl (by rfl) (by rw [Try.ntmps83]; simp) mixed P13_ok (by simp [AV.strip, Tk.strip]) ?_
  rw [Try.ntmps83]
  simp only [Try.f83, startSt, tmFrom]
  simp (maxSteps := 4000000) only [go_sem, AV.one, drawV, intsOf, keyIdx, over, putO, memAt, List.map_cons, List.length_cons, ↓reduceIte]
  refine loopN (min a.length b.length) [] [0, 1, 4] (fun i => [(5, .int .i64 i)]) (fun _ m => m) (fun i => beforeL (a.drop i) (b.drop i) = beforeL a b) ?_ ?_ ?_ ?_
  · rfl
  · simp [bel_ints, cs_arr, dep_arr, cs_int, cs_bool, cs_list, cs_rg, cs_mk, AtHead, Same, AllO, Begins, LtAll, headSt, tokz_nil, tokz_cons, tokz1, lk, dep_int, dep_bool, dep_list, dep_rg, dep_mk, memAt, bel_map, bel_mapF, bel_mapO, bel_undef, bel_int, bel_boolv, bel_nilp, bel_nilf, bel_ptr, bel_arr, bel_mp, bel_yld, bel_agg, bel_tup, bel_ref, bel_only, bel_mpr, bel_fn, bel_sl_nil, bel_sl_nilF, bel_sl_nilO, bel_sl_cons, bel_sl_app, belO_cells, belO_tok, belO_dead, belO_deferred, belO_map, belO_iter, belO_loop]
  · intro i hi hI
    have ha : i < a.length := by omega
    have hb : i < b.length := by omega
    rw [drop_at ha, drop_at hb, beforeL] at hI
    cases c : decide (at_ a i = at_ b i) <;>
      simp (maxSteps := 4000000) only [go_sem, AV.one, drawV, intsOf, keyIdx, over, putO, memAt, List.map_cons, List.length_cons, ↓reduceIte, getD_mapA ha, getD_mapA hb, Int.ofNat_lt.2 ha, Int.ofNat_lt.2 hb, c]
    all_goals all_goals (repeat' (first | with_reducible rfl | with_reducible apply And.intro | ((with_reducible show drawOK _ = true); rfl))) <;> (try first | omega | (simp only [InR]; omega) | with_reducible assumption)
    · simp at c
      rw [if_neg c] at hI
      rw [← hI]
    · simp at c
      rw [if_pos c] at hI
      refine nxt hi hI ?_
      simp [bel_ints, cs_arr, dep_arr, cs_int, cs_bool, cs_list, cs_rg, cs_mk, AtHead, Same, AllO, Begins, LtAll, headSt, tokz_nil, tokz_cons, tokz1, lk, dep_int, dep_bool, dep_list, dep_rg, dep_mk, memAt, bel_map, bel_mapF, bel_mapO, bel_undef, bel_int, bel_boolv, bel_nilp, bel_nilf, bel_ptr, bel_arr, bel_mp, bel_yld, bel_agg, bel_tup, bel_ref, bel_only, bel_mpr, bel_fn, bel_sl_nil, bel_sl_nilF, bel_sl_nilO, bel_sl_cons, bel_sl_app, belO_cells, belO_tok, belO_dead, belO_deferred, belO_map, belO_iter, belO_loop]
  · intro hI
    have : a.drop (min a.length b.length) = [] ∨ b.drop (min a.length b.length) = [] := by
      rcases Nat.le_total a.length b.length with q | q
      · left; exact List.drop_eq_nil_of_le (by omega)
      · right; exact List.drop_eq_nil_of_le (by omega)
    have hr : decide ((a.length : Int) < b.length) = beforeL a b := by
      rw [← hI]
      rcases Nat.lt_or_ge a.length b.length with q | q
      · rw [show min a.length b.length = a.length by omega, List.drop_length, drop_at q, beforeL]; simpa using q
      · rw [show min a.length b.length = b.length by omega, List.drop_length]
        have hd : decide ((a.length : Int) < b.length) = false := by simp; omega
        rw [hd]
        cases List.drop b.length a <;> rfl
    cases c1 : decide (((min a.length b.length : Nat) : Int) < (a.length : Int)) <;> cases c2 : decide (((min a.length b.length : Nat) : Int) < (b.length : Int))
    · simp (maxSteps := 4000000) only [go_sem, AV.one, drawV, intsOf, keyIdx, over, putO, memAt, List.map_cons, List.length_cons, ↓reduceIte, c1, c2, hr]
    · simp (maxSteps := 4000000) only [go_sem, AV.one, drawV, intsOf, keyIdx, over, putO, memAt, List.map_cons, List.length_cons, ↓reduceIte, c1, c2, hr]
    · simp (maxSteps := 4000000) only [go_sem, AV.one, drawV, intsOf, keyIdx, over, putO, memAt, List.map_cons, List.length_cons, ↓reduceIte, c1, c2, hr]
    · simp at c1 c2; omega
def shorterB (a b : List Int) : Bool := decide ((a.length : Int) < b.length) || (decide ((a.length : Int) = b.length) && beforeL a b)
def P14 : Specs := addSpec 83 (spec2 (fun (a b : List Int) => a.length ≤ 4096 ∧ b.length ≤ 4096) beforeL) (P13)
theorem P14_app (g : FuncId) : P14 g = (addSpec 83 (spec2 (fun (a b : List Int) => a.length ≤ 4096 ∧ b.length ≤ 4096) beforeL) (P13)) g := rfl
theorem P14_ok : SpecsOk Try.prog P14 := addSpec_ok (spec2_ok Before_call) (P13_ok)
attribute [go_sem] P14_app
theorem Shorter_call (a b : List Int) (h : a.length ≤ 4096 ∧ b.length ≤ 4096) : CallP Try.prog 49 [Enc.enc a, Enc.enc b] (· = Enc.enc (shorterB a b)) := by
  have h1 := h.1
  have h2 := h.2
  simp only [enc_fnl, enc_fnb, enc_fnc, enc_refc, enc_arr, enc_int, enc_bool, enc_list, enc_rg, enc_mk, enc_tb]
  refine callP_of_vc (Φ := P14) Try.func49 rfl (by rfl) (by rw [Try.ntmps49]; simp) mixed P14_ok (by simp [AV.strip, Tk.strip]) ?_
  rw [Try.ntmps49]
  simp only [Try.f49, startSt, tmFrom]
  simp (maxSteps := 4000000) only [go_sem, AV.one, drawV, intsOf, keyIdx, over, putO, memAt, List.map_cons, List.length_cons, ↓reduceIte]
  refine ⟨fun q => ?_, ?_⟩
  · all_goals (repeat' (first | with_reducible rfl | with_reducible apply And.intro | ((with_reducible show drawOK _ = true); rfl))) <;> (try first | omega | (simp only [InR]; omega) | with_reducible assumption)
  · refine ⟨?_, rfl⟩
    cases decide ((a.length : Int) < b.length) <;> simp
def P15 : Specs := addSpec 49 (spec2 (fun (a b : List Int) => a.length ≤ 4096 ∧ b.length ≤ 4096) shorterB) (P14)
theorem P15_app (g : FuncId) : P15 g = (addSpec 49 (spec2 (fun (a b : List Int) => a.length ≤ 4096 ∧ b.length ≤ 4096) shorterB) (P14)) g := rfl
theorem P15_ok : SpecsOk Try.prog P15 := addSpec_ok (spec2_ok Shorter_call) (P14_ok)
attribute [go_sem] P15_app
def firstN (all : List Int) : Nat → Nat → Int
  | 0, _ => -1
  | f + 1, n => if canB all (2 * 2 ^ n - 1) then firstN all f (n + 1) else n
def firstL (t : Tb) (all : List Int) : Int := firstN all t.marks.length 0
theorem First_call (t : Tb) (all : List Int) (h : (all.length ≤ 4096 ∧ ∀ x ∈ all, BOk x) ∧ t.marks.length ≤ 7) : CallP Try.prog 37 [Enc.enc t, Enc.enc all] (· = Enc.enc (firstL t all)) := by
  have h1 := h.1.1
  have h2 := h.1.2
  have h3 := h.2
  simp only [enc_fnl, enc_fnb, enc_fnc, enc_refc, enc_arr, enc_int, enc_bool, enc_list, enc_rg, enc_mk, enc_tb]
  refine callP_of_vc (Φ := P15) Try.func37 rfl (by rfl) (by rw [Try.ntmps37]; simp) mixed P15_ok (by simp [AV.strip, Tk.strip]) ?_
  rw [Try.ntmps37]
  simp only [Try.f37, startSt, tmFrom]
  simp (maxSteps := 4000000) only [go_sem, AV.one, drawV, intsOf, keyIdx, over, putO, memAt, List.map_cons, List.length_cons, ↓reduceIte]
  refine loopN (t.marks.length) [] [1, 2, 4] (fun i => [(5, .int .i64 i)]) (fun _ m => m) (fun i => firstN all (t.marks.length - i) i = firstL t all) ?_ ?_ ?_ ?_
  · rfl
  · simp [bel_ints, cs_arr, dep_arr, cs_int, cs_bool, cs_list, cs_rg, cs_mk, AtHead, Same, AllO, Begins, LtAll, headSt, tokz_nil, tokz_cons, tokz1, lk, dep_int, dep_bool, dep_list, dep_rg, dep_mk, memAt, bel_map, bel_mapF, bel_mapO, bel_undef, bel_int, bel_boolv, bel_nilp, bel_nilf, bel_ptr, bel_arr, bel_mp, bel_yld, bel_agg, bel_tup, bel_ref, bel_only, bel_mpr, bel_fn, bel_sl_nil, bel_sl_nilF, bel_sl_nilO, bel_sl_cons, bel_sl_app, belO_cells, belO_tok, belO_dead, belO_deferred, belO_map, belO_iter, belO_loop]
  · intro i hi hI
    have hp := pow_bd i (by omega)
    have hp2 : BOk (2 * 2 ^ i - 1) := ⟨by omega, by have := pow_bd (i + 1) (by omega); rw [Int.pow_succ] at this; omega⟩
    rw [show t.marks.length - i = (t.marks.length - (i + 1)) + 1 by omega, firstN] at hI
    cases c : canB all (2 * 2 ^ i - 1) <;>
      simp (maxSteps := 4000000) only [go_sem, AV.one, drawV, intsOf, keyIdx, over, putO, memAt, List.map_cons, List.length_cons, ↓reduceIte, Int.ofNat_lt.2 hi, c, bits64]
    all_goals all_goals (repeat' (first | with_reducible rfl | with_reducible apply And.intro | ((with_reducible show drawOK _ = true); rfl))) <;> (try first | omega | (simp only [InR]; omega) | with_reducible assumption)
    · rw [c] at hI
      rw [← hI]; rfl
    · rw [c] at hI
      refine nxt hi hI ?_
      simp [bel_ints, cs_arr, dep_arr, cs_int, cs_bool, cs_list, cs_rg, cs_mk, AtHead, Same, AllO, Begins, LtAll, headSt, tokz_nil, tokz_cons, tokz1, lk, dep_int, dep_bool, dep_list, dep_rg, dep_mk, memAt, bel_map, bel_mapF, bel_mapO, bel_undef, bel_int, bel_boolv, bel_nilp, bel_nilf, bel_ptr, bel_arr, bel_mp, bel_yld, bel_agg, bel_tup, bel_ref, bel_only, bel_mpr, bel_fn, bel_sl_nil, bel_sl_nilF, bel_sl_nilO, bel_sl_cons, bel_sl_app, belO_cells, belO_tok, belO_dead, belO_deferred, belO_map, belO_iter, belO_loop]
  · intro hI
    simp (maxSteps := 4000000) only [go_sem, AV.one, drawV, intsOf, keyIdx, over, putO, memAt, List.map_cons, List.length_cons, ↓reduceIte]
    rw [← hI]; simp [firstN]
def leaveN (all : List Int) (full : Nat) : Nat → List Int
  | 0 => bitsL full
  | n + 1 => if shorterB (bitsL n) (leaveN all full n) && canB all ((full - (full &&& n) : Nat) : Int) then bitsL n else leaveN all full n
def leaveL (t : Tb) (all : List Int) : List Int := leaveN all (2 ^ t.marks.length - 1) (2 ^ t.marks.length)
theorem bitsL_len {b : Nat} (h : b ≤ 511) : (bitsL b).length ≤ 9 := by
  have := bitsN_len b (blN b)
  have := blN_le h
  unfold bitsL; omega
theorem leaveN_len {all : List Int} {full : Nat} (h : full ≤ 511) : ∀ n, n ≤ 512 → (leaveN all full n).length ≤ 9
  | 0, _ => bitsL_len h
  | n + 1, hn => by
    unfold leaveN
    split
    · exact bitsL_len (by omega)
    · exact leaveN_len h n (by omega)
theorem Leave_call (t : Tb) (all : List Int) (h : (all.length ≤ 4096 ∧ ∀ x ∈ all, BOk x) ∧ t.marks.length ≤ 7) : CallP Try.prog 36 [Enc.enc t, Enc.enc all] (· = Enc.enc (leaveL t all)) := by
  have h1 := h.1.1
  have h2 := h.1.2
  have h3 := h.2
  have hp := pow_bd t.marks.length (by omega)
  have hf : fullT t = ((2 ^ t.marks.length - 1 : Nat) : Int) := by
    have := Nat.two_pow_pos t.marks.length
    unfold fullT
    rw [show ((2 : Int) ^ t.marks.length) = ((2 ^ t.marks.length : Nat) : Int) by simp]
    omega
  have hn : (2 : Nat) ^ t.marks.length ≤ 256 := by
    have := Nat.pow_le_pow_right (n := 2) (by omega) (show t.marks.length ≤ 8 by omega)
    omega
  have hn0 := Nat.two_pow_pos t.marks.length
  have hb0 : BOk ((2 ^ t.marks.length - 1 : Nat) : Int) := ⟨by omega, by omega⟩
  simp only [enc_fnl, enc_fnb, enc_fnc, enc_refc, enc_arr, enc_int, enc_bool, enc_list, enc_rg, enc_mk, enc_tb]
  refine callP_of_vc (Φ := P15) Try.func36 rfl (by rfl) (by rw [Try.ntmps36]; simp) mixed P15_ok (by simp [AV.strip, Tk.strip]) ?_
  rw [Try.ntmps36]
  simp only [Try.f36, startSt, tmFrom]
  simp (maxSteps := 4000000) only [go_sem, AV.one, drawV, intsOf, keyIdx, over, putO, memAt, List.map_cons, List.length_cons, ↓reduceIte, hf]
  refine ⟨h3, hb0, ?_⟩
  refine loopN (2 ^ t.marks.length) [] [1, 2, 4] (fun i => [(6, .int .i64 i), (5, .sl ((leaveN all (2 ^ t.marks.length - 1) i).map EncE.cs) .no)]) (fun _ m => m) (fun _ => True) ?_ ?_ ?_ ?_
  · trivial
  · simp [bel_ints, cs_arr, dep_arr, cs_int, cs_bool, cs_list, cs_rg, cs_mk, AtHead, Same, AllO, Begins, LtAll, headSt, tokz_nil, tokz_cons, tokz1, lk, dep_int, dep_bool, dep_list, dep_rg, dep_mk, memAt, bel_map, bel_mapF, bel_mapO, bel_undef, bel_int, bel_boolv, bel_nilp, bel_nilf, bel_ptr, bel_arr, bel_mp, bel_yld, bel_agg, bel_tup, bel_ref, bel_only, bel_mpr, bel_fn, bel_sl_nil, bel_sl_nilF, bel_sl_nilO, bel_sl_cons, bel_sl_app, belO_cells, belO_tok, belO_dead, belO_deferred, belO_map, belO_iter, belO_loop, leaveN]
  · intro i hi _
    have hi' : (i : Int) ≤ ((2 ^ t.marks.length - 1 : Nat) : Int) := by omega
    have hll := leaveN_len (all := all) (full := 2 ^ t.marks.length - 1) (by omega) i (by omega)
    have hlb := bitsL_len (b := i) (by omega)
    have hbi : BOk (i : Int) := ⟨by omega, by omega⟩
    have hbc : BOk ((2 ^ t.marks.length - 1 - ((2 ^ t.marks.length - 1) &&& i) : Nat) : Int) := ⟨by omega, by omega⟩
    cases c1 : shorterB (bitsL i) (leaveN all (2 ^ t.marks.length - 1) i) <;> cases c2 : canB all ((2 ^ t.marks.length - 1 - ((2 ^ t.marks.length - 1) &&& i) : Nat) : Int) <;>
      simp (maxSteps := 4000000) only [go_sem, AV.one, drawV, intsOf, keyIdx, over, putO, memAt, List.map_cons, List.length_cons, ↓reduceIte, hf, hi', c1, c2]
    all_goals all_goals (repeat' (first | with_reducible rfl | with_reducible apply And.intro | ((with_reducible show drawOK _ = true); rfl))) <;> (try first | omega | (simp only [InR]; omega) | with_reducible assumption)
    all_goals
      refine nxt hi trivial ?_
      simp [bel_ints, cs_arr, dep_arr, cs_int, cs_bool, cs_list, cs_rg, cs_mk, AtHead, Same, AllO, Begins, LtAll, headSt, tokz_nil, tokz_cons, tokz1, lk, dep_int, dep_bool, dep_list, dep_rg, dep_mk, memAt, bel_map, bel_mapF, bel_mapO, bel_undef, bel_int, bel_boolv, bel_nilp, bel_nilf, bel_ptr, bel_arr, bel_mp, bel_yld, bel_agg, bel_tup, bel_ref, bel_only, bel_mpr, bel_fn, bel_sl_nil, bel_sl_nilF, bel_sl_nilO, bel_sl_cons, bel_sl_app, belO_cells, belO_tok, belO_dead, belO_deferred, belO_map, belO_iter, belO_loop, leaveN, c1, c2]
  · intro _
    have hi' : ¬ (((2 ^ t.marks.length : Nat) : Int) ≤ ((2 ^ t.marks.length - 1 : Nat) : Int)) := by omega
    simp (maxSteps := 4000000) only [go_sem, AV.one, drawV, intsOf, keyIdx, over, putO, memAt, List.map_cons, List.length_cons, ↓reduceIte, hf, hi']
    all_goals (repeat' (first | with_reducible rfl | with_reducible apply And.intro | ((with_reducible show drawOK _ = true); rfl))) <;> (try first | omega | (simp only [InR]; omega) | with_reducible assumption)
    rfl
def P16 : Specs := addSpec 37 (spec2 (fun (t : Tb) (all : List Int) => (all.length ≤ 4096 ∧ ∀ x ∈ all, BOk x) ∧ t.marks.length ≤ 7) firstL) (addSpec 36 (spec2 (fun (t : Tb) (all : List Int) => (all.length ≤ 4096 ∧ ∀ x ∈ all, BOk x) ∧ t.marks.length ≤ 7) leaveL) (P15))
theorem P16_app (g : FuncId) : P16 g = (addSpec 37 (spec2 (fun (t : Tb) (all : List Int) => (all.length ≤ 4096 ∧ ∀ x ∈ all, BOk x) ∧ t.marks.length ≤ 7) firstL) (addSpec 36 (spec2 (fun (t : Tb) (all : List Int) => (all.length ≤ 4096 ∧ ∀ x ∈ all, BOk x) ∧ t.marks.length ≤ 7) leaveL) (P15))) g := rfl
theorem P16_ok : SpecsOk Try.prog P16 := addSpec_ok (spec2_ok First_call) (addSpec_ok (spec2_ok Leave_call) (P15_ok))
attribute [go_sem] P16_app
end Go.Proofs
