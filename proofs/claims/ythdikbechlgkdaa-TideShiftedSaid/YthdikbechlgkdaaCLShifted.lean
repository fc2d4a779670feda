/- The law TideShifted. -/
import Derived.Test.YthdikbechlgkdaaCS29
import Derived.Test.YthdikbechlgkdaaCS27
import Derived.Test.YthdikbechlgkdaaG13
set_option linter.all false
namespace Go.Proofs
open Go.Fs
set_option linter.unusedSimpArgs false
set_option linter.unusedVariables false
set_option maxHeartbeats 8000000
set_option maxRecDepth 8000
def shH (t : Tb) (n : Int) (i : Nat) : List Rg := (t.heights.take i).map (shR n)
def rvH (t : Tb) (i : Nat) : List Rg := (List.range i).map fun j : Nat => at_ t.heights (t.heights.length - 1 - j)
def shV (t : Tb) (n : Int) (i : Nat) : List Int := addL n (t.levels.take i)
def shK (t : Tb) (n : Int) (i : Nat) : List Mk := (t.marks.take i).map (shM n)
def rvK (t : Tb) (i : Nat) : List Mk := (t.marks.take i).map (rvM t.last)
theorem shH_len {t : Tb} {n : Int} {i : Nat} (h : i ≤ t.heights.length) : (shH t n i).length = i := by simp [shH]; omega
theorem rvH_len (t : Tb) (i : Nat) : (rvH t i).length = i := by simp [rvH]
theorem shV_len {t : Tb} {n : Int} {i : Nat} (h : i ≤ t.levels.length) : (shV t n i).length = i := by simp [shV, addL]; omega
theorem shK_len {t : Tb} {n : Int} {i : Nat} (h : i ≤ t.marks.length) : (shK t n i).length = i := by simp [shK]; omega
theorem rvK_len {t : Tb} {i : Nat} (h : i ≤ t.marks.length) : (rvK t i).length = i := by simp [rvK]; omega
theorem shH_succ {t : Tb} {n : Int} {i : Nat} (h : i < t.heights.length) : shH t n (i + 1) = shH t n i ++ [shR n (at_ t.heights i)] := by
  unfold shH; rw [take_succ_at h, List.map_append]; rfl
theorem rvH_succ (t : Tb) (i : Nat) : rvH t (i + 1) = rvH t i ++ [at_ t.heights (t.heights.length - 1 - i)] := by
  simp [rvH, List.range_succ]
theorem shV_succ {t : Tb} {n : Int} {i : Nat} (h : i < t.levels.length) : shV t n (i + 1) = shV t n i ++ [at_ t.levels i + n] := by
  unfold shV addL; rw [take_succ_at h, List.map_append]; rfl
theorem shK_succ {t : Tb} {n : Int} {i : Nat} (h : i < t.marks.length) : shK t n (i + 1) = shK t n i ++ [shM n (at_ t.marks i)] := by
  unfold shK; rw [take_succ_at h, List.map_append]; rfl
theorem rvK_succ {t : Tb} {i : Nat} (h : i < t.marks.length) : rvK t (i + 1) = rvK t i ++ [rvM t.last (at_ t.marks i)] := by
  unfold rvK; rw [take_succ_at h, List.map_append]; rfl
theorem shT_full (t : Tb) (n : Int) : (⟨t.last, shH t n t.heights.length, t.step, shV t n t.levels.length, shK t n t.marks.length⟩ : Tb) = shT n t := by
  simp [shH, shV, shK, shT]
theorem rvT_full (t : Tb) : (⟨t.last, rvH t t.heights.length, t.step, t.levels, rvK t t.marks.length⟩ : Tb) = rvT t := by
  have : rvH t t.heights.length = t.heights.reverse := by
    refine List.ext_getElem (by simp [rvH]) fun i h1 h2 => ?_
    simp [rvH] at h1
    rw [← at_get (by simpa [rvH] using h1), ← at_get h2, at_reverse h1]
    simp [rvH, at_range _ h1]
  rw [this]
  simp [rvK, rvT]
def P5232 : Specs := vecT [1000004] P52
theorem P5232_app (g : FuncId) (h : ¬ (g = 4000000000)) : P5232 g = P52 g := by unfold P5232 vecT; rw [if_neg h]
theorem P5232_ok : SpecsOk Try.prog P5232 := vecT_ok P52_ok
theorem P5232_flag (d : Nat) : flagOf P5232 (some d) = if d ∈ ([1000004] : List Nat) then some d else none := flagOf_vecT _ _ d
attribute [go_sem] P5232_app P5232_flag
theorem TideShifted_true (t : Tb) (by_ which : Int) (h1 : InR .u8 by_) (h2 : InR .u16 which) :
    CallP Try.prog 4 [Enc.enc t, AV.int .u8 by_, AV.int .u16 which] (· = Enc.enc true) := by
  cases c0 : (thinB t && decide (faultT t = 0))
  · simp only [enc_fnl, enc_fnb, enc_fnc, enc_refc, enc_arr, enc_int, enc_bool, enc_list, enc_rg, enc_mk, enc_tb]
    refine callP_of_vc (Φ := P5232) Try.func4 rfl (by rfl) (by rw [Try.ntmps4]; simp) mixed P5232_ok (by simp [AV.strip, AV.strip1, Tk.strip]) ?_
    rw [Try.ntmps4]
    simp only [Try.f4, startSt, tmFrom]
    simp (maxSteps := 4000000) only [go_sem, AV.one, drawV, intsOf, keyIdx, over, putO, memAt, List.map_cons, List.length_cons, ↓reduceIte, snap_trues, imm_trues, enc_pair, enc_iterv, zdrop, one_i, one_b, one_sl, one_ptr, one_ref, one_nilp, one_mp, one_fn, one_nilf, c0]
    all_goals (repeat' (first | with_reducible rfl | with_reducible apply And.intro | ((with_reducible show drawOK _ _ = true); rfl))) <;> (try first | omega | (simp only [InR]; omega) | with_reducible assumption)
  have c12 : thinB t = true ∧ faultT t = 0 := by simpa using c0
  obtain ⟨c1, c2⟩ := c12
  have hl := thin_len c1
  have hf := fok_of c2
  have hl0 := hf.l0
  have hl9 := hf.l9
  have hlv := hf.lv
  have hm5 := hf.m5
  have hlen := hf.len
  have hs0 := hf.s0
  have hs1 := hf.s1
  have hv := hf.vok
  have hok := hv.hok
  have hb0 : 0 ≤ by_ := h1.1
  have hb1 : by_ ≤ 255 := h1.2
  have hw0 : 0 ≤ which := h2.1
  have hw1 : which ≤ 65535 := h2.2
  obtain ⟨n, hn⟩ : ∃ n, by_ % 30 = n := ⟨_, rfl⟩
  have hn0 : 0 ≤ n ∧ n ≤ 29 := by omega
  have hfy := rv_fok hf
  have hy := rvT_full t
  have hx := shT_full t n
  have hshlen := shH_len (t := t) (n := n) (i := t.heights.length) (Nat.le_refl _)
  have hrvlen := rvH_len t t.heights.length
  have hsvlen := shV_len (t := t) (n := n) (i := t.levels.length) (Nat.le_refl _)
  have hsklen := shK_len (t := t) (n := n) (i := t.marks.length) (Nat.le_refl _)
  have hrklen := rvK_len (t := t) (i := t.marks.length) (Nat.le_refl _)
  have hYl : (rvT t).heights.length = t.heights.length ∧ (rvT t).levels.length = t.levels.length ∧ (rvT t).marks.length = t.marks.length := by simp [rvT]
  have hXl : (shT n t).heights.length = t.heights.length ∧ (shT n t).levels.length = t.levels.length ∧ (shT n t).marks.length = t.marks.length := by simp [shT, addL]
  have hXv : (shT n t).levels = addL n t.levels := rfl
  have hAC : ∃ A C : List Rg, ∃ e : Int, bndQ t = (A, e) ∧ bndQ (rvT t) = (C, e) ∧ A.length = C.length ∧ A.length ≤ 10 ∧ (∀ i, i < A.length → at_ C (A.length - 1 - i) = at_ A i) ∧
      ((e = 0 ∧ truthsL t ≠ [] ∧ A = (List.range (t.last + 1).toNat).map fun i : Nat => boundsL (truthsL t) i) ∨ (e = 11 ∧ truthsL t = [] ∧ A = [])) := by
    by_cases q : truthsL t = []
    · exact ⟨[], [], 11, bnd_dry c2 q, bnd_dry hfy.fault ((rv_nil hf).2 q), rfl, by simp, fun i hi => by simp at hi, .inr ⟨rfl, q, rfl⟩⟩
    · have q' : truthsL (rvT t) ≠ [] := fun e => q ((rv_nil hf).1 e)
      refine ⟨_, _, 0, bnd_ok c2 q, bnd_ok hfy.fault q', by simp [rvT], by simp; omega, fun i hi => ?_, .inl ⟨rfl, q, rfl⟩⟩
      simp at hi
      rw [at_range _ (by first | omega | (simp [rvT]; omega)), at_range _ (by first | omega | (simp [rvT]; omega))]
      have := rv_bounds hf q (i := i) (by omega)
      rw [← this]
      congr 1
      simp; omega
  obtain ⟨A, C, e, eA, eC, hACl, hA10, hACat, hA⟩ := hAC
  have hACl' : decide ((A.length : Int) = (C.length : Int)) = true := by rw [decide_eq_true_eq]; omega
  have hpos : 0 < (listsL t).length := by
    rcases Nat.eq_zero_or_pos (listsL t).length with h | h
    · exact absurd (List.eq_nil_of_length_eq_zero h) hf.some
    · exact h
  obtain ⟨wn, ewn⟩ := Int.eq_ofNat_of_zero_le (Int.emod_nonneg which (show ((listsL t).length : Int) ≠ 0 by omega))
  have hwn := Int.emod_lt_of_pos which (show (0 : Int) < (listsL t).length by omega)
  rw [ewn] at hwn
  have hgs := getD_mapA (f := EncE.cs) (l := listsL t) (i := wn) (by omega)
  have hsm := at_mem (l := listsL t) (i := wn) (by omega)
  generalize at_ (listsL t) wn = s at hgs hsm
  have hso := (mem_lists hf s).1 hsm
  have hsl := hso.len
  have hsb := (listsL_at hok s hsm).2
  have hwbd : ∀ lv, (wetL s lv).length ≤ s.length := fun lv => wetN_len s lv s.length
  generalize hX : shT n t = X at hx hXl hXv
  generalize hY : rvT t = Y at hy hYl eC
  simp only [enc_fnl, enc_fnb, enc_fnc, enc_refc, enc_arr, enc_int, enc_bool, enc_list, enc_rg, enc_mk, enc_tb]
  refine callP_of_vc (Φ := P5232) Try.func4 rfl (by rfl) (by rw [Try.ntmps4]; simp) mixed P5232_ok (by simp [AV.strip, AV.strip1, Tk.strip]) ?_
  rw [Try.ntmps4]
  simp only [Try.f4, startSt, tmFrom]
  iterate 2 (
    refine vc_seqK fun Q1 h1 => ?_
    simp (maxSteps := 4000000) only [go_sem, AV.one, drawV, intsOf, keyIdx, over, putO, memAt, List.map_cons, List.length_cons, ↓reduceIte, snap_trues, imm_trues, enc_pair, enc_iterv, zdrop, one_i, one_b, one_sl, one_ptr, one_ref, one_nilp, one_mp, one_fn, one_nilf, c0]
    all_goals (repeat' (first | with_reducible rfl | with_reducible apply And.intro | ((with_reducible show drawOK _ _ = true); rfl))) <;> (try first | omega | (simp only [InR]; omega) | with_reducible assumption)
    rw [h1]; clear h1 Q1; simp only [thenA, vc_assoc])
  iterate 2 (
    refine vc_seqK fun Q1 h1 => ?_
    simp (maxSteps := 4000000) only [go_sem, AV.one, drawV, intsOf, keyIdx, over, putO, memAt, List.map_cons, List.length_cons, ↓reduceIte, snap_trues, imm_trues, enc_pair, enc_iterv, zdrop, one_i, one_b, one_sl, one_ptr, one_ref, one_nilp, one_mp, one_fn, one_nilf, hn]
    all_goals (repeat' (first | with_reducible rfl | with_reducible apply And.intro | ((with_reducible show drawOK _ _ = true); rfl))) <;> (try first | omega | (simp only [InR]; omega) | with_reducible assumption)
    rw [h1]; clear h1 Q1; simp only [thenA, vc_assoc])
  refine vc_seqK fun Q1 h1 => ?_
  simp (maxSteps := 4000000) only [go_sem, AV.one, drawV, intsOf, keyIdx, over, putO, memAt, List.map_cons, List.length_cons, ↓reduceIte, snap_trues, imm_trues, enc_pair, enc_iterv, zdrop, one_i, one_b, one_sl, one_ptr, one_ref, one_nilp, one_mp, one_fn, one_nilf]
  all_goals (repeat' (first | with_reducible rfl | with_reducible apply And.intro | ((with_reducible show drawOK _ _ = true); rfl))) <;> (try first | omega | (simp only [InR]; omega) | with_reducible assumption)
  refine ⟨3, by rfl, ?_⟩
  simp (maxSteps := 4000000) only [go_sem, AV.one, drawV, intsOf, keyIdx, over, putO, memAt, List.map_cons, List.length_cons, ↓reduceIte, snap_trues, imm_trues, enc_pair, enc_iterv, zdrop, one_i, one_b, one_sl, one_ptr, one_ref, one_nilp, one_mp, one_fn, one_nilf, (show Nat.testBit 3 399 = false from rfl), Bool.false_and, Bool.true_and, Bool.false_eq_true, (show Nat.testBit 3 200 = false from rfl), (show ∀ m, hideM false m = m from fun _ => rfl), memAt_hide, hideM_length, hideO, drawF, vcFr, Go.Fs.freeR, effL, apart, objOf, List.all_cons, List.all_nil, List.contains_cons, List.contains_nil, Nat.reduceBEq, Bool.or_self, (show Nat.testBit 3 0 = true from rfl), (show Nat.testBit 3 1 = true from rfl), (show Nat.testBit 3 2 = false from rfl), (show Nat.testBit 3 3 = false from rfl), (show Nat.testBit 3 4 = false from rfl), (show Nat.testBit 3 5 = false from rfl)]
  all_goals (repeat' (first | with_reducible rfl | with_reducible apply And.intro | ((with_reducible show drawOK _ _ = true); rfl))) <;> (try first | omega | (simp only [InR]; omega) | with_reducible assumption)
  rw [h1]; clear h1 Q1; simp only [thenA, vc_assoc]
  simp (maxSteps := 4000000) only [go_sem, AV.one, drawV, intsOf, keyIdx, over, putO, memAt, List.map_cons, List.length_cons, ↓reduceIte, snap_trues, imm_trues, enc_pair, enc_iterv, zdrop, one_i, one_b, one_sl, one_ptr, one_ref, one_nilp, one_mp, one_fn, one_nilf, hn, List.append_eq]
  all_goals (repeat' (first | with_reducible rfl | with_reducible apply And.intro | ((with_reducible show drawOK _ _ = true); rfl))) <;> (try first | omega | (simp only [InR]; omega) | with_reducible assumption)
  refine loopN (t.heights.length) [.cell 1 1 2, .cell 2 1 2] [2, 3, 6, 7, 8, 9] (fun i => [(10, .int .i64 i)]) (fun i m => (((m.set 1 (.cells [.int .i64 t.last, .sl ((shH t n i).map EncE.cs) (.own 3), .int .i64 t.step, .sl [] .full, .sl [] .full])).set 2 (.cells [.int .i64 t.last, .sl ((rvH t i).map EncE.cs) (.own 4), .int .i64 t.step, .sl (t.levels.map EncE.cs) .no, .sl [] .full])).set 3 (.tok (shH t n i).length 2)).set 4 (.tok (rvH t i).length 2)) (fun _ => True) ?_ ?_ ?_ ?_
  · trivial
  · simp [AV.bare, bel_ints, cs_arr, dep_arr, cs_int, cs_bool, cs_list, cs_rg, cs_mk, AtHead, Same, AllO, Begins, LtAll, headSt, tokz_nil, tokz_cons, tokz1, lk, dep_int, dep_bool, dep_list, dep_rg, dep_mk, memAt, bel_map, bel_mapF, bel_mapO, bel_undef, bel_int, bel_boolv, bel_nilp, bel_nilf, bel_ptr, bel_arr, bel_mp, bel_yld, bel_agg, bel_tup, bel_ref, bel_only, bel_mpr, bel_fn, bel_sl_nil, bel_sl_nilF, bel_sl_nilO, bel_sl_cons, bel_sl_app, belO_cells, belO_tok, belO_dead, belO_deferred, belO_map, belO_iter, belO_loop, bel_vec, bel_vp, belO_vecM, belO_vec, shH, rvH]
  · intro i hi _
    have hi' := Int.ofNat_lt.2 hi
    have hb1 := hf.hs _ (at_mem hi)
    have hg1 : (t.heights.map EncE.cs).getD i [] = [AV.int .i64 (at_ t.heights i).lo, AV.int .i64 (at_ t.heights i).hi] := by rw [getD_mapA hi]; rfl
    have hix : (t.last - (i : Int)).toNat = t.heights.length - 1 - i := by omega
    have hg2 : (t.heights.map EncE.cs).getD (t.heights.length - 1 - i) [] = [AV.int .i64 (at_ t.heights (t.heights.length - 1 - i)).lo, AV.int .i64 (at_ t.heights (t.heights.length - 1 - i)).hi] := by rw [getD_mapA (by omega)]; rfl
    have q1 := shH_len (t := t) (n := n) (i := i) (by omega)
    have q2 := rvH_len t i
    simp (maxSteps := 4000000) only [go_sem, AV.one, drawV, intsOf, keyIdx, over, putO, memAt, List.map_cons, List.length_cons, ↓reduceIte, snap_trues, imm_trues, enc_pair, enc_iterv, zdrop, one_i, one_b, one_sl, one_ptr, one_ref, one_nilp, one_mp, one_fn, one_nilf, hi', hg1, hg2, hix]
    all_goals (repeat' (first | with_reducible rfl | with_reducible apply And.intro | ((with_reducible show drawOK _ _ = true); rfl))) <;> (try first | omega | (simp only [InR]; omega) | with_reducible assumption)
    refine nxt hi trivial ?_
    simp [AV.bare, bel_ints, cs_arr, dep_arr, cs_int, cs_bool, cs_list, cs_rg, cs_mk, AtHead, Same, AllO, Begins, LtAll, headSt, tokz_nil, tokz_cons, tokz1, lk, dep_int, dep_bool, dep_list, dep_rg, dep_mk, memAt, bel_map, bel_mapF, bel_mapO, bel_undef, bel_int, bel_boolv, bel_nilp, bel_nilf, bel_ptr, bel_arr, bel_mp, bel_yld, bel_agg, bel_tup, bel_ref, bel_only, bel_mpr, bel_fn, bel_sl_nil, bel_sl_nilF, bel_sl_nilO, bel_sl_cons, bel_sl_app, belO_cells, belO_tok, belO_dead, belO_deferred, belO_map, belO_iter, belO_loop, bel_vec, bel_vp, belO_vecM, belO_vec, shH_succ hi, rvH_succ, shR, -List.map_map]
  · intro _
    simp (maxSteps := 4000000) only [go_sem, AV.one, drawV, intsOf, keyIdx, over, putO, memAt, List.map_cons, List.length_cons, ↓reduceIte, snap_trues, imm_trues, enc_pair, enc_iterv, zdrop, one_i, one_b, one_sl, one_ptr, one_ref, one_nilp, one_mp, one_fn, one_nilf, Int.lt_irrefl]
    all_goals (repeat' (first | with_reducible rfl | with_reducible apply And.intro | ((with_reducible show drawOK _ _ = true); rfl))) <;> (try first | omega | (simp only [InR]; omega) | with_reducible assumption)
    refine loopN (t.levels.length) [.cell 1 3 1] [2, 3, 6, 7, 8, 9] (fun i => [(12, .int .i64 i)]) (fun i m => (m.set 1 (.cells [.int .i64 t.last, .sl ((shH t n t.heights.length).map EncE.cs) (.own 3), .int .i64 t.step, .sl ((shV t n i).map EncE.cs) (.own 5), .sl [] .full])).set 5 (.tok (shV t n i).length 1)) (fun _ => True) ?_ ?_ ?_ ?_
    · trivial
    · simp [AV.bare, bel_ints, cs_arr, dep_arr, cs_int, cs_bool, cs_list, cs_rg, cs_mk, AtHead, Same, AllO, Begins, LtAll, headSt, tokz_nil, tokz_cons, tokz1, lk, dep_int, dep_bool, dep_list, dep_rg, dep_mk, memAt, bel_map, bel_mapF, bel_mapO, bel_undef, bel_int, bel_boolv, bel_nilp, bel_nilf, bel_ptr, bel_arr, bel_mp, bel_yld, bel_agg, bel_tup, bel_ref, bel_only, bel_mpr, bel_fn, bel_sl_nil, bel_sl_nilF, bel_sl_nilO, bel_sl_cons, bel_sl_app, belO_cells, belO_tok, belO_dead, belO_deferred, belO_map, belO_iter, belO_loop, bel_vec, bel_vp, belO_vecM, belO_vec, shV, addL, -List.map_map]
    · intro i hi _
      have hi' := Int.ofNat_lt.2 hi
      have hb1 := hf.ls _ (at_mem hi)
      have hg1 : (t.levels.map EncE.cs).getD i [] = [AV.int .i64 (at_ t.levels i)] := by rw [getD_mapA hi]; rfl
      have q1 := shV_len (t := t) (n := n) (i := i) (by omega)
      simp (maxSteps := 4000000) only [go_sem, AV.one, drawV, intsOf, keyIdx, over, putO, memAt, List.map_cons, List.length_cons, ↓reduceIte, snap_trues, imm_trues, enc_pair, enc_iterv, zdrop, one_i, one_b, one_sl, one_ptr, one_ref, one_nilp, one_mp, one_fn, one_nilf, hi', hg1]
      all_goals (repeat' (first | with_reducible rfl | with_reducible apply And.intro | ((with_reducible show drawOK _ _ = true); rfl))) <;> (try first | omega | (simp only [InR]; omega) | with_reducible assumption)
      refine nxt hi trivial ?_
      simp [AV.bare, bel_ints, cs_arr, dep_arr, cs_int, cs_bool, cs_list, cs_rg, cs_mk, AtHead, Same, AllO, Begins, LtAll, headSt, tokz_nil, tokz_cons, tokz1, lk, dep_int, dep_bool, dep_list, dep_rg, dep_mk, memAt, bel_map, bel_mapF, bel_mapO, bel_undef, bel_int, bel_boolv, bel_nilp, bel_nilf, bel_ptr, bel_arr, bel_mp, bel_yld, bel_agg, bel_tup, bel_ref, bel_only, bel_mpr, bel_fn, bel_sl_nil, bel_sl_nilF, bel_sl_nilO, bel_sl_cons, bel_sl_app, belO_cells, belO_tok, belO_dead, belO_deferred, belO_map, belO_iter, belO_loop, bel_vec, bel_vp, belO_vecM, belO_vec, shV_succ hi, -List.map_map]
    · intro _
      simp (maxSteps := 4000000) only [go_sem, AV.one, drawV, intsOf, keyIdx, over, putO, memAt, List.map_cons, List.length_cons, ↓reduceIte, snap_trues, imm_trues, enc_pair, enc_iterv, zdrop, one_i, one_b, one_sl, one_ptr, one_ref, one_nilp, one_mp, one_fn, one_nilf, Int.lt_irrefl]
      all_goals (repeat' (first | with_reducible rfl | with_reducible apply And.intro | ((with_reducible show drawOK _ _ = true); rfl))) <;> (try first | omega | (simp only [InR]; omega) | with_reducible assumption)
      refine loopN (t.marks.length) [.cell 1 4 4, .cell 2 4 4] [2, 3, 6, 7, 8, 9] (fun i => [(13, .int .i64 i)]) (fun i m => (((m.set 1 (.cells [.int .i64 t.last, .sl ((shH t n t.heights.length).map EncE.cs) (.own 3), .int .i64 t.step, .sl ((shV t n t.levels.length).map EncE.cs) (.own 5), .sl ((shK t n i).map EncE.cs) (.own 6)])).set 2 (.cells [.int .i64 t.last, .sl ((rvH t t.heights.length).map EncE.cs) (.own 4), .int .i64 t.step, .sl (t.levels.map EncE.cs) .no, .sl ((rvK t i).map EncE.cs) (.own 7)])).set 6 (.tok (shK t n i).length 4)).set 7 (.tok (rvK t i).length 4)) (fun _ => True) ?_ ?_ ?_ ?_
      · trivial
      · simp [AV.bare, bel_ints, cs_arr, dep_arr, cs_int, cs_bool, cs_list, cs_rg, cs_mk, AtHead, Same, AllO, Begins, LtAll, headSt, tokz_nil, tokz_cons, tokz1, lk, dep_int, dep_bool, dep_list, dep_rg, dep_mk, memAt, bel_map, bel_mapF, bel_mapO, bel_undef, bel_int, bel_boolv, bel_nilp, bel_nilf, bel_ptr, bel_arr, bel_mp, bel_yld, bel_agg, bel_tup, bel_ref, bel_only, bel_mpr, bel_fn, bel_sl_nil, bel_sl_nilF, bel_sl_nilO, bel_sl_cons, bel_sl_app, belO_cells, belO_tok, belO_dead, belO_deferred, belO_map, belO_iter, belO_loop, bel_vec, bel_vp, belO_vecM, belO_vec, shK, rvK, -List.map_map]
      · intro i hi _
        have hi' := Int.ofNat_lt.2 hi
        have hb1 := hf.ms _ (at_mem hi)
        have hg1 : (t.marks.map EncE.cs).getD i [] = [AV.int .i64 (at_ t.marks i).frm, AV.int .i64 (at_ t.marks i).til, AV.int .i64 (at_ t.marks i).top.lo, AV.int .i64 (at_ t.marks i).top.hi] := by rw [getD_mapA hi]; rfl
        have q1 := shK_len (t := t) (n := n) (i := i) (by omega)
        have q2 := rvK_len (t := t) (i := i) (by omega)
        refine vc_seqK fun Q1 h1 => ?_
        simp (maxSteps := 4000000) only [go_sem, AV.one, drawV, intsOf, keyIdx, over, putO, memAt, List.map_cons, List.length_cons, ↓reduceIte, snap_trues, imm_trues, enc_pair, enc_iterv, zdrop, one_i, one_b, one_sl, one_ptr, one_ref, one_nilp, one_mp, one_fn, one_nilf, hi']
        all_goals (repeat' (first | with_reducible rfl | with_reducible apply And.intro | ((with_reducible show drawOK _ _ = true); rfl))) <;> (try first | omega | (simp only [InR]; omega) | with_reducible assumption)
        rw [h1]; clear h1 Q1; simp only [thenA, vc_assoc]
        rw [vc_seq, vc_block]
        refine vc_seqK fun Q1 h1 => ?_
        simp (maxSteps := 4000000) only [go_sem, AV.one, drawV, intsOf, keyIdx, over, putO, memAt, List.map_cons, List.length_cons, ↓reduceIte, snap_trues, imm_trues, enc_pair, enc_iterv, zdrop, one_i, one_b, one_sl, one_ptr, one_ref, one_nilp, one_mp, one_fn, one_nilf, hg1]
        all_goals (repeat' (first | with_reducible rfl | with_reducible apply And.intro | ((with_reducible show drawOK _ _ = true); rfl))) <;> (try first | omega | (simp only [InR]; omega) | with_reducible assumption)
        rw [h1]; clear h1 Q1; simp only [thenA, vc_assoc]
        refine vc_seqK fun Q1 h1 => ?_
        simp (maxSteps := 4000000) only [go_sem, AV.one, drawV, intsOf, keyIdx, over, putO, memAt, List.map_cons, List.length_cons, ↓reduceIte, snap_trues, imm_trues, enc_pair, enc_iterv, zdrop, one_i, one_b, one_sl, one_ptr, one_ref, one_nilp, one_mp, one_fn, one_nilf, hg1]
        all_goals (repeat' (first | with_reducible rfl | with_reducible apply And.intro | ((with_reducible show drawOK _ _ = true); rfl))) <;> (try first | omega | (simp only [InR]; omega) | with_reducible assumption)
        rw [h1]; clear h1 Q1; simp only [thenA, vc_assoc]
        simp (maxSteps := 4000000) only [go_sem, AV.one, drawV, intsOf, keyIdx, over, putO, memAt, List.map_cons, List.length_cons, ↓reduceIte, snap_trues, imm_trues, enc_pair, enc_iterv, zdrop, one_i, one_b, one_sl, one_ptr, one_ref, one_nilp, one_mp, one_fn, one_nilf, hi', hg1]
        all_goals (repeat' (first | with_reducible rfl | with_reducible apply And.intro | ((with_reducible show drawOK _ _ = true); rfl))) <;> (try first | omega | (simp only [InR]; omega) | with_reducible assumption)
        refine nxt hi trivial ?_
        simp [AV.bare, bel_ints, cs_arr, dep_arr, cs_int, cs_bool, cs_list, cs_rg, cs_mk, AtHead, Same, AllO, Begins, LtAll, headSt, tokz_nil, tokz_cons, tokz1, lk, dep_int, dep_bool, dep_list, dep_rg, dep_mk, memAt, bel_map, bel_mapF, bel_mapO, bel_undef, bel_int, bel_boolv, bel_nilp, bel_nilf, bel_ptr, bel_arr, bel_mp, bel_yld, bel_agg, bel_tup, bel_ref, bel_only, bel_mpr, bel_fn, bel_sl_nil, bel_sl_nilF, bel_sl_nilO, bel_sl_cons, bel_sl_app, belO_cells, belO_tok, belO_dead, belO_deferred, belO_map, belO_iter, belO_loop, bel_vec, bel_vp, belO_vecM, belO_vec, shK_succ hi, rvK_succ hi, shM, rvM, -List.map_map]
      · intro _
        refine vc_seqK fun Q1 h1 => ?_
        simp (maxSteps := 4000000) only [go_sem, AV.one, drawV, intsOf, keyIdx, over, putO, memAt, List.map_cons, List.length_cons, ↓reduceIte, snap_trues, imm_trues, enc_pair, enc_iterv, zdrop, one_i, one_b, one_sl, one_ptr, one_ref, one_nilp, one_mp, one_fn, one_nilf, Int.lt_irrefl]
        all_goals (repeat' (first | with_reducible rfl | with_reducible apply And.intro | ((with_reducible show drawOK _ _ = true); rfl))) <;> (try first | omega | (simp only [InR]; omega) | with_reducible assumption)
        rw [h1]; clear h1 Q1; simp only [thenA, vc_assoc]
        refine vc_seqK fun Q1 h1 => ?_
        simp (maxSteps := 4000000) only [go_sem, AV.one, drawV, intsOf, keyIdx, over, putO, memAt, List.map_cons, List.length_cons, ↓reduceIte, snap_trues, imm_trues, enc_pair, enc_iterv, zdrop, one_i, one_b, one_sl, one_ptr, one_ref, one_nilp, one_mp, one_fn, one_nilf, hy, eA]
        all_goals (repeat' (first | with_reducible rfl | with_reducible apply And.intro | ((with_reducible show drawOK _ _ = true); rfl))) <;> (try first | omega | (simp only [InR]; omega) | with_reducible assumption)
        rw [h1]; clear h1 Q1; simp only [thenA, vc_assoc]
        refine vc_seqK fun Q1 h1 => ?_
        simp (maxSteps := 4000000) only [go_sem, AV.one, drawV, intsOf, keyIdx, over, putO, memAt, List.map_cons, List.length_cons, ↓reduceIte, snap_trues, imm_trues, enc_pair, enc_iterv, zdrop, one_i, one_b, one_sl, one_ptr, one_ref, one_nilp, one_mp, one_fn, one_nilf, hy, eC]
        all_goals (repeat' (first | with_reducible rfl | with_reducible apply And.intro | ((with_reducible show drawOK _ _ = true); rfl))) <;> (try first | omega | (simp only [InR]; omega) | with_reducible assumption)
        rw [h1]; clear h1 Q1; simp only [thenA, vc_assoc]
        refine vc_seqK fun Q1 h1 => ?_
        simp (maxSteps := 4000000) only [go_sem, AV.one, drawV, intsOf, keyIdx, over, putO, memAt, List.map_cons, List.length_cons, ↓reduceIte, snap_trues, imm_trues, enc_pair, enc_iterv, zdrop, one_i, one_b, one_sl, one_ptr, one_ref, one_nilp, one_mp, one_fn, one_nilf, hACl']
        all_goals (repeat' (first | with_reducible rfl | with_reducible apply And.intro | ((with_reducible show drawOK _ _ = true); rfl))) <;> (try first | omega | (simp only [InR]; omega) | with_reducible assumption)
        rw [h1]; clear h1 Q1; simp only [thenA, vc_assoc]
        simp (maxSteps := 4000000) only [go_sem, AV.one, drawV, intsOf, keyIdx, over, putO, memAt, List.map_cons, List.length_cons, ↓reduceIte, snap_trues, imm_trues, enc_pair, enc_iterv, zdrop, one_i, one_b, one_sl, one_ptr, one_ref, one_nilp, one_mp, one_fn, one_nilf, hACl']
        all_goals (repeat' (first | with_reducible rfl | with_reducible apply And.intro | ((with_reducible show drawOK _ _ = true); rfl))) <;> (try first | omega | (simp only [InR]; omega) | with_reducible assumption)
        refine loopN (A.length) [] [2, 3, 6, 7, 8, 15, 16, 17] (fun i => [(19, .int .i64 i)]) (fun _ m => m) (fun _ => True) ?_ ?_ ?_ ?_
        · trivial
        · simp [AV.bare, bel_ints, cs_arr, dep_arr, cs_int, cs_bool, cs_list, cs_rg, cs_mk, AtHead, Same, AllO, Begins, LtAll, headSt, tokz_nil, tokz_cons, tokz1, lk, dep_int, dep_bool, dep_list, dep_rg, dep_mk, memAt, bel_map, bel_mapF, bel_mapO, bel_undef, bel_int, bel_boolv, bel_nilp, bel_nilf, bel_ptr, bel_arr, bel_mp, bel_yld, bel_agg, bel_tup, bel_ref, bel_only, bel_mpr, bel_fn, bel_sl_nil, bel_sl_nilF, bel_sl_nilO, bel_sl_cons, bel_sl_app, belO_cells, belO_tok, belO_dead, belO_deferred, belO_map, belO_iter, belO_loop, bel_vec, bel_vp, belO_vecM, belO_vec, -List.map_map]
        · intro i hi _
          have hi' := Int.ofNat_lt.2 hi
          have hix : ((A.length : Int) - 1 - (i : Int)).toNat = A.length - 1 - i := by omega
          have hg1 : (A.map EncE.cs).getD i [] = [AV.int .i64 (at_ A i).lo, AV.int .i64 (at_ A i).hi] := by rw [getD_mapA hi]; rfl
          have hg2 : (C.map EncE.cs).getD (A.length - 1 - i) [] = [AV.int .i64 (at_ A i).lo, AV.int .i64 (at_ A i).hi] := by rw [getD_mapA (by omega), hACat i hi]; rfl
          simp (maxSteps := 4000000) only [go_sem, AV.one, drawV, intsOf, keyIdx, over, putO, memAt, List.map_cons, List.length_cons, ↓reduceIte, snap_trues, imm_trues, enc_pair, enc_iterv, zdrop, one_i, one_b, one_sl, one_ptr, one_ref, one_nilp, one_mp, one_fn, one_nilf, hi', hix, hg1, hg2]
          all_goals (repeat' (first | with_reducible rfl | with_reducible apply And.intro | ((with_reducible show drawOK _ _ = true); rfl))) <;> (try first | omega | (simp only [InR]; omega) | with_reducible assumption)
          refine nxt hi trivial ?_
          simp [AV.bare, bel_ints, cs_arr, dep_arr, cs_int, cs_bool, cs_list, cs_rg, cs_mk, AtHead, Same, AllO, Begins, LtAll, headSt, tokz_nil, tokz_cons, tokz1, lk, dep_int, dep_bool, dep_list, dep_rg, dep_mk, memAt, bel_map, bel_mapF, bel_mapO, bel_undef, bel_int, bel_boolv, bel_nilp, bel_nilf, bel_ptr, bel_arr, bel_mp, bel_yld, bel_agg, bel_tup, bel_ref, bel_only, bel_mpr, bel_fn, bel_sl_nil, bel_sl_nilF, bel_sl_nilO, bel_sl_cons, bel_sl_app, belO_cells, belO_tok, belO_dead, belO_deferred, belO_map, belO_iter, belO_loop, bel_vec, bel_vp, belO_vecM, belO_vec, -List.map_map]
        · intro _
          cases d0 : (thinB X && decide (faultT X = 0))
          · simp (maxSteps := 4000000) only [go_sem, AV.one, drawV, intsOf, keyIdx, over, putO, memAt, List.map_cons, List.length_cons, ↓reduceIte, snap_trues, imm_trues, enc_pair, enc_iterv, zdrop, one_i, one_b, one_sl, one_ptr, one_ref, one_nilp, one_mp, one_fn, one_nilf, Int.lt_irrefl, hx, d0]
            all_goals (repeat' (first | with_reducible rfl | with_reducible apply And.intro | ((with_reducible show drawOK _ _ = true); rfl))) <;> (try first | omega | (simp only [InR]; omega) | with_reducible assumption)
          have d12 : thinB X = true ∧ faultT X = 0 := by simpa using d0
          have hfx : FOk (shT n t) := by rw [hX]; exact fok_of d12.2
          have hXd : X.last = t.last := by rw [← hX]; rfl
          have hBk : ∃ B : List Rg, ∃ k d : Int, bndQ X = (B, e) ∧ dryQ t 0 t.last = (d, e) ∧ dryQ X 0 t.last = (k, e) ∧ B.length = A.length ∧ (∀ j, j < A.length → at_ B j = shR n (at_ A j) ∧ 0 ≤ (at_ A j).lo ∧ (at_ A j).lo ≤ 99 ∧ 0 ≤ (at_ A j).hi ∧ (at_ A j).hi ≤ 99) ∧ (0 ≤ d ∧ d ≤ 99) ∧ (e = 0 ∧ k = d + n ∨ e = 11) := by
            rcases hA with ⟨rfl, q, rfl⟩ | ⟨rfl, q, rfl⟩
            · have q' : truthsL X ≠ [] := by rw [← hX]; exact fun e => q ((sh_nil hf hfx).1 e)
              refine ⟨_, _, _, bnd_ok d12.2 q', dry_ok c2 q (by omega) hl0 (by omega), dry_ok d12.2 q' (by omega) hl0 (by omega), by simp [hXd], fun j hj => ?_, (top_dry hv q (by omega) hl0 (by omega)).2, .inl ⟨rfl, by rw [← hX]; exact sh_dry hf hfx q (by omega) hl0 (by omega)⟩⟩
              simp at hj
              rw [at_range _ (by omega), at_range _ (by omega), ← hX]
              refine ⟨sh_bounds hf hfx q (by omega), ?_⟩
              have b := boundsL_isB hv q (hour := (j : Int)) (by omega) (by omega)
              obtain ⟨p, hp, e1⟩ := b.lo
              obtain ⟨p', hp', e2⟩ := b.hi
              have g1 := (truth_lok hv hp).b _ (at_mem (l := p) (i := (j : Int).toNat) (by have := truth_len hv hp; omega))
              have g2 := (truth_lok hv hp').b _ (at_mem (l := p') (i := (j : Int).toNat) (by have := truth_len hv hp'; omega))
              omega
            · have q' : truthsL X = [] := by rw [← hX]; exact (sh_nil hf hfx).2 q
              exact ⟨[], 0, 0, bnd_dry d12.2 q', dry_dry c2 q (by omega) hl0 (by omega), dry_dry d12.2 q' (by omega) hl0 (by omega), rfl, fun j hj => by simp at hj, by omega, .inr rfl⟩
          obtain ⟨B, k, d, eB, ed, ek, hBl, hBat, hd99, hke⟩ := hBk
          have hBl' : decide ((B.length : Int) = (A.length : Int)) = true := by rw [decide_eq_true_eq]; omega
          have eP : playQ t s = (t.levels.map (wetL s), 0) := by
            unfold playQ
            rw [if_pos c2, if_pos ((listed_iff s).2 hso)]
          have eQ : playQ X (addL n s) = (t.levels.map (wetL s), 0) := by
            unfold playQ
            rw [if_pos d12.2, if_pos ((listed_iff _).2 (by rw [← hX]; exact sh_lsok hso)), hXv]
            congr 1
            simp [addL]
            intro lv hlv
            exact wet_add s n lv
          obtain ⟨W, hW⟩ : ∃ W, t.levels.map (wetL s) = W := ⟨_, rfl⟩
          rw [hW] at eP eQ
          have hWl : W.length = t.levels.length := by rw [← hW]; simp
          have hWl' : decide ((W.length : Int) = (t.levels.length : Int)) = true := by simp [hWl]
          have hWb : ∀ j, j < W.length → (at_ W j).length ≤ 4096 := fun j hj => by
            rw [← hW, at_map (by omega)]
            have := hwbd (at_ t.levels j)
            have := hok.len
            omega
          have hkd : ∃ be bk, decide (e = 0) = be ∧ decide (k = d + n) = bk ∧ ((be = true ∧ bk = true) ∨ be = false) := by
            refine ⟨_, _, rfl, rfl, ?_⟩
            rcases hke with ⟨h2, h3⟩ | h2
            · exact .inl ⟨by simp [h2], by simp [h3]⟩
            · exact .inr (by rw [decide_eq_false_iff_not]; omega)
          obtain ⟨be, bk, hbe, hkd, hbk⟩ := hkd
          have hul : ∀ i, i ≤ s.length → (addL n (s.take i)).length = i := fun i hi => by simp [addL]; omega
          have huf : addL n (s.take s.length) = addL n s := by rw [List.take_length]
          have hus : (addL n s).length = s.length := addL_len n s
          rcases hbk with ⟨rfl, rfl⟩ | rfl
          all_goals
            simp (maxSteps := 4000000) only [go_sem, AV.one, drawV, intsOf, keyIdx, over, putO, memAt, List.map_cons, List.length_cons, ↓reduceIte, snap_trues, imm_trues, enc_pair, enc_iterv, zdrop, one_i, one_b, one_sl, one_ptr, one_ref, one_nilp, one_mp, one_fn, one_nilf, Int.lt_irrefl, hx, d0, eB, ed, ek, hBl', hbe, hkd]
            all_goals (repeat' (first | with_reducible rfl | with_reducible apply And.intro | ((with_reducible show drawOK _ _ = true); rfl))) <;> (try first | omega | (simp only [InR]; omega) | with_reducible assumption)
            refine loopN (A.length) [] [2, 3, 6, 7, 8, 15, 20] (fun i => [(26, .int .i64 i)]) (fun _ m => m) (fun _ => True) ?_ ?_ ?_ ?_
            · trivial
            · simp [AV.bare, bel_ints, cs_arr, dep_arr, cs_int, cs_bool, cs_list, cs_rg, cs_mk, AtHead, Same, AllO, Begins, LtAll, headSt, tokz_nil, tokz_cons, tokz1, lk, dep_int, dep_bool, dep_list, dep_rg, dep_mk, memAt, bel_map, bel_mapF, bel_mapO, bel_undef, bel_int, bel_boolv, bel_nilp, bel_nilf, bel_ptr, bel_arr, bel_mp, bel_yld, bel_agg, bel_tup, bel_ref, bel_only, bel_mpr, bel_fn, bel_sl_nil, bel_sl_nilF, bel_sl_nilO, bel_sl_cons, bel_sl_app, belO_cells, belO_tok, belO_dead, belO_deferred, belO_map, belO_iter, belO_loop, bel_vec, bel_vp, belO_vecM, belO_vec, -List.map_map]
            · intro i hi _
              have hi' := Int.ofNat_lt.2 hi
              obtain ⟨g1, g2⟩ := hBat i hi
              have hg1 : (A.map EncE.cs).getD i [] = [AV.int .i64 (at_ A i).lo, AV.int .i64 (at_ A i).hi] := by rw [getD_mapA hi]; rfl
              have hg2 : (B.map EncE.cs).getD i [] = [AV.int .i64 ((at_ A i).lo + n), AV.int .i64 ((at_ A i).hi + n)] := by rw [getD_mapA (by omega), g1]; rfl
              simp (maxSteps := 4000000) only [go_sem, AV.one, drawV, intsOf, keyIdx, over, putO, memAt, List.map_cons, List.length_cons, ↓reduceIte, snap_trues, imm_trues, enc_pair, enc_iterv, zdrop, one_i, one_b, one_sl, one_ptr, one_ref, one_nilp, one_mp, one_fn, one_nilf, hi', hg1, hg2]
              all_goals (repeat' (first | with_reducible rfl | with_reducible apply And.intro | ((with_reducible show drawOK _ _ = true); rfl))) <;> (try first | omega | (simp only [InR]; omega) | with_reducible assumption)
              refine nxt hi trivial ?_
              simp [AV.bare, bel_ints, cs_arr, dep_arr, cs_int, cs_bool, cs_list, cs_rg, cs_mk, AtHead, Same, AllO, Begins, LtAll, headSt, tokz_nil, tokz_cons, tokz1, lk, dep_int, dep_bool, dep_list, dep_rg, dep_mk, memAt, bel_map, bel_mapF, bel_mapO, bel_undef, bel_int, bel_boolv, bel_nilp, bel_nilf, bel_ptr, bel_arr, bel_mp, bel_yld, bel_agg, bel_tup, bel_ref, bel_only, bel_mpr, bel_fn, bel_sl_nil, bel_sl_nilF, bel_sl_nilO, bel_sl_cons, bel_sl_app, belO_cells, belO_tok, belO_dead, belO_deferred, belO_map, belO_iter, belO_loop, bel_vec, bel_vp, belO_vecM, belO_vec, -List.map_map]
            · intro _
              simp (maxSteps := 4000000) only [go_sem, AV.one, drawV, intsOf, keyIdx, over, putO, memAt, List.map_cons, List.length_cons, ↓reduceIte, snap_trues, imm_trues, enc_pair, enc_iterv, zdrop, one_i, one_b, one_sl, one_ptr, one_ref, one_nilp, one_mp, one_fn, one_nilf, Int.lt_irrefl, ewn, hgs]
              all_goals (repeat' (first | with_reducible rfl | with_reducible apply And.intro | ((with_reducible show drawOK _ _ = true); rfl))) <;> (try first | omega | (simp only [InR]; omega) | with_reducible assumption)
              refine loopN (s.length) [.slot 29 1] [3, 6, 7, 8, 28] (fun i => [(30, .int .i64 i), (29, .sl ((addL n (s.take i)).map EncE.cs) (.own 8))]) (fun i m => m.set 8 (.tok (addL n (s.take i)).length 1)) (fun _ => True) ?_ ?_ ?_ ?_
              · trivial
              · simp [AV.bare, bel_ints, cs_arr, dep_arr, cs_int, cs_bool, cs_list, cs_rg, cs_mk, AtHead, Same, AllO, Begins, LtAll, headSt, tokz_nil, tokz_cons, tokz1, lk, dep_int, dep_bool, dep_list, dep_rg, dep_mk, memAt, bel_map, bel_mapF, bel_mapO, bel_undef, bel_int, bel_boolv, bel_nilp, bel_nilf, bel_ptr, bel_arr, bel_mp, bel_yld, bel_agg, bel_tup, bel_ref, bel_only, bel_mpr, bel_fn, bel_sl_nil, bel_sl_nilF, bel_sl_nilO, bel_sl_cons, bel_sl_app, belO_cells, belO_tok, belO_dead, belO_deferred, belO_map, belO_iter, belO_loop, bel_vec, bel_vp, belO_vecM, belO_vec, addL, -List.map_map]
              · intro i hi _
                have hi' := Int.ofNat_lt.2 hi
                have hb1 := hsb.b _ (at_mem hi)
                have hul' := hul i (by omega)
                have hok10 := hok.len
                have hg1 : (s.map EncE.cs).getD i [] = [AV.int .i64 (at_ s i)] := by rw [getD_mapA hi]; rfl
                have hsu : addL n (s.take (i + 1)) = addL n (s.take i) ++ [at_ s i + n] := by unfold addL; rw [take_succ_at hi, List.map_append]; rfl
                simp (maxSteps := 4000000) only [go_sem, AV.one, drawV, intsOf, keyIdx, over, putO, memAt, List.map_cons, List.length_cons, ↓reduceIte, snap_trues, imm_trues, enc_pair, enc_iterv, zdrop, one_i, one_b, one_sl, one_ptr, one_ref, one_nilp, one_mp, one_fn, one_nilf, hi', hg1]
                all_goals (repeat' (first | with_reducible rfl | with_reducible apply And.intro | ((with_reducible show drawOK _ _ = true); rfl))) <;> (try first | omega | (simp only [InR]; omega) | with_reducible assumption)
                refine nxt hi trivial ?_
                simp [AV.bare, bel_ints, cs_arr, dep_arr, cs_int, cs_bool, cs_list, cs_rg, cs_mk, AtHead, Same, AllO, Begins, LtAll, headSt, tokz_nil, tokz_cons, tokz1, lk, dep_int, dep_bool, dep_list, dep_rg, dep_mk, memAt, bel_map, bel_mapF, bel_mapO, bel_undef, bel_int, bel_boolv, bel_nilp, bel_nilf, bel_ptr, bel_arr, bel_mp, bel_yld, bel_agg, bel_tup, bel_ref, bel_only, bel_mpr, bel_fn, bel_sl_nil, bel_sl_nilF, bel_sl_nilO, bel_sl_cons, bel_sl_app, belO_cells, belO_tok, belO_dead, belO_deferred, belO_map, belO_iter, belO_loop, bel_vec, bel_vp, belO_vecM, belO_vec, hsu, -List.map_map, -List.map_take]
              · intro _
                simp (maxSteps := 4000000) only [go_sem, AV.one, drawV, intsOf, keyIdx, over, putO, memAt, List.map_cons, List.length_cons, ↓reduceIte, snap_trues, imm_trues, enc_pair, enc_iterv, zdrop, one_i, one_b, one_sl, one_ptr, one_ref, one_nilp, one_mp, one_fn, one_nilf, Int.lt_irrefl, huf, hx, eP, eQ, hWl']
                all_goals (repeat' (first | with_reducible rfl | with_reducible apply And.intro | ((with_reducible show drawOK _ _ = true); rfl))) <;> (try first | omega | (simp only [InR]; omega) | with_reducible assumption)
                refine loopN (W.length) [] [6, 31, 33] (fun i => [(35, .int .i64 i)]) (fun _ m => m) (fun _ => True) ?_ ?_ ?_ ?_
                · trivial
                · simp [AV.bare, bel_ints, cs_arr, dep_arr, cs_int, cs_bool, cs_list, cs_rg, cs_mk, AtHead, Same, AllO, Begins, LtAll, headSt, tokz_nil, tokz_cons, tokz1, lk, dep_int, dep_bool, dep_list, dep_rg, dep_mk, memAt, bel_map, bel_mapF, bel_mapO, bel_undef, bel_int, bel_boolv, bel_nilp, bel_nilf, bel_ptr, bel_arr, bel_mp, bel_yld, bel_agg, bel_tup, bel_ref, bel_only, bel_mpr, bel_fn, bel_sl_nil, bel_sl_nilF, bel_sl_nilO, bel_sl_cons, bel_sl_app, belO_cells, belO_tok, belO_dead, belO_deferred, belO_map, belO_iter, belO_loop, bel_vec, bel_vp, belO_vecM, belO_vec, -List.map_map]
                · intro i hi _
                  have hi' := Int.ofNat_lt.2 hi
                  have hwb := hWb i hi
                  have hg1 : (W.map EncE.cs).getD i [] = [AV.sl ((at_ W i).map EncE.cs) .no] := by rw [getD_mapA hi]; rfl
                  simp (maxSteps := 4000000) only [go_sem, AV.one, drawV, intsOf, keyIdx, over, putO, memAt, List.map_cons, List.length_cons, ↓reduceIte, snap_trues, imm_trues, enc_pair, enc_iterv, zdrop, one_i, one_b, one_sl, one_ptr, one_ref, one_nilp, one_mp, one_fn, one_nilf, hi', hg1]
                  all_goals (repeat' (first | with_reducible rfl | with_reducible apply And.intro | ((with_reducible show drawOK _ _ = true); rfl))) <;> (try first | omega | (simp only [InR]; omega) | with_reducible assumption)
                  refine nxt hi trivial ?_
                  simp [AV.bare, bel_ints, cs_arr, dep_arr, cs_int, cs_bool, cs_list, cs_rg, cs_mk, AtHead, Same, AllO, Begins, LtAll, headSt, tokz_nil, tokz_cons, tokz1, lk, dep_int, dep_bool, dep_list, dep_rg, dep_mk, memAt, bel_map, bel_mapF, bel_mapO, bel_undef, bel_int, bel_boolv, bel_nilp, bel_nilf, bel_ptr, bel_arr, bel_mp, bel_yld, bel_agg, bel_tup, bel_ref, bel_only, bel_mpr, bel_fn, bel_sl_nil, bel_sl_nilF, bel_sl_nilO, bel_sl_cons, bel_sl_app, belO_cells, belO_tok, belO_dead, belO_deferred, belO_map, belO_iter, belO_loop, bel_vec, bel_vp, belO_vecM, belO_vec, -List.map_map]
                · intro _
                  simp (maxSteps := 4000000) only [go_sem, AV.one, drawV, intsOf, keyIdx, over, putO, memAt, List.map_cons, List.length_cons, ↓reduceIte, snap_trues, imm_trues, enc_pair, enc_iterv, zdrop, one_i, one_b, one_sl, one_ptr, one_ref, one_nilp, one_mp, one_fn, one_nilf, Int.lt_irrefl]
                  all_goals (repeat' (first | with_reducible rfl | with_reducible apply And.intro | ((with_reducible show drawOK _ _ = true); rfl))) <;> (try first | omega | (simp only [InR]; omega) | with_reducible assumption)
end Go.Proofs
