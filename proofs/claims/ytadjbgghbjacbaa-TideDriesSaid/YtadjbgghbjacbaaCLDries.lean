/- The law TideDries. -/
import Derived.Test.YtadjbgghbjacbaaG13
set_option linter.all false
namespace Go.Proofs
open Go.Fs
set_option linter.unusedSimpArgs false
set_option linter.unusedVariables false
set_option maxHeartbeats 4000000
set_option maxRecDepth 8000

/-- ProveDry is what the reference says. -/
theorem dry_facts {t : Tb} (c2 : faultT t = 0) (hne : truthsL t ≠ []) {a b : Int} (h0 : 0 ≤ a) (h1 : a ≤ b) (h2 : b ≤ t.last) (n : Int) : isDryB (truthsL t) a b n = decide (dryL (truthsL t) a b ≤ n) := by
  have hv := fault_ok c2
  have hB := top_isB hv hne h0 h1 h2
  have h := isDryB_iff (n := n) hB
  rw [(top_dry hv hne h0 h1 h2).1] at h
  by_cases c : dryL (truthsL t) a b ≤ n
  · rw [h.2 c]; simp [c]
  · rw [decide_eq_false c]
    cases e : isDryB (truthsL t) a b n
    · rfl
    · exact absurd (h.1 e) c
theorem TideDries_true (t : Tb) (a b level : Int) : CallP Try.prog 13 [Enc.enc t, Enc.enc a, Enc.enc b, Enc.enc level] (· = Enc.enc true) := by
  cases c1 : thinB t
  · simp only [enc_fnl, enc_fnb, enc_fnc, enc_refc, enc_arr, enc_int, enc_bool, enc_list, enc_rg, enc_mk, enc_tb]
    refine callP_of_vc (Φ := P50) Try.func13 rfl (by rfl) (by rw [Try.ntmps13]; simp) mixed P50_ok (by simp [AV.strip, Tk.strip]) ?_
    rw [Try.ntmps13]
    simp only [Try.f13, startSt, tmFrom]
    simp (maxSteps := 4000000) only [go_sem, AV.one, drawV, intsOf, keyIdx, over, putO, memAt, List.map_cons, List.length_cons, ↓reduceIte, snap_trues, imm_trues, enc_pair, enc_iterv, zdrop, one_i, one_b, one_sl, one_ptr, one_ref, one_nilp, one_mp, one_fn, one_nilf, c1]
    all_goals (repeat' (first | with_reducible rfl | with_reducible apply And.intro | ((with_reducible show drawOK _ = true); rfl))) <;> (try first | omega | (simp only [InR]; omega) | with_reducible assumption)
  have hl := thin_len c1
  by_cases c2 : faultT t = 0
  case neg =>
    have e1 : dryQ t a b = (0, faultT t) := by unfold dryQ; rw [askErr_bad _ c2, if_neg c2]
    have e3 : pdryQ t a b level = false := by unfold pdryQ; rw [e1]; simp [c2]
    have e2 := sureQ_bad c2
    simp only [enc_fnl, enc_fnb, enc_fnc, enc_refc, enc_arr, enc_int, enc_bool, enc_list, enc_rg, enc_mk, enc_tb]
    refine callP_of_vc (Φ := P50) Try.func13 rfl (by rfl) (by rw [Try.ntmps13]; simp) mixed P50_ok (by simp [AV.strip, Tk.strip]) ?_
    rw [Try.ntmps13]
    simp only [Try.f13, startSt, tmFrom]
    simp (maxSteps := 4000000) only [go_sem, AV.one, drawV, intsOf, keyIdx, over, putO, memAt, List.map_cons, List.length_cons, ↓reduceIte, snap_trues, imm_trues, enc_pair, enc_iterv, zdrop, one_i, one_b, one_sl, one_ptr, one_ref, one_nilp, one_mp, one_fn, one_nilf, c1, c2, e1, e2, e3]
    all_goals (repeat' (first | with_reducible rfl | with_reducible apply And.intro | ((with_reducible show drawOK _ = true); rfl))) <;> (try first | omega | (simp only [InR]; omega) | with_reducible assumption)
  have hv := fault_ok c2
  have hlast := hv.last
  obtain ⟨h4, h5⟩ := truths_facts c2
  cases c3 : inB a 0 t.last && inB b 0 t.last && decide (a ≤ b)
  · have e1 : dryQ t a b = (0, 2) := by unfold dryQ; rw [c3, askErr_out c2, if_neg (by decide)]
    have e3 : pdryQ t a b level = false := by unfold pdryQ; rw [e1]; simp
    obtain ⟨L, er, e2⟩ : ∃ L er, sureQ t = (L, er) := ⟨_, _, rfl⟩
    cases c5 : inB a 0 t.last
    · simp only [enc_fnl, enc_fnb, enc_fnc, enc_refc, enc_arr, enc_int, enc_bool, enc_list, enc_rg, enc_mk, enc_tb]
      refine callP_of_vc (Φ := P50) Try.func13 rfl (by rfl) (by rw [Try.ntmps13]; simp) mixed P50_ok (by simp [AV.strip, Tk.strip]) ?_
      rw [Try.ntmps13]
      simp only [Try.f13, startSt, tmFrom]
      simp (maxSteps := 4000000) only [go_sem, AV.one, drawV, intsOf, keyIdx, over, putO, memAt, List.map_cons, List.length_cons, ↓reduceIte, snap_trues, imm_trues, enc_pair, enc_iterv, zdrop, one_i, one_b, one_sl, one_ptr, one_ref, one_nilp, one_mp, one_fn, one_nilf, c1, c2, c5, e1, e2, e3]
      all_goals (repeat' (first | with_reducible rfl | with_reducible apply And.intro | ((with_reducible show drawOK _ = true); rfl))) <;> (try first | omega | (simp only [InR]; omega) | with_reducible assumption)
    cases c6 : inB b 0 t.last
    · simp only [enc_fnl, enc_fnb, enc_fnc, enc_refc, enc_arr, enc_int, enc_bool, enc_list, enc_rg, enc_mk, enc_tb]
      refine callP_of_vc (Φ := P50) Try.func13 rfl (by rfl) (by rw [Try.ntmps13]; simp) mixed P50_ok (by simp [AV.strip, Tk.strip]) ?_
      rw [Try.ntmps13]
      simp only [Try.f13, startSt, tmFrom]
      simp (maxSteps := 4000000) only [go_sem, AV.one, drawV, intsOf, keyIdx, over, putO, memAt, List.map_cons, List.length_cons, ↓reduceIte, snap_trues, imm_trues, enc_pair, enc_iterv, zdrop, one_i, one_b, one_sl, one_ptr, one_ref, one_nilp, one_mp, one_fn, one_nilf, c1, c2, c5, c6, e1, e2, e3]
      all_goals (repeat' (first | with_reducible rfl | with_reducible apply And.intro | ((with_reducible show drawOK _ = true); rfl))) <;> (try first | omega | (simp only [InR]; omega) | with_reducible assumption)
    have c7 : b < a := by
      rw [c5, c6] at c3
      simp at c3
      omega
    simp only [enc_fnl, enc_fnb, enc_fnc, enc_refc, enc_arr, enc_int, enc_bool, enc_list, enc_rg, enc_mk, enc_tb]
    refine callP_of_vc (Φ := P50) Try.func13 rfl (by rfl) (by rw [Try.ntmps13]; simp) mixed P50_ok (by simp [AV.strip, Tk.strip]) ?_
    rw [Try.ntmps13]
    simp only [Try.f13, startSt, tmFrom]
    simp (maxSteps := 4000000) only [go_sem, AV.one, drawV, intsOf, keyIdx, over, putO, memAt, List.map_cons, List.length_cons, ↓reduceIte, snap_trues, imm_trues, enc_pair, enc_iterv, zdrop, one_i, one_b, one_sl, one_ptr, one_ref, one_nilp, one_mp, one_fn, one_nilf, c1, c2, c5, c6, c7, e1, e2, e3]
    all_goals (repeat' (first | with_reducible rfl | with_reducible apply And.intro | ((with_reducible show drawOK _ = true); rfl))) <;> (try first | omega | (simp only [InR]; omega) | with_reducible assumption)
  have c34 : (inB a 0 t.last = true ∧ inB b 0 t.last = true) ∧ a ≤ b := by simpa using c3
  obtain ⟨⟨c5, c6⟩, c8⟩ := c34
  have h5a := (inB_iff _ _ _).1 c5
  have h6a := (inB_iff _ _ _).1 c6
  have c7 : ¬ b < a := by omega
  by_cases c4 : truthsL t = []
  · have e1 : dryQ t a b = (0, 11) := by unfold dryQ; rw [c3, askErr_dry c2 c4, if_neg (by decide)]
    have e3 : pdryQ t a b level = false := by unfold pdryQ; rw [e1]; simp
    have e2 := sureQ_dry c2 c4
    simp only [enc_fnl, enc_fnb, enc_fnc, enc_refc, enc_arr, enc_int, enc_bool, enc_list, enc_rg, enc_mk, enc_tb]
    refine callP_of_vc (Φ := P50) Try.func13 rfl (by rfl) (by rw [Try.ntmps13]; simp) mixed P50_ok (by simp [AV.strip, Tk.strip]) ?_
    rw [Try.ntmps13]
    simp only [Try.f13, startSt, tmFrom]
    simp (maxSteps := 4000000) only [go_sem, AV.one, drawV, intsOf, keyIdx, over, putO, memAt, List.map_cons, List.length_cons, ↓reduceIte, snap_trues, imm_trues, enc_pair, enc_iterv, zdrop, one_i, one_b, one_sl, one_ptr, one_ref, one_nilp, one_mp, one_fn, one_nilf, c1, c2, c5, c6, c7, e1, e2, e3]
    all_goals (repeat' (first | with_reducible rfl | with_reducible apply And.intro | ((with_reducible show drawOK _ = true); rfl))) <;> (try first | omega | (simp only [InR]; omega) | with_reducible assumption)
  have e1 : dryQ t a b = (dryL (truthsL t) a b, 0) := by unfold dryQ; rw [c3, askErr_ok c2 c4, if_pos rfl]
  have e3 : pdryQ t a b level = decide (dryL (truthsL t) a b ≤ level) := by unfold pdryQ; rw [e1]; simp
  have e4 := dry_facts c2 c4 h5a.1 c8 h6a.2 level
  have e2 := sureQ_ok c2 c4
  by_cases c9 : dryL (truthsL t) a b ≤ level
  all_goals
    simp only [enc_fnl, enc_fnb, enc_fnc, enc_refc, enc_arr, enc_int, enc_bool, enc_list, enc_rg, enc_mk, enc_tb]
    refine callP_of_vc (Φ := P50) Try.func13 rfl (by rfl) (by rw [Try.ntmps13]; simp) mixed P50_ok (by simp [AV.strip, Tk.strip]) ?_
    rw [Try.ntmps13]
    simp only [Try.f13, startSt, tmFrom]
    simp (maxSteps := 4000000) only [go_sem, AV.one, drawV, intsOf, keyIdx, over, putO, memAt, List.map_cons, List.length_cons, ↓reduceIte, snap_trues, imm_trues, enc_pair, enc_iterv, zdrop, one_i, one_b, one_sl, one_ptr, one_ref, one_nilp, one_mp, one_fn, one_nilf, c1, c2, c5, c6, c7, e1, e2, e3, e4, c9]
    all_goals (repeat' (first | with_reducible rfl | with_reducible apply And.intro | ((with_reducible show drawOK _ = true); rfl))) <;> (try first | omega | (simp only [InR]; omega) | with_reducible assumption)
  all_goals exact fun l hl' => ⟨by have := (h5 l hl').1; omega, (h5 l hl').2⟩
end Go.Proofs
