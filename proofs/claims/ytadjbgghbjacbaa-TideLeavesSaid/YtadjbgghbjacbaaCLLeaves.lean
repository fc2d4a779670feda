/- The law TideLeaves. -/
import Derived.Test.YtadjbgghbjacbaaG13
set_option linter.all false
namespace Go.Proofs
open Go.Fs
set_option linter.unusedSimpArgs false
set_option linter.unusedVariables false
set_option maxHeartbeats 4000000
set_option maxRecDepth 8000

theorem allL_facts {t : Tb} (h : faultT t = 0) : (allL t).length ≤ 4096 ∧ ∀ x ∈ allL t, BOk x := by
  have hv := fault_ok h
  have h1 := listsL_len hv.hok
  have h2 := hv.mok.len
  refine ⟨by unfold allL; rw [allN_len t _ (Nat.le_refl _)]; omega, fun x hx => ?_⟩
  unfold allL allN at hx
  obtain ⟨l, _, rfl⟩ := List.mem_map.1 hx
  have := rb_bd l t.marks t.marks.length (by omega)
  exact ⟨by omega, by omega⟩
theorem leaveL_len {t : Tb} (h : t.marks.length ≤ 7) (all : List Int) : (leaveL t all).length ≤ 9 := by
  have := Nat.pow_le_pow_right (n := 2) (by omega) h
  unfold leaveL
  exact leaveN_len (by omega) _ (by omega)
theorem TideLeaves_true (t : Tb) : CallP Try.prog 5 [Enc.enc t] (· = Enc.enc true) := by
  cases c1 : thinB t
  · simp only [enc_fnl, enc_fnb, enc_fnc, enc_refc, enc_arr, enc_int, enc_bool, enc_list, enc_rg, enc_mk, enc_tb]
    refine callP_of_vc (Φ := P50) Try.func5 rfl (by rfl) (by rw [Try.ntmps5]; simp) mixed P50_ok (by simp [AV.strip, Tk.strip]) ?_
    rw [Try.ntmps5]
    simp only [Try.f5, startSt, tmFrom]
    simp (maxSteps := 4000000) only [go_sem, AV.one, drawV, intsOf, keyIdx, over, putO, memAt, List.map_cons, List.length_cons, ↓reduceIte, snap_trues, imm_trues, enc_pair, enc_iterv, zdrop, one_i, one_b, one_sl, one_ptr, one_ref, one_nilp, one_mp, one_fn, one_nilf, c1]
    all_goals (repeat' (first | with_reducible rfl | with_reducible apply And.intro | ((with_reducible show drawOK _ = true); rfl))) <;> (try first | omega | (simp only [InR]; omega) | with_reducible assumption)
  have hl := thin_len c1
  by_cases c2 : faultT t = 0
  case neg =>
    have e1 : firstQ t = (0, faultT t) := by unfold firstQ; rw [if_neg c2]
    have e2 : leaveQ t = ([], faultT t) := by unfold leaveQ; rw [if_neg c2]
    simp only [enc_fnl, enc_fnb, enc_fnc, enc_refc, enc_arr, enc_int, enc_bool, enc_list, enc_rg, enc_mk, enc_tb]
    refine callP_of_vc (Φ := P50) Try.func5 rfl (by rfl) (by rw [Try.ntmps5]; simp) mixed P50_ok (by simp [AV.strip, Tk.strip]) ?_
    rw [Try.ntmps5]
    simp only [Try.f5, startSt, tmFrom]
    simp (maxSteps := 4000000) only [go_sem, AV.one, drawV, intsOf, keyIdx, over, putO, memAt, List.map_cons, List.length_cons, ↓reduceIte, snap_trues, imm_trues, enc_pair, enc_iterv, zdrop, one_i, one_b, one_sl, one_ptr, one_ref, one_nilp, one_mp, one_fn, one_nilf, c1, c2, e1, e2]
    all_goals (repeat' (first | with_reducible rfl | with_reducible apply And.intro | ((with_reducible show drawOK _ = true); rfl))) <;> (try first | omega | (simp only [InR]; omega) | with_reducible assumption)
  have hv := fault_ok c2
  have hok := hv.hok
  have hmk := hv.mok
  obtain ⟨h4, h5⟩ := allL_facts c2
  have h6 := leaveL_len hl.2.2 (allL t)
  have e2 : leaveQ t = (leaveL t (allL t), 0) := by unfold leaveQ; rw [if_pos c2]
  by_cases c3 : firstL t (allL t) < 0
  · have e1 : firstQ t = (0, 7) := by unfold firstQ; rw [if_pos c2, if_pos c3]
    simp only [enc_fnl, enc_fnb, enc_fnc, enc_refc, enc_arr, enc_int, enc_bool, enc_list, enc_rg, enc_mk, enc_tb]
    refine callP_of_vc (Φ := P50) Try.func5 rfl (by rfl) (by rw [Try.ntmps5]; simp) mixed P50_ok (by simp [AV.strip, Tk.strip]) ?_
    rw [Try.ntmps5]
    simp only [Try.f5, startSt, tmFrom]
    simp (maxSteps := 4000000) only [go_sem, AV.one, drawV, intsOf, keyIdx, over, putO, memAt, List.map_cons, List.length_cons, ↓reduceIte, snap_trues, imm_trues, enc_pair, enc_iterv, zdrop, one_i, one_b, one_sl, one_ptr, one_ref, one_nilp, one_mp, one_fn, one_nilf, c1, c2, c3, e1, e2]
    all_goals (repeat' (first | with_reducible rfl | with_reducible apply And.intro | ((with_reducible show drawOK _ = true); rfl))) <;> (try first | omega | (simp only [InR]; omega) | with_reducible assumption)
  · have e1 : firstQ t = (firstL t (allL t), 0) := by unfold firstQ; rw [if_pos c2, if_neg c3]
    simp only [enc_fnl, enc_fnb, enc_fnc, enc_refc, enc_arr, enc_int, enc_bool, enc_list, enc_rg, enc_mk, enc_tb]
    refine callP_of_vc (Φ := P50) Try.func5 rfl (by rfl) (by rw [Try.ntmps5]; simp) mixed P50_ok (by simp [AV.strip, Tk.strip]) ?_
    rw [Try.ntmps5]
    simp only [Try.f5, startSt, tmFrom]
    simp (maxSteps := 4000000) only [go_sem, AV.one, drawV, intsOf, keyIdx, over, putO, memAt, List.map_cons, List.length_cons, ↓reduceIte, snap_trues, imm_trues, enc_pair, enc_iterv, zdrop, one_i, one_b, one_sl, one_ptr, one_ref, one_nilp, one_mp, one_fn, one_nilf, c1, c2, c3, e1, e2]
    all_goals (repeat' (first | with_reducible rfl | with_reducible apply And.intro | ((with_reducible show drawOK _ = true); rfl))) <;> (try first | omega | (simp only [InR]; omega) | with_reducible assumption)
end Go.Proofs
