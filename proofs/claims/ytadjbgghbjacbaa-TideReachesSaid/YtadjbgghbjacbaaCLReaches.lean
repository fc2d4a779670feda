/- The law TideReaches. -/
import Derived.Test.YtadjbgghbjacbaaG13
set_option linter.all false
namespace Go.Proofs
open Go.Fs
set_option linter.unusedSimpArgs false
set_option linter.unusedVariables false
set_option maxHeartbeats 4000000
set_option maxRecDepth 8000

theorem TideReaches_true (t : Tb) (row : Int) : CallP Try.prog 4 [Enc.enc t, Enc.enc row] (· = Enc.enc true) := by
  cases c1 : thinB t
  · simp only [enc_fnl, enc_fnb, enc_fnc, enc_refc, enc_arr, enc_int, enc_bool, enc_list, enc_rg, enc_mk, enc_tb]
    refine callP_of_vc (Φ := P50) Try.func4 rfl (by rfl) (by rw [Try.ntmps4]; simp) mixed P50_ok (by simp [AV.strip, Tk.strip]) ?_
    rw [Try.ntmps4]
    simp only [Try.f4, startSt, tmFrom]
    simp (maxSteps := 4000000) only [go_sem, AV.one, drawV, intsOf, keyIdx, over, putO, memAt, List.map_cons, List.length_cons, ↓reduceIte, snap_trues, imm_trues, enc_pair, enc_iterv, zdrop, one_i, one_b, one_sl, one_ptr, one_ref, one_nilp, one_mp, one_fn, one_nilf, c1]
    all_goals (repeat' (first | with_reducible rfl | with_reducible apply And.intro | ((with_reducible show drawOK _ = true); rfl))) <;> (try first | omega | (simp only [InR]; omega) | with_reducible assumption)
  have hl := thin_len c1
  by_cases c2 : faultT t = 0
  case neg =>
    have e1 : rchQ t row = (⟨0, 0⟩, faultT t) := by unfold rchQ; rw [askErr_bad _ c2, if_neg c2]
    have e2 := sureQ_bad c2
    simp only [enc_fnl, enc_fnb, enc_fnc, enc_refc, enc_arr, enc_int, enc_bool, enc_list, enc_rg, enc_mk, enc_tb]
    refine callP_of_vc (Φ := P50) Try.func4 rfl (by rfl) (by rw [Try.ntmps4]; simp) mixed P50_ok (by simp [AV.strip, Tk.strip]) ?_
    rw [Try.ntmps4]
    simp only [Try.f4, startSt, tmFrom]
    simp (maxSteps := 4000000) only [go_sem, AV.one, drawV, intsOf, keyIdx, over, putO, memAt, List.map_cons, List.length_cons, ↓reduceIte, snap_trues, imm_trues, enc_pair, enc_iterv, zdrop, one_i, one_b, one_sl, one_ptr, one_ref, one_nilp, one_mp, one_fn, one_nilf, c1, c2, e1, e2]
    all_goals (repeat' (first | with_reducible rfl | with_reducible apply And.intro | ((with_reducible show drawOK _ = true); rfl))) <;> (try first | omega | (simp only [InR]; omega) | with_reducible assumption)
  have hv := fault_ok c2
  cases c3 : inB row 0 (t.levels.length - 1)
  · have e1 : rchQ t row = (⟨0, 0⟩, 2) := by unfold rchQ; rw [c3, askErr_out c2, if_neg (by decide)]
    by_cases c4 : truthsL t = []
    · have e2 := sureQ_dry c2 c4
      simp only [enc_fnl, enc_fnb, enc_fnc, enc_refc, enc_arr, enc_int, enc_bool, enc_list, enc_rg, enc_mk, enc_tb]
      refine callP_of_vc (Φ := P50) Try.func4 rfl (by rfl) (by rw [Try.ntmps4]; simp) mixed P50_ok (by simp [AV.strip, Tk.strip]) ?_
      rw [Try.ntmps4]
      simp only [Try.f4, startSt, tmFrom]
      simp (maxSteps := 4000000) only [go_sem, AV.one, drawV, intsOf, keyIdx, over, putO, memAt, List.map_cons, List.length_cons, ↓reduceIte, snap_trues, imm_trues, enc_pair, enc_iterv, zdrop, one_i, one_b, one_sl, one_ptr, one_ref, one_nilp, one_mp, one_fn, one_nilf, c1, c2, c3, e1, e2]
      all_goals (repeat' (first | with_reducible rfl | with_reducible apply And.intro | ((with_reducible show drawOK _ = true); rfl))) <;> (try first | omega | (simp only [InR]; omega) | with_reducible assumption)
    · have e2 := sureQ_ok c2 c4
      simp only [enc_fnl, enc_fnb, enc_fnc, enc_refc, enc_arr, enc_int, enc_bool, enc_list, enc_rg, enc_mk, enc_tb]
      refine callP_of_vc (Φ := P50) Try.func4 rfl (by rfl) (by rw [Try.ntmps4]; simp) mixed P50_ok (by simp [AV.strip, Tk.strip]) ?_
      rw [Try.ntmps4]
      simp only [Try.f4, startSt, tmFrom]
      simp (maxSteps := 4000000) only [go_sem, AV.one, drawV, intsOf, keyIdx, over, putO, memAt, List.map_cons, List.length_cons, ↓reduceIte, snap_trues, imm_trues, enc_pair, enc_iterv, zdrop, one_i, one_b, one_sl, one_ptr, one_ref, one_nilp, one_mp, one_fn, one_nilf, c1, c2, c3, e1, e2]
      all_goals (repeat' (first | with_reducible rfl | with_reducible apply And.intro | ((with_reducible show drawOK _ = true); rfl))) <;> (try first | omega | (simp only [InR]; omega) | with_reducible assumption)
  by_cases c4 : truthsL t = []
  · have e1 : rchQ t row = (⟨0, 0⟩, 11) := by unfold rchQ; rw [c3, askErr_dry c2 c4, if_neg (by decide)]
    have e2 := sureQ_dry c2 c4
    simp only [enc_fnl, enc_fnb, enc_fnc, enc_refc, enc_arr, enc_int, enc_bool, enc_list, enc_rg, enc_mk, enc_tb]
    refine callP_of_vc (Φ := P50) Try.func4 rfl (by rfl) (by rw [Try.ntmps4]; simp) mixed P50_ok (by simp [AV.strip, Tk.strip]) ?_
    rw [Try.ntmps4]
    simp only [Try.f4, startSt, tmFrom]
    simp (maxSteps := 4000000) only [go_sem, AV.one, drawV, intsOf, keyIdx, over, putO, memAt, List.map_cons, List.length_cons, ↓reduceIte, snap_trues, imm_trues, enc_pair, enc_iterv, zdrop, one_i, one_b, one_sl, one_ptr, one_ref, one_nilp, one_mp, one_fn, one_nilf, c1, c2, c3, e1, e2]
    all_goals (repeat' (first | with_reducible rfl | with_reducible apply And.intro | ((with_reducible show drawOK _ = true); rfl))) <;> (try first | omega | (simp only [InR]; omega) | with_reducible assumption)
  have e1 : rchQ t row = (reachL (truthsL t) (at_ t.levels row.toNat), 0) := by unfold rchQ; rw [c3, askErr_ok c2 c4, if_pos rfl]
  have e2 := sureQ_ok c2 c4
  obtain ⟨h4, h5⟩ := truths_facts c2
  obtain ⟨h6, h7, h8⟩ := row_facts c3
  simp only [enc_fnl, enc_fnb, enc_fnc, enc_refc, enc_arr, enc_int, enc_bool, enc_list, enc_rg, enc_mk, enc_tb]
  refine callP_of_vc (Φ := P50) Try.func4 rfl (by rfl) (by rw [Try.ntmps4]; simp) mixed P50_ok (by simp [AV.strip, Tk.strip]) ?_
  rw [Try.ntmps4]
  simp only [Try.f4, startSt, tmFrom]
  simp (maxSteps := 4000000) only [go_sem, AV.one, drawV, intsOf, keyIdx, over, putO, memAt, List.map_cons, List.length_cons, ↓reduceIte, snap_trues, imm_trues, enc_pair, enc_iterv, zdrop, one_i, one_b, one_sl, one_ptr, one_ref, one_nilp, one_mp, one_fn, one_nilf, c1, c2, c3, e1, e2, h8]
  all_goals (repeat' (first | with_reducible rfl | with_reducible apply And.intro | ((with_reducible show drawOK _ = true); rfl))) <;> (try first | omega | (simp only [InR]; omega) | with_reducible assumption)
  exact fun l hl => (h5 l hl).2
end Go.Proofs
