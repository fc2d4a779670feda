/- The law ShelterBest. -/
import Derived.Test.YtcbicheohgdlmaaG14
set_option linter.all false
namespace Go.Proofs
open Go.Fs
set_option linter.unusedSimpArgs false
set_option linter.unusedVariables false
set_option maxHeartbeats 4000000
set_option maxRecDepth 8000

theorem ShelterBest_true (s : Sh) : CallP Try.prog 5 [Enc.enc s] (· = Enc.enc true) := by
  cases c1 : thinB s
  · simp only [enc_fnl, enc_fnb, enc_fnc, enc_refc, enc_arr, enc_int, enc_bool, enc_list, enc_sk, enc_sp, enc_rg, enc_sh, enc_tr, enc_refs, enc_fns, enc_wks]
    refine callP_of_vc (Φ := P49) Try.func5 rfl (by rfl) (by rw [Try.ntmps5]; simp) mixed P49_ok (by simp [AV.strip, AV.strip1, Tk.strip]) ?_
    rw [Try.ntmps5]
    simp only [Try.f5, startSt, tmFrom]
    simp (maxSteps := 4000000) only [go_sem, AV.one, drawV, intsOf, keyIdx, over, putO, memAt, List.map_cons, List.length_cons, ↓reduceIte, zdrop, one_i, one_b, one_sl, one_ptr, one_ref, one_nilp, one_mp, one_fn, one_nilf, dep_uk, c1]
    all_goals (repeat' (first | with_reducible rfl | with_reducible apply And.intro | ((with_reducible show drawOK _ = true); rfl))) <;> (try first | omega | (simp only [InR]; omega) | with_reducible assumption)
  have hl := thin_len c1
  by_cases c2 : faultS s = 0
  case neg =>
    have e1 := best_bad c2
    simp only [enc_fnl, enc_fnb, enc_fnc, enc_refc, enc_arr, enc_int, enc_bool, enc_list, enc_sk, enc_sp, enc_rg, enc_sh, enc_tr, enc_refs, enc_fns, enc_wks]
    refine callP_of_vc (Φ := P49) Try.func5 rfl (by rfl) (by rw [Try.ntmps5]; simp) mixed P49_ok (by simp [AV.strip, AV.strip1, Tk.strip]) ?_
    rw [Try.ntmps5]
    simp only [Try.f5, startSt, tmFrom]
    simp (maxSteps := 4000000) only [go_sem, AV.one, drawV, intsOf, keyIdx, over, putO, memAt, List.map_cons, List.length_cons, ↓reduceIte, zdrop, one_i, one_b, one_sl, one_ptr, one_ref, one_nilp, one_mp, one_fn, one_nilf, dep_uk, c1, c2, e1, Bool.true_bne, Bool.false_bne]
    all_goals (repeat' (first | with_reducible rfl | with_reducible apply And.intro | ((with_reducible show drawOK _ = true); rfl))) <;> (try first | omega | (simp only [InR]; omega) | with_reducible assumption)
  have hs := fault_ok c2
  have e1 := best_good hs
  have e2 := best_plan hs
  have hbl := best_len s
  obtain ⟨p1, p2⟩ := plan_ge e2
  have e4 := sure_eq hs p1 (fun x hx => (p2 x hx).1)
  rw [sure_best hs] at e4
  simp only [enc_fnl, enc_fnb, enc_fnc, enc_refc, enc_arr, enc_int, enc_bool, enc_list, enc_sk, enc_sp, enc_rg, enc_sh, enc_tr, enc_refs, enc_fns, enc_wks]
  refine callP_of_vc (Φ := P49) Try.func5 rfl (by rfl) (by rw [Try.ntmps5]; simp) mixed P49_ok (by simp [AV.strip, AV.strip1, Tk.strip]) ?_
  rw [Try.ntmps5]
  simp only [Try.f5, startSt, tmFrom]
  simp (maxSteps := 4000000) only [go_sem, AV.one, drawV, intsOf, keyIdx, over, putO, memAt, List.map_cons, List.length_cons, ↓reduceIte, zdrop, one_i, one_b, one_sl, one_ptr, one_ref, one_nilp, one_mp, one_fn, one_nilf, dep_uk, c1, c2, e1, e2, e4, hbl, Bool.true_bne, Bool.false_bne]
  all_goals (repeat' (first | with_reducible rfl | with_reducible apply And.intro | ((with_reducible show drawOK _ = true); rfl))) <;> (try first | omega | (simp only [InR]; omega) | with_reducible assumption)
end Go.Proofs
