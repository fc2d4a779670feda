/- The law ShelterShows. -/
import Derived.Test.YtcbicheohgdlmaaGreatG15
set_option linter.all false
namespace Go.Proofs
open Go.Fs
set_option linter.unusedSimpArgs false
set_option linter.unusedVariables false
set_option maxHeartbeats 4000000
set_option maxRecDepth 8000
theorem show_good {s : Sh} (hs : ShOk s) : showQ s = ⟨showS s, mostS s, 0⟩ := by unfold showQ; rw [if_neg (by rw [ok_fault hs]; simp)]
theorem show_bad {s : Sh} (h : faultS s ≠ 0) : showQ s = ⟨[], 0, faultS s⟩ := by unfold showQ; rw [if_pos h]
theorem pbound_bad {s : Sh} (p : List Sp) (m : Int) (h : faultS s ≠ 0) : proveBoundB s p m = false := by unfold proveBoundB; rw [decide_eq_false h]; rfl
theorem pbound_good {s : Sh} (hs : ShOk s) {p : List Sp} (h : proofB p = true) (m : Int) : proveBoundB s p m = decide (boundL s p ≤ m) := by unfold proveBoundB; rw [decide_eq_true (ok_fault hs), h]; rfl
theorem ShelterShows_true (s : Sh) (p : List Sp) (m : Int) : CallP Tryz.prog 3 [Enc.enc s, Enc.enc p, Enc.enc m] (· = Enc.enc true) := by
  cases c1 : thinB s
  · simp only [enc_fnl, enc_fnb, enc_fnc, enc_refc, enc_arr, enc_int, enc_bool, enc_list, enc_sk, enc_sp, enc_rg, enc_sh, enc_tr, enc_refs, enc_fns, enc_wks]
    refine callP_of_vc (Φ := P51) Tryz.func3 rfl (by rfl) (by rw [Tryz.ntmps3]; simp) mixed P51_ok (by simp [AV.strip, AV.strip1, Tk.strip]) ?_
    rw [Tryz.ntmps3]
    simp only [Tryz.f3, startSt, tmFrom]
    simp (maxSteps := 4000000) only [go_sem, AV.one, drawV, intsOf, keyIdx, over, putO, memAt, List.map_cons, List.length_cons, ↓reduceIte, zdrop, one_i, one_b, one_sl, one_ptr, one_ref, one_nilp, one_mp, one_fn, one_nilf, dep_uk, c1]
    all_goals (repeat' (first | with_reducible rfl | with_reducible apply And.intro | ((with_reducible show drawOK _ _ = true); rfl))) <;> (try first | omega | (simp only [InR]; omega) | with_reducible assumption)
  have hl := thin_len c1
  by_cases c0 : (12 : Int) < p.length
  · simp only [enc_fnl, enc_fnb, enc_fnc, enc_refc, enc_arr, enc_int, enc_bool, enc_list, enc_sk, enc_sp, enc_rg, enc_sh, enc_tr, enc_refs, enc_fns, enc_wks]
    refine callP_of_vc (Φ := P51) Tryz.func3 rfl (by rfl) (by rw [Tryz.ntmps3]; simp) mixed P51_ok (by simp [AV.strip, AV.strip1, Tk.strip]) ?_
    rw [Tryz.ntmps3]
    simp only [Tryz.f3, startSt, tmFrom]
    simp (maxSteps := 4000000) only [go_sem, AV.one, drawV, intsOf, keyIdx, over, putO, memAt, List.map_cons, List.length_cons, ↓reduceIte, zdrop, one_i, one_b, one_sl, one_ptr, one_ref, one_nilp, one_mp, one_fn, one_nilf, dep_uk, c1, c0]
    all_goals (repeat' (first | with_reducible rfl | with_reducible apply And.intro | ((with_reducible show drawOK _ _ = true); rfl))) <;> (try first | omega | (simp only [InR]; omega) | with_reducible assumption)
  have hl2 : p.length ≤ 12 := by omega
  by_cases c2 : faultS s = 0
  case neg =>
    have e1 := show_bad c2
    have e2 := pbound_bad p m c2
    simp only [enc_fnl, enc_fnb, enc_fnc, enc_refc, enc_arr, enc_int, enc_bool, enc_list, enc_sk, enc_sp, enc_rg, enc_sh, enc_tr, enc_refs, enc_fns, enc_wks]
    refine callP_of_vc (Φ := P51) Tryz.func3 rfl (by rfl) (by rw [Tryz.ntmps3]; simp) mixed P51_ok (by simp [AV.strip, AV.strip1, Tk.strip]) ?_
    rw [Tryz.ntmps3]
    simp only [Tryz.f3, startSt, tmFrom]
    simp (maxSteps := 4000000) only [go_sem, AV.one, drawV, intsOf, keyIdx, over, putO, memAt, List.map_cons, List.length_cons, ↓reduceIte, zdrop, one_i, one_b, one_sl, one_ptr, one_ref, one_nilp, one_mp, one_fn, one_nilf, dep_uk, c1, c0, c2, e1, e2, Bool.true_bne, Bool.false_bne]
    all_goals (repeat' (first | with_reducible rfl | with_reducible apply And.intro | ((with_reducible show drawOK _ _ = true); rfl))) <;> (try first | omega | (simp only [InR]; omega) | with_reducible assumption)
  have hs := fault_ok c2
  have e1 := show_good hs
  have q1 := show_proof hs
  have q2 := show_bound hs
  have q3 : (showS s).length ≤ 9 := by unfold showS; rw [List.length_map]; exact num_len hs
  obtain ⟨Q, hQ⟩ : ∃ Q, showS s = Q := ⟨_, rfl⟩
  rw [hQ] at e1 q1 q2 q3
  have q4 := proof_sps q1 (by omega)
  have q5 : (Q.length : Int) ≤ 99 := by omega
  cases c3 : proofB p
  · have e2 : proveBoundB s p m = false := by unfold proveBoundB; rw [c3, Bool.and_false]; rfl
    simp only [enc_fnl, enc_fnb, enc_fnc, enc_refc, enc_arr, enc_int, enc_bool, enc_list, enc_sk, enc_sp, enc_rg, enc_sh, enc_tr, enc_refs, enc_fns, enc_wks]
    refine callP_of_vc (Φ := P51) Tryz.func3 rfl (by rfl) (by rw [Tryz.ntmps3]; simp) mixed P51_ok (by simp [AV.strip, AV.strip1, Tk.strip]) ?_
    rw [Tryz.ntmps3]
    simp only [Tryz.f3, startSt, tmFrom]
    simp (maxSteps := 4000000) only [go_sem, AV.one, drawV, intsOf, keyIdx, over, putO, memAt, List.map_cons, List.length_cons, ↓reduceIte, zdrop, one_i, one_b, one_sl, one_ptr, one_ref, one_nilp, one_mp, one_fn, one_nilf, dep_uk, c1, c0, c2, e1, e2, c3, q1, q2, q5, Bool.true_bne, Bool.false_bne]
    all_goals (repeat' (first | with_reducible rfl | with_reducible apply And.intro | ((with_reducible show drawOK _ _ = true); rfl))) <;> (try first | omega | (simp only [InR]; omega) | with_reducible assumption)
  · have e2 := pbound_good hs c3 m
    have hps := proof_sps c3 (by omega)
    cases c4 : decide (boundL s p ≤ m)
    all_goals
      rw [c4] at e2
      simp only [enc_fnl, enc_fnb, enc_fnc, enc_refc, enc_arr, enc_int, enc_bool, enc_list, enc_sk, enc_sp, enc_rg, enc_sh, enc_tr, enc_refs, enc_fns, enc_wks]
      refine callP_of_vc (Φ := P51) Tryz.func3 rfl (by rfl) (by rw [Tryz.ntmps3]; simp) mixed P51_ok (by simp [AV.strip, AV.strip1, Tk.strip]) ?_
      rw [Tryz.ntmps3]
      simp only [Tryz.f3, startSt, tmFrom]
      simp (maxSteps := 4000000) only [go_sem, AV.one, drawV, intsOf, keyIdx, over, putO, memAt, List.map_cons, List.length_cons, ↓reduceIte, zdrop, one_i, one_b, one_sl, one_ptr, one_ref, one_nilp, one_mp, one_fn, one_nilf, dep_uk, c1, c0, c2, e1, e2, c3, c4, q1, q2, q5, Bool.true_bne, Bool.false_bne]
      all_goals (repeat' (first | with_reducible rfl | with_reducible apply And.intro | ((with_reducible show drawOK _ _ = true); rfl))) <;> (try first | omega | (simp only [InR]; omega) | with_reducible assumption)
end Go.Proofs
