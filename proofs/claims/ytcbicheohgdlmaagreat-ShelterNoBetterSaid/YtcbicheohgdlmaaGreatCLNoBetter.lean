/- The law ShelterNoBetter. -/
import Derived.Test.YtcbicheohgdlmaaGreatG15
set_option linter.all false
namespace Go.Proofs
open Go.Fs
set_option linter.unusedSimpArgs false
set_option linter.unusedVariables false
set_option maxHeartbeats 4000000
set_option maxRecDepth 8000
theorem ShelterNoBetter_true (s : Sh) (ws : List (Uk .u16)) (hw : WsOk ws) : CallP Tryz.prog 5 [Enc.enc s, Enc.enc ws] (· = Enc.enc true) := by
  cases c1 : thinB s
  · simp only [enc_fnl, enc_fnb, enc_fnc, enc_refc, enc_arr, enc_int, enc_bool, enc_list, enc_sk, enc_sp, enc_rg, enc_sh, enc_tr, enc_refs, enc_fns, enc_wks]
    refine callP_of_vc (Φ := P51) Tryz.func5 rfl (by rfl) (by rw [Tryz.ntmps5]; simp) mixed P51_ok (by simp [AV.strip, AV.strip1, Tk.strip]) ?_
    rw [Tryz.ntmps5]
    simp only [Tryz.f5, startSt, tmFrom]
    simp (maxSteps := 4000000) only [go_sem, AV.one, drawV, intsOf, keyIdx, over, putO, memAt, List.map_cons, List.length_cons, ↓reduceIte, zdrop, one_i, one_b, one_sl, one_ptr, one_ref, one_nilp, one_mp, one_fn, one_nilf, dep_uk, c1]
    all_goals (repeat' (first | with_reducible rfl | with_reducible apply And.intro | ((with_reducible show drawOK _ _ = true); rfl))) <;> (try first | omega | (simp only [InR]; omega) | with_reducible assumption)
  have hl := thin_len c1
  cases c2 : decide (faultS s = 0)
  · simp only [enc_fnl, enc_fnb, enc_fnc, enc_refc, enc_arr, enc_int, enc_bool, enc_list, enc_sk, enc_sp, enc_rg, enc_sh, enc_tr, enc_refs, enc_fns, enc_wks]
    refine callP_of_vc (Φ := P51) Tryz.func5 rfl (by rfl) (by rw [Tryz.ntmps5]; simp) mixed P51_ok (by simp [AV.strip, AV.strip1, Tk.strip]) ?_
    rw [Tryz.ntmps5]
    simp only [Tryz.f5, startSt, tmFrom]
    simp (maxSteps := 4000000) only [go_sem, AV.one, drawV, intsOf, keyIdx, over, putO, memAt, List.map_cons, List.length_cons, ↓reduceIte, zdrop, one_i, one_b, one_sl, one_ptr, one_ref, one_nilp, one_mp, one_fn, one_nilf, dep_uk, c1, c2]
    all_goals (repeat' (first | with_reducible rfl | with_reducible apply And.intro | ((with_reducible show drawOK _ _ = true); rfl))) <;> (try first | omega | (simp only [InR]; omega) | with_reducible assumption)
  have hf : faultS s = 0 := by simpa using c2
  have hs := fault_ok hf
  have h8 := hs.len
  have m1 := best_good hs
  have m2 := most_nonneg hs
  have m3 := most_le hs
  have hp := planW_plan hs hw
  obtain ⟨P, hP⟩ : ∃ P, planW s ws s.stacks.length = P := ⟨_, rfl⟩
  rw [hP] at hp
  have hpl := (plan_ge hp).1
  have e1 := sure_good hs hp
  have hle := sure_most hs hp
  have d1 : decide (sureS s P ≤ mostS s) = true := decide_eq_true hle
  have e2 : proveSureB s P (mostS s + 1) = false := by unfold proveSureB; rw [e1]; simp; omega
  have hq := proven_proof ws
  have hql : (provenS ws).length ≤ 4 := by unfold provenS; rw [provenN_len]; exact (manyW_bd ws).1.2
  obtain ⟨Q, hQ⟩ : ∃ Q, provenS ws = Q := ⟨_, rfl⟩
  rw [hQ] at hq hql
  have hqs := proof_sps hq (by omega)
  have hbl := most_le_bound hs hq
  have e3 : proveBoundB s Q (mostS s - 1) = false := by unfold proveBoundB; rw [decide_eq_true hf, hq]; simp; omega
  have d2 : decide (boundL s Q ≥ mostS s) = true := decide_eq_true hbl
  simp only [enc_fnl, enc_fnb, enc_fnc, enc_refc, enc_arr, enc_int, enc_bool, enc_list, enc_sk, enc_sp, enc_rg, enc_sh, enc_tr, enc_refs, enc_fns, enc_wks]
  refine callP_of_vc (Φ := P51) Tryz.func5 rfl (by rfl) (by rw [Tryz.ntmps5]; simp) mixed P51_ok (by simp [AV.strip, AV.strip1, Tk.strip]) ?_
  rw [Tryz.ntmps5]
  simp only [Tryz.f5, startSt, tmFrom]
  simp (maxSteps := 4000000) only [go_sem, AV.one, drawV, intsOf, keyIdx, over, putO, memAt, List.map_cons, List.length_cons, ↓reduceIte, zdrop, one_i, one_b, one_sl, one_ptr, one_ref, one_nilp, one_mp, one_fn, one_nilf, dep_uk, c1, c2, m1, hP, hQ, e1, d1, e2, e3, d2, Bool.true_bne, Bool.false_bne]
  all_goals (repeat' (first | with_reducible rfl | with_reducible apply And.intro | ((with_reducible show drawOK _ _ = true); rfl))) <;> (try first | omega | (simp only [InR]; omega) | with_reducible assumption)
end Go.Proofs
