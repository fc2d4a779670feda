/- The law ShelterRains. -/
import Derived.Test.YtcbicheohgdlmaaCM6
set_option linter.all false
namespace Go.Proofs
open Go.Fs
set_option linter.unusedSimpArgs false
set_option linter.unusedVariables false
set_option maxHeartbeats 4000000
set_option maxRecDepth 8000

theorem ShelterRains_true (s : Sh) (ws : List (Uk .u16)) (hour : Int) (hws : WsOk ws) (hho : InR .u8 hour) : CallP Try.prog 10 [Enc.enc s, Enc.enc ws, AV.int .u8 hour] (· = Enc.enc true) := by
  cases c1 : thinB s
  · simp only [enc_fnl, enc_fnb, enc_fnc, enc_refc, enc_arr, enc_int, enc_bool, enc_list, enc_sk, enc_sp, enc_rg, enc_sh, enc_tr, enc_refs, enc_fns, enc_wks]
    refine callP_of_vc (Φ := P49) Try.func10 rfl (by rfl) (by rw [Try.ntmps10]; simp) mixed P49_ok (by simp [AV.strip, AV.strip1, Tk.strip]) ?_
    rw [Try.ntmps10]
    simp only [Try.f10, startSt, tmFrom]
    simp (maxSteps := 4000000) only [go_sem, AV.one, drawV, intsOf, keyIdx, over, putO, memAt, List.map_cons, List.length_cons, ↓reduceIte, zdrop, one_i, one_b, one_sl, one_ptr, one_ref, one_nilp, one_mp, one_fn, one_nilf, dep_uk, c1]
    all_goals (repeat' (first | with_reducible rfl | with_reducible apply And.intro | ((with_reducible show drawOK _ = true); rfl))) <;> (try first | omega | (simp only [InR]; omega) | with_reducible assumption)
  have hl := thin_len c1
  cases c2' : decide (faultS s = 0)
  · simp only [enc_fnl, enc_fnb, enc_fnc, enc_refc, enc_arr, enc_int, enc_bool, enc_list, enc_sk, enc_sp, enc_rg, enc_sh, enc_tr, enc_refs, enc_fns, enc_wks]
    refine callP_of_vc (Φ := P49) Try.func10 rfl (by rfl) (by rw [Try.ntmps10]; simp) mixed P49_ok (by simp [AV.strip, AV.strip1, Tk.strip]) ?_
    rw [Try.ntmps10]
    simp only [Try.f10, startSt, tmFrom]
    simp (maxSteps := 4000000) only [go_sem, AV.one, drawV, intsOf, keyIdx, over, putO, memAt, List.map_cons, List.length_cons, ↓reduceIte, zdrop, one_i, one_b, one_sl, one_ptr, one_ref, one_nilp, one_mp, one_fn, one_nilf, dep_uk, c1, c2']
    all_goals (repeat' (first | with_reducible rfl | with_reducible apply And.intro | ((with_reducible show drawOK _ = true); rfl))) <;> (try first | omega | (simp only [InR]; omega) | with_reducible assumption)
  have c2 : faultS s = 0 := by simpa using c2'
  have hs := fault_ok c2
  have h8 := hs.len
  have hr := hs.r
  unfold InR at hho
  have hpl := planW_plan hs hws
  have hplen := planW_len s ws s.stacks.length
  obtain ⟨p, hp⟩ : ∃ p, planW s ws s.stacks.length = p := ⟨_, rfl⟩
  rw [hp] at hpl hplen
  obtain ⟨h, hh⟩ : ∃ h, s.rain.lo + hour % (s.rain.hi - s.rain.lo + 1) = h := ⟨_, rfl⟩
  have hm1 := Int.emod_nonneg hour (show s.rain.hi - s.rain.lo + 1 ≠ 0 by omega)
  have hm2 := Int.emod_lt_of_pos hour (show 0 < s.rain.hi - s.rain.lo + 1 by omega)
  have hin : inB h s.rain.lo s.rain.hi = true := (inB_iff _ _ _).2 ⟨by omega, by omega⟩
  have e1 := sure_good hs hpl
  have e2 : leftQ s p h = ⟨restS s p h, closedN s p h, 0⟩ := left_good hs hpl hin
  have hx := rest_ok hs hplen h
  have e3 := best_good hx
  have hxl := rest_len s p h
  have hrain := rains hs hpl (h := h) (by omega)
  have hcb := closedN_bd hs hplen h
  have hm0 := most_nonneg hx
  have hml := most_le hx
  have d1 : decide (0 ≤ closedN s p h) = true := by simpa using hcb.1
  have d2 : decide (0 ≤ mostS (restS s p h)) = true := by simpa using hm0
  have d3 : decide (sureS s p ≤ closedN s p h + mostS (restS s p h)) = true := by simpa using hrain
  obtain ⟨X, hX⟩ : ∃ X, restS s p h = X := ⟨_, rfl⟩
  obtain ⟨B, hB⟩ : ∃ B, bestS X = B := ⟨_, rfl⟩
  obtain ⟨C, hC⟩ : ∃ C, closedN s p h = C := ⟨_, rfl⟩
  rw [hX] at e2 e3 hxl hx hm0 hml d2 d3
  rw [hB] at e3
  rw [hC] at e2 d1 d3 hcb
  simp only [enc_fnl, enc_fnb, enc_fnc, enc_refc, enc_arr, enc_int, enc_bool, enc_list, enc_sk, enc_sp, enc_rg, enc_sh, enc_tr, enc_refs, enc_fns, enc_wks]
  refine callP_of_vc (Φ := P49) Try.func10 rfl (by rfl) (by rw [Try.ntmps10]; simp) mixed P49_ok (by simp [AV.strip, AV.strip1, Tk.strip]) ?_
  rw [Try.ntmps10]
  simp only [Try.f10, startSt, tmFrom]
  simp (maxSteps := 4000000) only [go_sem, AV.one, drawV, intsOf, keyIdx, over, putO, memAt, List.map_cons, List.length_cons, ↓reduceIte, zdrop, one_i, one_b, one_sl, one_ptr, one_ref, one_nilp, one_mp, one_fn, one_nilf, dep_uk, c1, c2', hp, hh, e1, e2, e3, hxl, d1, d2, d3, Bool.true_bne, Bool.false_bne, bne_self_eq_false]
  all_goals (repeat' (first | with_reducible rfl | with_reducible apply And.intro | ((with_reducible show drawOK _ = true); rfl))) <;> (try first | omega | (simp only [InR]; omega) | with_reducible assumption)
end Go.Proofs
