/- The law ShelterHands. -/
import Derived.Test.YtcbicheohgdlmaaGreatG15
set_option linter.all false
namespace Go.Proofs
open Go.Fs
set_option linter.unusedSimpArgs false
set_option linter.unusedVariables false
set_option maxHeartbeats 4000000
set_option maxRecDepth 8000
theorem ShelterHands_true (s : Sh) (i : Int) : CallP Tryz.prog 6 [Enc.enc s, Enc.enc i] (· = Enc.enc true) := by
  cases c1 : thinB s
  · simp only [enc_fnl, enc_fnb, enc_fnc, enc_refc, enc_arr, enc_int, enc_bool, enc_list, enc_sk, enc_sp, enc_rg, enc_sh, enc_tr, enc_refs, enc_fns, enc_wks]
    refine callP_of_vc (Φ := P52) Tryz.func6 rfl (by rfl) (by rw [Tryz.ntmps6]; simp) mixed P52_ok (by simp [AV.strip, AV.strip1, Tk.strip]) ?_
    rw [Tryz.ntmps6]
    simp only [Tryz.f6, startSt, tmFrom]
    simp (maxSteps := 4000000) only [go_sem, AV.one, drawV, intsOf, keyIdx, over, putO, memAt, List.map_cons, List.length_cons, ↓reduceIte, zdrop, one_i, one_b, one_sl, one_ptr, one_ref, one_nilp, one_mp, one_fn, one_nilf, dep_uk, c1]
    all_goals (repeat' (first | with_reducible rfl | with_reducible apply And.intro | ((with_reducible show drawOK _ _ = true); rfl))) <;> (try first | omega | (simp only [InR]; omega) | with_reducible assumption)
  have hl := thin_len c1
  by_cases c2 : faultS s = 0
  case neg =>
    have e1 : handsQ s = (0, faultS s) := by unfold handsQ; rw [if_pos c2]
    have e2 : lostQ s = ([], faultS s) := by unfold lostQ; rw [if_pos c2]
    have e3 : worthQ s i = (0, faultS s) := by unfold worthQ; rw [if_pos c2]
    simp only [enc_fnl, enc_fnb, enc_fnc, enc_refc, enc_arr, enc_int, enc_bool, enc_list, enc_sk, enc_sp, enc_rg, enc_sh, enc_tr, enc_refs, enc_fns, enc_wks]
    refine callP_of_vc (Φ := P52) Tryz.func6 rfl (by rfl) (by rw [Tryz.ntmps6]; simp) mixed P52_ok (by simp [AV.strip, AV.strip1, Tk.strip]) ?_
    rw [Tryz.ntmps6]
    simp only [Tryz.f6, startSt, tmFrom]
    simp (maxSteps := 4000000) only [go_sem, AV.one, drawV, intsOf, keyIdx, over, putO, memAt, List.map_cons, List.length_cons, ↓reduceIte, zdrop, one_i, one_b, one_sl, one_ptr, one_ref, one_nilp, one_mp, one_fn, one_nilf, dep_uk, c1, c2, e1, e2, e3, Bool.true_bne, Bool.false_bne]
    all_goals (repeat' (first | with_reducible rfl | with_reducible apply And.intro | ((with_reducible show drawOK _ _ = true); rfl))) <;> (try first | omega | (simp only [InR]; omega) | with_reducible assumption)
  have hs := fault_ok c2
  have h8 := hs.len
  obtain ⟨r1, r2⟩ := handsR_eq hs 4 0 (by omega)
  obtain ⟨R, hR⟩ : ∃ R, handsR s 4 0 = R := ⟨_, rfl⟩
  rw [hR] at r1 r2
  have e1 : handsQ s = if R < 0 then (0, 10) else (R, 0) := by unfold handsQ; rw [if_neg (by simpa using c2), r2]
  obtain ⟨L, hL⟩ : ∃ L, lostN s s.stacks.length = L := ⟨_, rfl⟩
  have hLl : L.length ≤ s.stacks.length := by rw [← hL]; exact lostN_len _ _
  have e2 : lostQ s = (L, 0) := by unfold lostQ; rw [if_neg (by simpa using c2), hL]
  have hLL : decide (L = L) = true := by simp
  have m1 := most_nonneg hs
  have m2 := most_le hs
  have hn10 : ((10 : Int) = 0) = False := by simp
  cases c3 : inB i 0 ((s.stacks.length : Int) - 1)
  · have e3 : worthQ s i = (0, 2) := by unfold worthQ; rw [if_neg (by simpa using c2), c3]; rfl
    by_cases c5 : R < 0
    · rw [if_pos c5] at e1
      have c6 : decide (R ≥ 0) = false := decide_eq_false (by omega)
      simp only [enc_fnl, enc_fnb, enc_fnc, enc_refc, enc_arr, enc_int, enc_bool, enc_list, enc_sk, enc_sp, enc_rg, enc_sh, enc_tr, enc_refs, enc_fns, enc_wks]
      refine callP_of_vc (Φ := P52) Tryz.func6 rfl (by rfl) (by rw [Tryz.ntmps6]; simp) mixed P52_ok (by simp [AV.strip, AV.strip1, Tk.strip]) ?_
      rw [Tryz.ntmps6]
      simp only [Tryz.f6, startSt, tmFrom]
      simp (maxSteps := 4000000) only [go_sem, AV.one, drawV, intsOf, keyIdx, over, putO, memAt, List.map_cons, List.length_cons, ↓reduceIte, zdrop, one_i, one_b, one_sl, one_ptr, one_ref, one_nilp, one_mp, one_fn, one_nilf, dep_uk, c1, c2, c3, hR, hL, hLL, c5, c6, e1, e2, e3, Bool.true_bne, Bool.false_bne]
      all_goals (repeat' (first | with_reducible rfl | with_reducible apply And.intro | ((with_reducible show drawOK _ _ = true); rfl))) <;> (try first | omega | (simp only [InR]; omega) | with_reducible assumption)
    · rw [if_neg c5] at e1
      have c6 : decide (R ≥ 0) = true := decide_eq_true (by omega)
      simp only [enc_fnl, enc_fnb, enc_fnc, enc_refc, enc_arr, enc_int, enc_bool, enc_list, enc_sk, enc_sp, enc_rg, enc_sh, enc_tr, enc_refs, enc_fns, enc_wks]
      refine callP_of_vc (Φ := P52) Tryz.func6 rfl (by rfl) (by rw [Tryz.ntmps6]; simp) mixed P52_ok (by simp [AV.strip, AV.strip1, Tk.strip]) ?_
      rw [Tryz.ntmps6]
      simp only [Tryz.f6, startSt, tmFrom]
      simp (maxSteps := 4000000) only [go_sem, AV.one, drawV, intsOf, keyIdx, over, putO, memAt, List.map_cons, List.length_cons, ↓reduceIte, zdrop, one_i, one_b, one_sl, one_ptr, one_ref, one_nilp, one_mp, one_fn, one_nilf, dep_uk, c1, c2, c3, hR, hL, hLL, c5, c6, e1, e2, e3, Bool.true_bne, Bool.false_bne]
      all_goals (repeat' (first | with_reducible rfl | with_reducible apply And.intro | ((with_reducible show drawOK _ _ = true); rfl))) <;> (try first | omega | (simp only [InR]; omega) | with_reducible assumption)
  · have hi := (inB_iff _ _ _).1 c3
    have hix : idxOk s i := by unfold idxOk; omega
    have hwo := without_ok hs (l := [i]) (fun x hx => by simp at hx; rw [hx]; exact hix)
    have m3 := most_nonneg hwo
    have m4 := most_le hwo
    have e3 : worthQ s i = (mostS s - mostS (withoutS s [i]), 0) := by unfold worthQ; rw [if_neg (by simpa using c2), if_pos c3]
    obtain ⟨X, hX⟩ : ∃ X, withoutS s [i] = X := ⟨_, rfl⟩
    rw [hX] at hwo m3 m4 e3
    by_cases c5 : R < 0
    · rw [if_pos c5] at e1
      have c6 : decide (R ≥ 0) = false := decide_eq_false (by omega)
      simp only [enc_fnl, enc_fnb, enc_fnc, enc_refc, enc_arr, enc_int, enc_bool, enc_list, enc_sk, enc_sp, enc_rg, enc_sh, enc_tr, enc_refs, enc_fns, enc_wks]
      refine callP_of_vc (Φ := P52) Tryz.func6 rfl (by rfl) (by rw [Tryz.ntmps6]; simp) mixed P52_ok (by simp [AV.strip, AV.strip1, Tk.strip]) ?_
      rw [Tryz.ntmps6]
      simp only [Tryz.f6, startSt, tmFrom]
      simp (maxSteps := 4000000) only [go_sem, AV.one, drawV, intsOf, keyIdx, over, putO, memAt, List.map_cons, List.length_cons, ↓reduceIte, zdrop, one_i, one_b, one_sl, one_ptr, one_ref, one_nilp, one_mp, one_fn, one_nilf, dep_uk, c1, c2, c3, hR, hL, hLL, hX, c5, c6, e1, e2, e3, Bool.true_bne, Bool.false_bne]
      all_goals (repeat' (first | with_reducible rfl | with_reducible apply And.intro | ((with_reducible show drawOK _ _ = true); rfl))) <;> (try first | omega | (simp only [InR]; omega) | with_reducible assumption)
    · rw [if_neg c5] at e1
      have c6 : decide (R ≥ 0) = true := decide_eq_true (by omega)
      simp only [enc_fnl, enc_fnb, enc_fnc, enc_refc, enc_arr, enc_int, enc_bool, enc_list, enc_sk, enc_sp, enc_rg, enc_sh, enc_tr, enc_refs, enc_fns, enc_wks]
      refine callP_of_vc (Φ := P52) Tryz.func6 rfl (by rfl) (by rw [Tryz.ntmps6]; simp) mixed P52_ok (by simp [AV.strip, AV.strip1, Tk.strip]) ?_
      rw [Tryz.ntmps6]
      simp only [Tryz.f6, startSt, tmFrom]
      simp (maxSteps := 4000000) only [go_sem, AV.one, drawV, intsOf, keyIdx, over, putO, memAt, List.map_cons, List.length_cons, ↓reduceIte, zdrop, one_i, one_b, one_sl, one_ptr, one_ref, one_nilp, one_mp, one_fn, one_nilf, dep_uk, c1, c2, c3, hR, hL, hLL, hX, c5, c6, e1, e2, e3, Bool.true_bne, Bool.false_bne]
      all_goals (repeat' (first | with_reducible rfl | with_reducible apply And.intro | ((with_reducible show drawOK _ _ = true); rfl))) <;> (try first | omega | (simp only [InR]; omega) | with_reducible assumption)
end Go.Proofs
