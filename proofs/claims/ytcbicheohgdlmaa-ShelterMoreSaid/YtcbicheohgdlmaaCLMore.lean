/- The law ShelterMore. -/
import Derived.Test.YtcbicheohgdlmaaCM7
set_option linter.all false
namespace Go.Proofs
open Go.Fs
set_option linter.unusedSimpArgs false
set_option linter.unusedVariables false
set_option maxHeartbeats 4000000
set_option maxRecDepth 8000

def P4907 : Specs := vecT [20] P49
theorem P4907_app (g : FuncId) (h : ¬ (g = 4000000000)) : P4907 g = P49 g := by unfold P4907 vecT; rw [if_neg h]
theorem P4907_ok : SpecsOk Try.prog P4907 := vecT_ok P49_ok
theorem P4907_flag (d : Nat) : flagOf P4907 (some d) = if d ∈ ([20] : List Nat) then some d else none := flagOf_vecT _ _ d
attribute [go_sem] P4907_app P4907_flag
theorem ShelterMore_true (s : Sh) (x : Sk) (hb : s.stacks.length * 24 ≤ reachBytes) : CallP Try.prog 7 [Enc.enc s, Enc.enc x] (· = Enc.enc true) := by
  have hb' : s.stacks.length * 24 ≤ 140737488351232 := hb
  obtain ⟨w, hw⟩ : ∃ w, IntKind.wrap .i64 (s.hands + 1) = w := ⟨_, rfl⟩
  have hx : (⟨s.stacks ++ [x], s.hands, s.rain⟩ : Sh) = moreS s x := rfl
  cases c1 : thinB s
  · simp only [enc_fnl, enc_fnb, enc_fnc, enc_refc, enc_arr, enc_int, enc_bool, enc_list, enc_sk, enc_sp, enc_rg, enc_sh, enc_tr, enc_refs, enc_fns, enc_wks]
    refine callP_of_vc (Φ := P4907) Try.func7 rfl (by rfl) (by rw [Try.ntmps7]; simp) mixed P4907_ok (by simp [AV.strip, AV.strip1, Tk.strip]) ?_
    rw [Try.ntmps7]
    simp only [Try.f7, startSt, tmFrom]
    simp (maxSteps := 4000000) only [go_sem, AV.one, drawV, intsOf, keyIdx, over, putO, memAt, List.map_cons, List.length_cons, ↓reduceIte, zdrop, one_i, one_b, one_sl, one_ptr, one_ref, one_nilp, one_mp, one_fn, one_nilf, dep_uk, c1, hw]
    all_goals (repeat' (first | with_reducible rfl | with_reducible apply And.intro | ((with_reducible show drawOK _ _ = true); rfl))) <;> (try first | omega | (simp only [InR]; omega) | with_reducible assumption)
    all_goals simp [cs_sk, AV.one]
  have hl := thin_len c1
  cases c2 : decide (faultS s = 0)
  · simp only [enc_fnl, enc_fnb, enc_fnc, enc_refc, enc_arr, enc_int, enc_bool, enc_list, enc_sk, enc_sp, enc_rg, enc_sh, enc_tr, enc_refs, enc_fns, enc_wks]
    refine callP_of_vc (Φ := P4907) Try.func7 rfl (by rfl) (by rw [Try.ntmps7]; simp) mixed P4907_ok (by simp [AV.strip, AV.strip1, Tk.strip]) ?_
    rw [Try.ntmps7]
    simp only [Try.f7, startSt, tmFrom]
    simp (maxSteps := 4000000) only [go_sem, AV.one, drawV, intsOf, keyIdx, over, putO, memAt, List.map_cons, List.length_cons, ↓reduceIte, zdrop, one_i, one_b, one_sl, one_ptr, one_ref, one_nilp, one_mp, one_fn, one_nilf, dep_uk, c1, c2, hw]
    all_goals (repeat' (first | with_reducible rfl | with_reducible apply And.intro | ((with_reducible show drawOK _ _ = true); rfl))) <;> (try first | omega | (simp only [InR]; omega) | with_reducible assumption)
    all_goals simp [cs_sk, AV.one]
  have hf : faultS s = 0 := by simpa using c2
  have hs := fault_ok hf
  have h0 := hs.h0
  have h3 := hs.h3
  have hwe : w = s.hands + 1 := by rw [← hw]; exact wrap_in (by simp only [InR]; omega)
  cases c3 : thinB (moreS s x)
  · simp only [enc_fnl, enc_fnb, enc_fnc, enc_refc, enc_arr, enc_int, enc_bool, enc_list, enc_sk, enc_sp, enc_rg, enc_sh, enc_tr, enc_refs, enc_fns, enc_wks]
    refine callP_of_vc (Φ := P4907) Try.func7 rfl (by rfl) (by rw [Try.ntmps7]; simp) mixed P4907_ok (by simp [AV.strip, AV.strip1, Tk.strip]) ?_
    rw [Try.ntmps7]
    simp only [Try.f7, startSt, tmFrom]
    simp (maxSteps := 4000000) only [go_sem, AV.one, drawV, intsOf, keyIdx, over, putO, memAt, List.map_cons, List.length_cons, ↓reduceIte, zdrop, one_i, one_b, one_sl, one_ptr, one_ref, one_nilp, one_mp, one_fn, one_nilf, dep_uk, c1, c2, c3, hw, hx]
    all_goals (repeat' (first | with_reducible rfl | with_reducible apply And.intro | ((with_reducible show drawOK _ _ = true); rfl))) <;> (try first | omega | (simp only [InR]; omega) | with_reducible assumption)
    all_goals simp [cs_sk, AV.one]
  cases c4 : decide (faultS (moreS s x) = 0)
  · simp only [enc_fnl, enc_fnb, enc_fnc, enc_refc, enc_arr, enc_int, enc_bool, enc_list, enc_sk, enc_sp, enc_rg, enc_sh, enc_tr, enc_refs, enc_fns, enc_wks]
    refine callP_of_vc (Φ := P4907) Try.func7 rfl (by rfl) (by rw [Try.ntmps7]; simp) mixed P4907_ok (by simp [AV.strip, AV.strip1, Tk.strip]) ?_
    rw [Try.ntmps7]
    simp only [Try.f7, startSt, tmFrom]
    simp (maxSteps := 4000000) only [go_sem, AV.one, drawV, intsOf, keyIdx, over, putO, memAt, List.map_cons, List.length_cons, ↓reduceIte, zdrop, one_i, one_b, one_sl, one_ptr, one_ref, one_nilp, one_mp, one_fn, one_nilf, dep_uk, c1, c2, c3, c4, hw, hx]
    all_goals (repeat' (first | with_reducible rfl | with_reducible apply And.intro | ((with_reducible show drawOK _ _ = true); rfl))) <;> (try first | omega | (simp only [InR]; omega) | with_reducible assumption)
    all_goals simp [cs_sk, AV.one]
  have hX := fault_ok (show faultS (moreS s x) = 0 by simpa using c4)
  have hm := most_more hs hX
  have hy : (⟨s.stacks, min 3 w, s.rain⟩ : Sh) = ⟨s.stacks, min 3 (s.hands + 1), s.rain⟩ := by rw [hwe]
  have hY : ShOk ⟨s.stacks, min 3 w, s.rain⟩ := withH_ok hs (by omega) (by omega)
  have hmy : mostS s ≤ mostS ⟨s.stacks, min 3 w, s.rain⟩ := most_mono hs hY rfl (by show s.hands ≤ min 3 w; omega) (fun _ _ => Int.le_refl _) (fun _ _ => rfl)
  obtain ⟨Y, hYe⟩ : ∃ Y, (⟨s.stacks, min 3 w, s.rain⟩ : Sh) = Y := ⟨_, rfl⟩
  have hYl : Y.stacks.length = s.stacks.length := by rw [← hYe]
  rw [hYe] at hY hmy
  have m1 := best_good hs
  have m2 := best_good hX
  have m3 := best_good hY
  have b1 := most_le hs
  have b2 := most_nonneg hs
  have hch := (hX.st x (by simp [moreS])).1
  have d1 : decide (mostS s ≤ mostS (moreS s x)) = true := by simpa using hm.1
  have d2 : decide (mostS (moreS s x) ≤ mostS s + x.chairs) = true := by simpa using hm.2
  have d3 : decide (mostS s ≤ mostS Y) = true := by simpa using hmy
  obtain ⟨X, hXe⟩ : ∃ X, moreS s x = X := ⟨_, rfl⟩
  have hXl : X.stacks.length = s.stacks.length + 1 := by rw [← hXe]; simp [moreS]
  rw [hXe] at hx c3 c4 m2 d1 d2
  simp only [enc_fnl, enc_fnb, enc_fnc, enc_refc, enc_arr, enc_int, enc_bool, enc_list, enc_sk, enc_sp, enc_rg, enc_sh, enc_tr, enc_refs, enc_fns, enc_wks]
  refine callP_of_vc (Φ := P4907) Try.func7 rfl (by rfl) (by rw [Try.ntmps7]; simp) mixed P4907_ok (by simp [AV.strip, AV.strip1, Tk.strip]) ?_
  rw [Try.ntmps7]
  simp only [Try.f7, startSt, tmFrom]
  simp (maxSteps := 4000000) only [go_sem, AV.one, drawV, intsOf, keyIdx, over, putO, memAt, List.map_cons, List.length_cons, ↓reduceIte, zdrop, one_i, one_b, one_sl, one_ptr, one_ref, one_nilp, one_mp, one_fn, one_nilf, dep_uk, c1, c2, c3, c4, hw, hx, hYe, m1, m2, m3, d1, d2, d3, hXl, hYl, Bool.true_bne, Bool.false_bne]
  all_goals (repeat' (first | with_reducible rfl | with_reducible apply And.intro | ((with_reducible show drawOK _ _ = true); rfl))) <;> (try first | omega | (simp only [InR]; omega) | with_reducible assumption)
  all_goals simp [cs_sk, AV.one]
end Go.Proofs
