/- The law ShelterEnough. -/
import Derived.Test.YtcbicheohgdlmaaCM4
set_option linter.all false
namespace Go.Proofs
open Go.Fs
set_option linter.unusedSimpArgs false
set_option linter.unusedVariables false
set_option maxHeartbeats 4000000
set_option maxRecDepth 8000

def wH (s : Sh) (n : Int) : Sh := ⟨s.stacks, n, s.rain⟩
theorem wH_most {s : Sh} (hs : ShOk s) {n : Int} (h0 : 0 ≤ n) (h3 : n ≤ 3) : bestQ (wH s n) = ⟨bestS (wH s n), mostS (wH s n), 0⟩ := best_good (withH_ok hs h0 h3)
theorem wH_total (s : Sh) (n : Int) : totalS (wH s n) = totalS s := rfl
/-- The fewest hands: with them all is saved, with one hand less it is not. -/
theorem handsF_spec (s : Sh) : ∀ f n : Nat, (handsF s f n = (0, 10) ∧ ∀ k, n ≤ k → k < n + f → mostS (wH s k) < totalS s) ∨
    ∃ k : Nat, (n ≤ k ∧ k < n + f) ∧ handsF s f n = ((k : Int), 0) ∧ ¬ mostS (wH s k) < totalS s ∧ ∀ j, n ≤ j → j < k → mostS (wH s j) < totalS s
  | 0, n => .inl ⟨rfl, fun k h1 h2 => by omega⟩
  | f + 1, n => by
    have e : handsF s (f + 1) n = if mostS (wH s n) < totalS s then handsF s f (n + 1) else ((n : Int), 0) := rfl
    rw [e]
    by_cases c : mostS (wH s n) < totalS s
    · rw [if_pos c]
      rcases handsF_spec s f (n + 1) with ⟨h1, h2⟩ | ⟨k, h1, h2, h3, h4⟩
      · refine .inl ⟨h1, fun k g1 g2 => ?_⟩
        by_cases q : k = n
        · rw [q]; exact c
        · exact h2 k (by omega) (by omega)
      · refine .inr ⟨k, by omega, h2, h3, fun j g1 g2 => ?_⟩
        by_cases q : j = n
        · rw [q]; exact c
        · exact h4 j (by omega) g2
    · rw [if_neg c]
      exact .inr ⟨n, by omega, rfl, c, fun j g1 g2 => by omega⟩
theorem ShelterEnough_true (s : Sh) : CallP Try.prog 14 [Enc.enc s] (· = Enc.enc true) := by
  cases c1 : thinB s
  · simp only [enc_fnl, enc_fnb, enc_fnc, enc_refc, enc_arr, enc_int, enc_bool, enc_list, enc_sk, enc_sp, enc_rg, enc_sh, enc_tr, enc_refs, enc_fns, enc_wks]
    refine callP_of_vc (Φ := P49) Try.func14 rfl (by rfl) (by rw [Try.ntmps14]; simp) mixed P49_ok (by simp [AV.strip, AV.strip1, Tk.strip]) ?_
    rw [Try.ntmps14]
    simp only [Try.f14, startSt, tmFrom]
    simp (maxSteps := 4000000) only [go_sem, AV.one, drawV, intsOf, keyIdx, over, putO, memAt, List.map_cons, List.length_cons, ↓reduceIte, zdrop, one_i, one_b, one_sl, one_ptr, one_ref, one_nilp, one_mp, one_fn, one_nilf, dep_uk, c1]
    all_goals (repeat' (first | with_reducible rfl | with_reducible apply And.intro | ((with_reducible show drawOK _ = true); rfl))) <;> (try first | omega | (simp only [InR]; omega) | with_reducible assumption)
  have hl := thin_len c1
  cases c2 : decide (faultS s = 0)
  · simp only [enc_fnl, enc_fnb, enc_fnc, enc_refc, enc_arr, enc_int, enc_bool, enc_list, enc_sk, enc_sp, enc_rg, enc_sh, enc_tr, enc_refs, enc_fns, enc_wks]
    refine callP_of_vc (Φ := P49) Try.func14 rfl (by rfl) (by rw [Try.ntmps14]; simp) mixed P49_ok (by simp [AV.strip, AV.strip1, Tk.strip]) ?_
    rw [Try.ntmps14]
    simp only [Try.f14, startSt, tmFrom]
    simp (maxSteps := 4000000) only [go_sem, AV.one, drawV, intsOf, keyIdx, over, putO, memAt, List.map_cons, List.length_cons, ↓reduceIte, zdrop, one_i, one_b, one_sl, one_ptr, one_ref, one_nilp, one_mp, one_fn, one_nilf, dep_uk, c1, c2]
    all_goals (repeat' (first | with_reducible rfl | with_reducible apply And.intro | ((with_reducible show drawOK _ = true); rfl))) <;> (try first | omega | (simp only [InR]; omega) | with_reducible assumption)
  have hf : faultS s = 0 := by simpa using c2
  have hs := fault_ok hf
  have hw3 : (⟨s.stacks, 3, s.rain⟩ : Sh) = wH s 3 := rfl
  have hwl : ∀ n : Int, (wH s n).stacks.length = s.stacks.length := fun _ => rfl
  have hh : handsQ s = handsF s 4 0 := by unfold handsQ; rw [if_neg (by simp [hf])]
  have e3 := wH_most hs (n := 3) (by omega) (by omega)
  rcases handsF_spec s 4 0 with ⟨g1, g2⟩ | ⟨k, g1, g2, g3, g4⟩
  · rw [g1] at hh
    have h3 := g2 3 (by omega) (by omega)
    have h3' : decide (mostS (wH s 3) < totalS s) = true := by simpa using h3
    simp only [enc_fnl, enc_fnb, enc_fnc, enc_refc, enc_arr, enc_int, enc_bool, enc_list, enc_sk, enc_sp, enc_rg, enc_sh, enc_tr, enc_refs, enc_fns, enc_wks]
    refine callP_of_vc (Φ := P49) Try.func14 rfl (by rfl) (by rw [Try.ntmps14]; simp) mixed P49_ok (by simp [AV.strip, AV.strip1, Tk.strip]) ?_
    rw [Try.ntmps14]
    simp only [Try.f14, startSt, tmFrom]
    simp (maxSteps := 4000000) only [go_sem, AV.one, drawV, intsOf, keyIdx, over, putO, memAt, List.map_cons, List.length_cons, ↓reduceIte, zdrop, one_i, one_b, one_sl, one_ptr, one_ref, one_nilp, one_mp, one_fn, one_nilf, dep_uk, c1, c2, hh, hw3, hwl, e3, h3', Bool.true_bne, Bool.false_bne]
    all_goals (repeat' (first | with_reducible rfl | with_reducible apply And.intro | ((with_reducible show drawOK _ = true); rfl))) <;> (try first | omega | (simp only [InR]; omega) | with_reducible assumption)
  · rw [g2] at hh
    have hk := withH_ok hs (n := (k : Int)) (by omega) (by omega)
    have hkm : mostS (wH s k) = totalS s := by
      have := most_total hk
      have e : totalS ⟨s.stacks, (k : Int), s.rain⟩ = totalS s := rfl
      have e2 : mostS ⟨s.stacks, (k : Int), s.rain⟩ = mostS (wH s k) := rfl
      omega
    have hlo : lostQ (wH s k) = ([], 0) := by
      unfold lostQ
      rw [if_neg (by rw [show faultS (wH s k) = 0 from ok_fault hk]; simp)]
      rw [lost_none (s := wH s k) hk hkm]
    have ek := wH_most hs (n := (k : Int)) (by omega) (by omega)
    rw [hkm] at ek
    have hwk : (⟨s.stacks, (k : Int), s.rain⟩ : Sh) = wH s k := rfl
    have hin : inB (k : Int) 0 3 = true := (inB_iff _ _ _).2 ⟨by omega, by omega⟩
    cases k with
    | zero =>
      have hk0 : ((0 : Nat) : Int) = 0 := rfl
      rw [hk0] at hh hlo ek hin hwk
      simp only [enc_fnl, enc_fnb, enc_fnc, enc_refc, enc_arr, enc_int, enc_bool, enc_list, enc_sk, enc_sp, enc_rg, enc_sh, enc_tr, enc_refs, enc_fns, enc_wks]
      refine callP_of_vc (Φ := P49) Try.func14 rfl (by rfl) (by rw [Try.ntmps14]; simp) mixed P49_ok (by simp [AV.strip, AV.strip1, Tk.strip]) ?_
      rw [Try.ntmps14]
      simp only [Try.f14, startSt, tmFrom]
      simp (maxSteps := 4000000) only [go_sem, AV.one, drawV, intsOf, keyIdx, over, putO, memAt, List.map_cons, List.length_cons, ↓reduceIte, zdrop, one_i, one_b, one_sl, one_ptr, one_ref, one_nilp, one_mp, one_fn, one_nilf, dep_uk, c1, c2, hh, hwk, hwl, ek, hlo, hin, Bool.true_bne, Bool.false_bne]
      all_goals (repeat' (first | with_reducible rfl | with_reducible apply And.intro | ((with_reducible show drawOK _ = true); rfl))) <;> (try first | omega | (simp only [InR]; omega) | with_reducible assumption)
    | succ j =>
      have hj : ((j + 1 : Nat) : Int) - 1 = (j : Int) := by omega
      have hne : decide (((j + 1 : Nat) : Int) = 0) = false := by rw [decide_eq_false_iff_not]; omega
      have ej := wH_most hs (n := (j : Int)) (by omega) (by omega)
      have hwj : (⟨s.stacks, (j : Int), s.rain⟩ : Sh) = wH s j := rfl
      have hlt : decide (mostS (wH s j) < totalS s) = true := by simpa using g4 j (by omega) (by omega)
      simp only [enc_fnl, enc_fnb, enc_fnc, enc_refc, enc_arr, enc_int, enc_bool, enc_list, enc_sk, enc_sp, enc_rg, enc_sh, enc_tr, enc_refs, enc_fns, enc_wks]
      refine callP_of_vc (Φ := P49) Try.func14 rfl (by rfl) (by rw [Try.ntmps14]; simp) mixed P49_ok (by simp [AV.strip, AV.strip1, Tk.strip]) ?_
      rw [Try.ntmps14]
      simp only [Try.f14, startSt, tmFrom]
      simp (maxSteps := 4000000) only [go_sem, AV.one, drawV, intsOf, keyIdx, over, putO, memAt, List.map_cons, List.length_cons, ↓reduceIte, zdrop, one_i, one_b, one_sl, one_ptr, one_ref, one_nilp, one_mp, one_fn, one_nilf, dep_uk, c1, c2, hh, hwk, hwj, hwl, ek, ej, hj, hne, hlt, hlo, hin, Bool.true_bne, Bool.false_bne]
      all_goals (repeat' (first | with_reducible rfl | with_reducible apply And.intro | ((with_reducible show drawOK _ = true); rfl))) <;> (try first | omega | (simp only [InR]; omega) | with_reducible assumption)
end Go.Proofs
