/- The law TideFirst. -/
import Derived.Test.YtadjbgghbjacbaaCS25
set_option linter.all false
namespace Go.Proofs
open Go.Fs
set_option linter.unusedSimpArgs false
set_option linter.unusedVariables false
set_option maxHeartbeats 4000000
set_option maxRecDepth 8000

theorem firstN_spec (all : List Int) : ∀ f n : Nat, (firstN all f n = -1 ∧ ∀ k, n ≤ k → k < n + f → canB all (2 * 2 ^ k - 1) = true) ∨
    (∃ m : Nat, firstN all f n = m ∧ n ≤ m ∧ m < n + f ∧ canB all (2 * 2 ^ m - 1) = false ∧ ∀ k, n ≤ k → k < m → canB all (2 * 2 ^ k - 1) = true)
  | 0, n => .inl ⟨rfl, fun k h1 h2 => by omega⟩
  | f + 1, n => by
    unfold firstN
    cases c : canB all (2 * 2 ^ n - 1)
    · rw [if_neg (by simp)]
      exact .inr ⟨n, rfl, Nat.le_refl _, by omega, c, fun k h1 h2 => by omega⟩
    · rw [if_pos rfl]
      rcases firstN_spec all f (n + 1) with ⟨h1, h2⟩ | ⟨m, h1, h2, h3, h4, h5⟩
      · refine .inl ⟨h1, fun k hk1 hk2 => ?_⟩
        by_cases e : k = n
        · rw [e]; exact c
        · exact h2 k (by omega) (by omega)
      · refine .inr ⟨m, h1, by omega, by omega, h4, fun k hk1 hk2 => ?_⟩
        by_cases e : k = n
        · rw [e]; exact c
        · exact h5 k (by omega) hk2
theorem truths_poss {t : Tb} (h : faultT t = 0) : truthsL t ≠ [] ↔ Poss t (fun _ => True) := by
  have hv := fault_ok h
  constructor
  · intro q
    obtain ⟨p, hp⟩ := List.exists_mem_of_ne_nil _ q
    have h1 := (mem_truthsL hv p).1 hp
    unfold isTruthB at h1
    rw [Bool.and_eq_true] at h1
    exact ⟨p, h1.1, fun k hk hb => List.all_eq_true.1 h1.2 _ (at_mem hk)⟩
  · rintro ⟨p, h1, h2⟩ q
    have : p ∈ truthsL t := (mem_truthsL hv p).2 (by
      unfold isTruthB
      rw [Bool.and_eq_true]
      refine ⟨h1, List.all_eq_true.2 fun m hm => ?_⟩
      obtain ⟨k, hk, rfl⟩ := List.getElem_of_mem hm
      rw [← at_get hk]
      exact h2 k hk trivial)
    rw [q] at this
    cases this
theorem mask_bit {n k : Nat} : (2 ^ n - 1).testBit k = decide (k < n) := by
  rw [Nat.testBit_two_pow_sub_one]
theorem can_mask {t : Tb} (h : faultT t = 0) {n : Nat} (hn : n < t.marks.length) : canB (allL t) (2 * 2 ^ n - 1) = true ↔ Poss t (fun k => k < n + 1) := by
  have hv := fault_ok h
  have hp := Nat.two_pow_pos n
  have e : (2 * 2 ^ n - 1 : Int) = ((2 ^ (n + 1) - 1 : Nat) : Int) := by
    rw [Nat.pow_succ]
    have : ((2 ^ n * 2 - 1 : Nat) : Int) = ((2 ^ n : Nat) : Int) * 2 - 1 := by omega
    rw [this]
    simp
    omega
  rw [e, canB_iff hv (by have := Nat.pow_le_pow_right (n := 2) (by omega) (show n + 1 ≤ t.marks.length by omega); have := Nat.two_pow_pos (n + 1); omega)]
  simp only [mask_bit, decide_eq_true_eq]
theorem bnd_err {t : Tb} (h : faultT t = 0) : (truthsL t ≠ [] → ∃ L, bndQ t = (L, 0)) ∧ (truthsL t = [] → bndQ t = ([], 11)) := by
  refine ⟨fun q => ?_, fun q => ?_⟩
  · unfold bndQ
    rw [askErr_ok h q, if_pos rfl]
    exact ⟨_, rfl⟩
  · unfold bndQ
    rw [askErr_dry h q, if_neg (by decide)]
theorem TideFirst_true (t : Tb) : CallP Try.prog 11 [Enc.enc t] (· = Enc.enc true) := by
  cases c0 : (thinB t && decide (faultT t = 0))
  · simp only [enc_fnl, enc_fnb, enc_fnc, enc_refc, enc_arr, enc_int, enc_bool, enc_list, enc_rg, enc_mk, enc_tb]
    refine callP_of_vc (Φ := P51) Try.func11 rfl (by rfl) (by rw [Try.ntmps11]; simp) mixed P51_ok (by simp [AV.strip, Tk.strip]) ?_
    rw [Try.ntmps11]
    simp only [Try.f11, startSt, tmFrom]
    simp (maxSteps := 4000000) only [go_sem, AV.one, drawV, intsOf, keyIdx, over, putO, memAt, List.map_cons, List.length_cons, ↓reduceIte, snap_trues, imm_trues, enc_pair, enc_iterv, zdrop, one_i, one_b, one_sl, one_ptr, one_ref, one_nilp, one_mp, one_fn, one_nilf, c0]
    all_goals (repeat' (first | with_reducible rfl | with_reducible apply And.intro | ((with_reducible show drawOK _ = true); rfl))) <;> (try first | omega | (simp only [InR]; omega) | with_reducible assumption)
  have c12 : thinB t = true ∧ faultT t = 0 := by simpa using c0
  obtain ⟨c1, c2⟩ := c12
  have hl := thin_len c1
  have hv := fault_ok c2
  have hm5 := hv.mok.len
  rcases firstN_spec (allL t) t.marks.length 0 with ⟨h1, h2⟩ | ⟨m, h1, h2, h3, h4, h5⟩
  · have e1 : firstQ t = (0, 7) := by unfold firstQ firstL; rw [if_pos c2, h1, if_pos (by decide)]
    have hne : truthsL t ≠ [] := by
      rw [truths_poss c2]
      by_cases z : t.marks.length = 0
      · exact poss_none hv fun k hk => by omega
      · exact ((can_mask c2 (n := t.marks.length - 1) (by omega)).1 (h2 _ (by omega) (by omega))).mono fun k hk _ => by omega
    obtain ⟨L, e2⟩ := (bnd_err c2).1 hne
    simp only [enc_fnl, enc_fnb, enc_fnc, enc_refc, enc_arr, enc_int, enc_bool, enc_list, enc_rg, enc_mk, enc_tb]
    refine callP_of_vc (Φ := P51) Try.func11 rfl (by rfl) (by rw [Try.ntmps11]; simp) mixed P51_ok (by simp [AV.strip, Tk.strip]) ?_
    rw [Try.ntmps11]
    simp only [Try.f11, startSt, tmFrom]
    simp (maxSteps := 4000000) only [go_sem, AV.one, drawV, intsOf, keyIdx, over, putO, memAt, List.map_cons, List.length_cons, ↓reduceIte, snap_trues, imm_trues, enc_pair, enc_iterv, zdrop, one_i, one_b, one_sl, one_ptr, one_ref, one_nilp, one_mp, one_fn, one_nilf, c0, e1, e2]
    all_goals (repeat' (first | with_reducible rfl | with_reducible apply And.intro | ((with_reducible show drawOK _ = true); rfl))) <;> (try first | omega | (simp only [InR]; omega) | with_reducible assumption)
  · have e1 : firstQ t = ((m : Int), 0) := by unfold firstQ firstL; rw [if_pos c2, h1, if_neg (by omega)]
    have f1 := some_fault c2 (2 ^ m - 1)
    have f2 := some_fault c2 (2 * 2 ^ m - 1)
    have p1 : truthsL (someT t (2 ^ m - 1)) ≠ [] := by
      rw [some_truths c2]
      simp only [mask_bit, decide_eq_true_eq]
      by_cases z : m = 0
      · exact poss_none hv fun k hk => by omega
      · have := (can_mask c2 (n := m - 1) (by omega)).1 (h5 _ (by omega) (by omega))
        exact this.mono fun k hk hk2 => by omega
    have p2 : truthsL (someT t (2 * 2 ^ m - 1)) = [] := by
      by_cases z : truthsL (someT t (2 * 2 ^ m - 1)) = []
      · exact z
      · exfalso
        have := (some_truths c2 _).1 z
        rw [show 2 * 2 ^ m - 1 = 2 ^ (m + 1) - 1 by rw [Nat.pow_succ]; omega] at this
        simp only [mask_bit, decide_eq_true_eq] at this
        rw [(can_mask c2 (by omega)).2 this] at h4
        cases h4
    obtain ⟨L, e2⟩ := (bnd_err f1).1 p1
    have e3 := (bnd_err f2).2 p2
    have c3 : inB (m : Int) 0 (t.marks.length - 1) = true := (inB_iff _ _ _).2 ⟨by omega, by omega⟩
    have hp := pow_bd m (by omega)
    have n1 : ((2 : Int) ^ m - 1).toNat = 2 ^ m - 1 := by
      have : ((2 : Int) ^ m) = ((2 ^ m : Nat) : Int) := by simp
      rw [this]; omega
    have n2 : (2 * (2 : Int) ^ m - 1).toNat = 2 * 2 ^ m - 1 := by
      have : ((2 : Int) ^ m) = ((2 ^ m : Nat) : Int) := by simp
      rw [this]; omega
    have hlen1 := someN_len t (2 ^ m - 1) t.marks.length
    have hlen2 := someN_len t (2 * 2 ^ m - 1) t.marks.length
    have hs1 : (someT t (2 ^ m - 1)).heights = t.heights ∧ (someT t (2 ^ m - 1)).levels = t.levels ∧ (someT t (2 ^ m - 1)).marks.length ≤ 4096 := ⟨rfl, rfl, by show (someN _ _ _).length ≤ _; omega⟩
    have hs2 : (someT t (2 * 2 ^ m - 1)).heights = t.heights ∧ (someT t (2 * 2 ^ m - 1)).levels = t.levels ∧ (someT t (2 * 2 ^ m - 1)).marks.length ≤ 4096 := ⟨rfl, rfl, by show (someN _ _ _).length ≤ _; omega⟩
    have a1 : (someT t (2 ^ m - 1)).heights.length ≤ 4096 := by rw [hs1.1]; omega
    have a2 : (someT t (2 ^ m - 1)).levels.length ≤ 4096 := by rw [hs1.2.1]; omega
    have a3 := hs1.2.2
    have b1 : (someT t (2 * 2 ^ m - 1)).heights.length ≤ 4096 := by rw [hs2.1]; omega
    have b2 : (someT t (2 * 2 ^ m - 1)).levels.length ≤ 4096 := by rw [hs2.2.1]; omega
    have b3 := hs2.2.2
    have q1 : BOk ((2 : Int) ^ m - 1) := ⟨by omega, by omega⟩
    have q2 : BOk (2 * (2 : Int) ^ m - 1) := ⟨by omega, by omega⟩
    simp only [enc_fnl, enc_fnb, enc_fnc, enc_refc, enc_arr, enc_int, enc_bool, enc_list, enc_rg, enc_mk, enc_tb]
    refine callP_of_vc (Φ := P51) Try.func11 rfl (by rfl) (by rw [Try.ntmps11]; simp) mixed P51_ok (by simp [AV.strip, Tk.strip]) ?_
    rw [Try.ntmps11]
    simp only [Try.f11, startSt, tmFrom]
    simp (maxSteps := 4000000) only [go_sem, AV.one, drawV, intsOf, keyIdx, over, putO, memAt, List.map_cons, List.length_cons, ↓reduceIte, snap_trues, imm_trues, enc_pair, enc_iterv, zdrop, one_i, one_b, one_sl, one_ptr, one_ref, one_nilp, one_mp, one_fn, one_nilf, c0, e1, e2, e3, c3, n1, n2, bits64, Int.one_mul]
    all_goals (repeat' (first | with_reducible rfl | with_reducible apply And.intro | ((with_reducible show drawOK _ = true); rfl))) <;> (try first | omega | (simp only [InR]; omega) | with_reducible assumption)
end Go.Proofs
