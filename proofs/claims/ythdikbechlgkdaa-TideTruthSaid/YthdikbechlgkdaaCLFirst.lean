/- The law TideFirst. -/
import Derived.Test.YthdikbechlgkdaaCS25
set_option linter.all false
namespace Go.Proofs
open Go.Fs
set_option linter.unusedSimpArgs false
set_option linter.unusedVariables false
set_option maxHeartbeats 4000000
set_option maxRecDepth 8000
theorem firstN_spec (all : List Int) : ∀ f n : Nat, (firstN all f n = -1 ∧ ∀ k, n ≤ k → k < n + f → canB all (2 * 2 ^ k - 1) = true) ∨
    (∃ m : Nat, firstN all f n = m ∧ n ≤ m ∧ m < n + f ∧ canB all (2 * 2 ^ m - 1) = false ∧ ∀ k, n ≤ k → k < m → canB all (2 * 2 ^ k - 1) = true)
  | 0, n => .inl ⟨rfl, fun k h1 h2 => by omega⟩
  | f + 1, n => by
    unfold firstN
    cases c : canB all (2 * 2 ^ n - 1)
    · rw [if_neg (by simp)]
      exact .inr ⟨n, rfl, Nat.le_refl _, by omega, c, fun k h1 h2 => by omega⟩
    · rw [if_pos rfl]
      rcases firstN_spec all f (n + 1) with ⟨h1, h2⟩ | ⟨m, h1, h2, h3, h4, h5⟩
      · refine .inl ⟨h1, fun k hk1 hk2 => ?_⟩
        by_cases e : k = n
        · rw [e]; exact c
        · exact h2 k (by omega) (by omega)
      · refine .inr ⟨m, h1, by omega, by omega, h4, fun k hk1 hk2 => ?_⟩
        by_cases e : k = n
        · rw [e]; exact c
        · exact h5 k (by omega) hk2
theorem truths_poss {t : Tb} (h : faultT t = 0) : truthsL t ≠ [] ↔ Poss t (fun _ => True) := by
  have hv := fault_ok h
  constructor
  · intro q
    obtain ⟨p, hp⟩ := List.exists_mem_of_ne_nil _ q
    have h1 := (mem_truthsL hv p).1 hp
    unfold isTruthB at h1
    rw [Bool.and_eq_true] at h1
    exact ⟨p, h1.1, fun k hk hb => List.all_eq_true.1 h1.2 _ (at_mem hk)⟩
  · rintro ⟨p, h1, h2⟩ q
    have : p ∈ truthsL t := (mem_truthsL hv p).2 (by
      unfold isTruthB
      rw [Bool.and_eq_true]
      refine ⟨h1, List.all_eq_true.2 fun m hm => ?_⟩
      obtain ⟨k, hk, rfl⟩ := List.getElem_of_mem hm
      rw [← at_get hk]
      exact h2 k hk trivial)
    rw [q] at this
    cases this
theorem mask_bit {n k : Nat} : (2 ^ n - 1).testBit k = decide (k < n) := by
  rw [Nat.testBit_two_pow_sub_one]
theorem can_mask {t : Tb} (h : faultT t = 0) {n : Nat} (hn : n < t.marks.length) : canB (allL t) (2 * 2 ^ n - 1) = true ↔ Poss t (fun k => k < n + 1) := by
  have hv := fault_ok h
  have hp := Nat.two_pow_pos n
  have e : (2 * 2 ^ n - 1 : Int) = ((2 ^ (n + 1) - 1 : Nat) : Int) := by
    rw [Nat.pow_succ]
    have : ((2 ^ n * 2 - 1 : Nat) : Int) = ((2 ^ n : Nat) : Int) * 2 - 1 := by omega
    rw [this]
    simp
    omega
  rw [e, canB_iff hv (by have := Nat.pow_le_pow_right (n := 2) (by omega) (show n + 1 ≤ t.marks.length by omega); have := Nat.two_pow_pos (n + 1); omega)]
  simp only [mask_bit, decide_eq_true_eq]
theorem bnd_err {t : Tb} (h : faultT t = 0) : (truthsL t ≠ [] → ∃ L, bndQ t = (L, 0)) ∧ (truthsL t = [] → bndQ t = ([], 11)) := by
  refine ⟨fun q => ?_, fun q => ?_⟩
  · unfold bndQ
    rw [askErr_ok h q, if_pos rfl]
    exact ⟨_, rfl⟩
  · unfold bndQ
    rw [askErr_dry h q, if_neg (by decide)]
end Go.Proofs
