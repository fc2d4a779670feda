/- A table with some of its marks. -/
import Derived.Test.YthdikbechlgkdaaG13
set_option linter.all false
namespace Go.Proofs
open Go.Fs
set_option linter.unusedSimpArgs false
set_option linter.unusedVariables false
set_option maxHeartbeats 4000000
set_option maxRecDepth 8000
def someN (t : Tb) (b n : Nat) : List Mk := ((List.range n).filter fun k => b.testBit k).map fun k => at_ t.marks k
def someT (t : Tb) (b : Nat) : Tb := { t with marks := someN t b t.marks.length }
theorem someN_succ (t : Tb) (b n : Nat) : someN t b (n + 1) = someN t b n ++ (if b.testBit n then [at_ t.marks n] else []) := by
  simp only [someN, List.range_succ, List.filter_append, List.map_append]
  cases c : b.testBit n <;> simp [List.filter, c]
theorem someN_len (t : Tb) (b n : Nat) : (someN t b n).length ≤ n := by
  have := List.length_filter_le (fun p => b.testBit p) (List.range n)
  simpa [someN] using this
def P51 : Specs := P50
theorem P51_app (g : FuncId) : P51 g = (P50) g := rfl
theorem P51_ok : SpecsOk Try.prog P51 := P50_ok
attribute [go_sem] P51_app
theorem P51_flag (d : Option Nat) : flagOf P51 d = none := P50_flag d
attribute [go_sem] P51_flag
theorem mem_someN {t : Tb} {b n : Nat} {m : Mk} : m ∈ someN t b n ↔ ∃ k, k < n ∧ b.testBit k = true ∧ at_ t.marks k = m := by
  unfold someN
  rw [List.mem_map]
  constructor
  · rintro ⟨k, hk, rfl⟩
    rw [List.mem_filter, List.mem_range] at hk
    exact ⟨k, hk.1, hk.2, rfl⟩
  · rintro ⟨k, h1, h2, rfl⟩
    exact ⟨k, List.mem_filter.2 ⟨List.mem_range.2 h1, h2⟩, rfl⟩
theorem some_fault {t : Tb} (h : faultT t = 0) (b : Nat) : faultT (someT t b) = 0 := by
  have hv := fault_ok h
  have hlen := someN_len t b t.marks.length
  unfold faultT at h ⊢
  have hh : (someT t b).heights = t.heights := rfl
  have hl : (someT t b).levels = t.levels := rfl
  have hm : (someT t b).marks = someN t b t.marks.length := rfl
  have ha : (someT t b).last = t.last := rfl
  have hs : (someT t b).step = t.step := rfl
  have hli : listsL (someT t b) = listsL t := rfl
  rw [hh, hl, hm, ha, hs, hli]
  split at h
  · cases h
  rename_i g1
  rw [if_neg (by omega)]
  split at h
  · cases h
  rename_i g2
  rw [if_neg g2]
  split at h
  · cases h
  rename_i g3
  rw [if_neg g3]
  split at h
  · cases h
  rename_i g4
  rw [if_neg g4]
  split at h
  · cases h
  rename_i g5
  have g5' : (someN t b t.marks.length).all (markB t.last) = true := by
    rw [List.all_eq_true]
    intro m hm
    obtain ⟨k, h1, _, rfl⟩ := mem_someN.1 hm
    have : t.marks.all (markB t.last) = true := by simpa using g5
    exact List.all_eq_true.1 this _ (at_mem h1)
  rw [if_neg (by rw [g5']; simp)]
  exact h
theorem some_truths {t : Tb} (h : faultT t = 0) (b : Nat) : truthsL (someT t b) ≠ [] ↔ Poss t (fun k => b.testBit k = true) := by
  have hv := fault_ok h
  have hv2 := fault_ok (some_fault h b)
  constructor
  · intro q
    obtain ⟨p, hp⟩ := List.exists_mem_of_ne_nil _ q
    have h1 := (mem_truthsL hv2 p).1 hp
    unfold isTruthB at h1
    rw [Bool.and_eq_true] at h1
    exact ⟨p, h1.1, fun k hk hb => List.all_eq_true.1 h1.2 _ (mem_someN.2 ⟨k, hk, hb, rfl⟩)⟩
  · rintro ⟨p, h1, h2⟩ q
    have : p ∈ truthsL (someT t b) := (mem_truthsL hv2 p).2 (by
      unfold isTruthB
      rw [Bool.and_eq_true]
      refine ⟨h1, List.all_eq_true.2 fun m hm => ?_⟩
      obtain ⟨k, hk, hb, rfl⟩ := mem_someN.1 hm
      exact h2 k hk hb)
    rw [q] at this
    cases this
end Go.Proofs
