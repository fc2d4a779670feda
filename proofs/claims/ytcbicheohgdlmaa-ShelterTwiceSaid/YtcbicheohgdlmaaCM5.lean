/- Plain: what a stack is worth. -/
import Derived.Test.YtcbicheohgdlmaaCM4
set_option linter.all false
namespace Go.Proofs
open Go.Fs
set_option linter.unusedSimpArgs false
set_option linter.unusedVariables false
set_option maxHeartbeats 4000000
set_option maxRecDepth 8000

theorem wsum_drop {n i : Nat} {f g : Nat → Int} (A : Nat → Bool) (hi : i < n) (hf : ∀ j, j ≠ i → g j = f j) (h0 : g i = 0) : wsum n f A = wsum n g A + if A i = true then f i else 0 := by
  induction n with
  | zero => omega
  | succ n ih =>
    unfold wsum
    by_cases e : i = n
    · subst e
      rw [wsum_congr (f := f) (g := g) (p := A) (q := A) (fun _ _ => rfl) (fun j hj _ => (hf j (by omega)).symm), h0]
      split <;> omega
    · rw [ih (by omega), hf n (fun q => e q.symm)]
      omega
theorem at_set_eq' {α : Type} [Inhabited α] {l : List α} {i j : Nat} {v : α} (hj : j < l.length) : at_ (l.set i v) j = if i = j then v else at_ l j := by
  rw [at_get (by simpa using hj), List.getElem_set]
  split
  · rfl
  · rw [at_get hj]
/-- Without one stack's chairs. -/
theorem wo_at (s : Sh) {i : Nat} {j : Nat} (hj : j < s.stacks.length) : spS (withoutS s [(i : Int)]) j = spS s j ∧ chS (withoutS s [(i : Int)]) j = if i = j then 0 else chS s j := by
  have e : (withoutS s [(i : Int)]).stacks = s.stacks.set i ⟨0, (at_ s.stacks i).leak⟩ := rfl
  unfold spS chS
  rw [e, Int.toNat_natCast, at_set_eq' hj]
  by_cases q : i = j
  · subst q; rw [if_pos rfl, if_pos rfl]; exact ⟨rfl, rfl⟩
  · rw [if_neg q, if_neg q]; exact ⟨rfl, rfl⟩
theorem drop_len (s : Sh) (i : Nat) : (withoutS s [(i : Int)]).stacks.length = s.stacks.length := zeroS_len _ _
theorem drop_ok {s : Sh} (hs : ShOk s) {i : Nat} (hi : i < s.stacks.length) : ShOk (withoutS s [(i : Int)]) :=
  without_ok hs fun x hx => by simp at hx; rw [hx]; exact ⟨by omega, by omega⟩
theorem drop_weight {s : Sh} {i : Nat} (hi : i < s.stacks.length) (A : Nat → Bool) : weightS s A = weightS (withoutS s [(i : Int)]) A + if A i = true then chS s i else 0 := by
  unfold weightS
  rw [drop_len]
  have e : wsum s.stacks.length (fun j => chS (withoutS s [(i : Int)]) j) A = wsum s.stacks.length (fun j => if i = j then 0 else chS s j) A := wsum_congr (fun _ _ => rfl) fun j hj _ => (wo_at s hj).2
  rw [e]
  exact wsum_drop A hi (fun j hj => if_neg (fun q => hj q.symm)) (if_pos rfl)
theorem drop_feas {s : Sh} {i : Nat} (A : Nat → Bool) : FeasS (withoutS s [(i : Int)]) A ↔ FeasS s A := by
  unfold FeasS Feas
  rw [drop_len]
  have e : ∀ b : Nat, cnt s.stacks.length (fun j => A j && decide (spS (withoutS s [(i : Int)]) j ≤ (b : Int))) = cnt s.stacks.length (fun j => A j && decide (spS s j ≤ (b : Int))) := fun b => cnt_congr fun j hj => by rw [(wo_at s hj).1]
  simp only [e]
  exact Iff.rfl
def worthS (s : Sh) (i : Nat) : Int := mostS s - mostS (withoutS s [(i : Int)])
theorem worth_spec {s : Sh} (hs : ShOk s) {i : Nat} (hi : i < s.stacks.length) : 0 ≤ worthS s i ∧ worthS s i ≤ chS s i ∧ worthS s i ≤ if memB (keptS s) i = true then chS s i else 0 := by
  have hw := drop_ok hs hi
  obtain ⟨_, _, hF, _⟩ := kept_spec hs
  obtain ⟨_, _, hG, _⟩ := kept_spec hw
  have h1 := feas_le hs ((drop_feas _).1 hG)
  have h2 := feas_le hw ((drop_feas (i := i) _).2 hF)
  have h3 := drop_weight hi (memB (keptS (withoutS s [(i : Int)])))
  have h4 := drop_weight hi (memB (keptS s))
  have hc := (hs.ch hi).1
  have e1 : weightS s (memB (keptS s)) = mostS s := rfl
  have e2 : weightS (withoutS s [(i : Int)]) (memB (keptS (withoutS s [(i : Int)]))) = mostS (withoutS s [(i : Int)]) := rfl
  unfold worthS
  refine ⟨?_, ?_, ?_⟩
  · have : (0 : Int) ≤ if memB (keptS (withoutS s [(i : Int)])) i = true then chS s i else 0 := by split <;> omega
    omega
  · have : (if memB (keptS s) i = true then chS s i else 0) ≤ chS s i := by split <;> omega
    omega
  · omega
theorem worth_sum {s : Sh} (hs : ShOk s) : ∀ n, n ≤ s.stacks.length → sumTo n (worthS s) ≤ wsum n (fun i => chS s i) (memB (keptS s))
  | 0, _ => Int.le_refl _
  | n + 1, h => by
    have h1 := worth_sum hs n (by omega)
    have h2 := (worth_spec hs (i := n) (by omega)).2.2
    show sumTo n (worthS s) + worthS s n ≤ wsum n _ _ + (if memB (keptS s) n = true then chS s n else 0)
    omega
theorem worth_all {s : Sh} (hs : ShOk s) : sumTo s.stacks.length (worthS s) ≤ mostS s := worth_sum hs _ (Nat.le_refl _)
theorem water_ge {s : Sh} {i : Nat} {w : Int} (h : w ∈ waterL s i) : spS s i ≤ w := by
  unfold waterL waterN leakL at h
  simp only [List.mem_flatMap, List.mem_range, List.mem_map] at h
  obtain ⟨k, hk, j, hj, rfl⟩ := h
  unfold spS
  rw [Int.toNat_natCast]
  omega
/-- What is closed before its span is saved always. -/
theorem kept_always {s : Sh} (hs : ShOk s) {plan : List Int} {i : Nat} (hi : i < s.stacks.length) (h : 0 ≤ at_ plan i ∧ at_ plan i < spS s i) : verdictW s plan i = 1 := by
  rw [verdict_eq hs hi (by omega)]
  unfold verdictR
  rw [Int.toNat_natCast, if_pos]
  rw [List.countP_eq_length]
  intro w hw
  have := water_ge hw
  simp only [savP, Bool.and_eq_true, decide_eq_true_eq]
  omega
theorem best_worth {s : Sh} (hs : ShOk s) {i : Nat} (hi : i < s.stacks.length) (h : verdictW s (bestS s) i ≠ 1) : worthS s i = 0 := by
  have h1 := worth_spec hs hi
  cases c : memB (keptS s) i
  · rw [c, if_neg (by simp)] at h1
    omega
  · exact absurd (kept_always hs hi ((best_at hs hi).1 c)) h
theorem worth_good {s : Sh} (hs : ShOk s) {i : Nat} (hi : i < s.stacks.length) : worthQ s i = (worthS s i, 0) := by
  unfold worthQ
  rw [if_neg (by rw [ok_fault hs]; simp), if_pos ((inB_iff _ _ _).2 ⟨by omega, by omega⟩)]
  rfl
end Go.Proofs
