/- One range of a shelter is another one. -/
import Derived.Test.YtfdnifofpkceiaaG14
set_option linter.all false
namespace Go.Proofs
open Go.Fs
set_option linter.unusedSimpArgs false
set_option linter.unusedVariables false
set_option maxHeartbeats 4000000
set_option maxRecDepth 8000
def chgS (s : Sh) (k : Nat) (r : Rg) : Sh := match k with
  | 0 => ⟨s.stacks, s.hands, r⟩
  | j + 1 => ⟨s.stacks.set j ⟨(at_ s.stacks j).chairs, r⟩, s.hands, s.rain⟩
def rgOf (s : Sh) (k : Nat) : Rg := match k with
  | 0 => s.rain
  | j + 1 => (at_ s.stacks j).leak
def RgOk (r : Rg) : Prop := 0 ≤ r.lo ∧ r.lo ≤ r.hi ∧ r.hi ≤ 9
def lateR (r : Rg) (d : Int) : Rg := ⟨min 9 (r.lo + d), min 9 (r.hi + d)⟩
def wideR (r : Rg) (d e : Int) : Rg := ⟨max 0 (r.lo - d), min 9 (r.hi + e)⟩
theorem late_ok {r : Rg} (h : RgOk r) {d : Int} (hd : 0 ≤ d) : RgOk (lateR r d) ∧ r.lo ≤ (lateR r d).lo := by
  unfold RgOk lateR at *; dsimp only; omega
theorem wide_ok {r : Rg} (h : RgOk r) {d e : Int} (hd : 0 ≤ d) (he : 0 ≤ e) : RgOk (wideR r d e) ∧ (wideR r d e).lo ≤ r.lo := by
  unfold RgOk wideR at *; dsimp only; omega
theorem rgOf_ok {s : Sh} (hs : ShOk s) {k : Nat} (hk : k ≤ s.stacks.length) : RgOk (rgOf s k) := by
  cases k with
  | zero => exact hs.r
  | succ j => exact (hs.st _ (at_mem (show j < s.stacks.length by omega))).2
theorem chg_len (s : Sh) (k : Nat) (r : Rg) : (chgS s k r).stacks.length = s.stacks.length := by
  cases k with
  | zero => rfl
  | succ j => simp [chgS]
theorem chg_hands (s : Sh) (k : Nat) (r : Rg) : (chgS s k r).hands = s.hands := by cases k <;> rfl
theorem chg_ok {s : Sh} (hs : ShOk s) {k : Nat} (hk : k ≤ s.stacks.length) {r : Rg} (hr : RgOk r) : ShOk (chgS s k r) := by
  cases k with
  | zero => exact ⟨hs.len, hs.h0, hs.h3, hr, hs.st⟩
  | succ j =>
    refine ⟨by rw [chg_len]; exact hs.len, hs.h0, hs.h3, hs.r, fun x hx => ?_⟩
    rcases List.mem_or_eq_of_mem_set (show x ∈ s.stacks.set j ⟨(at_ s.stacks j).chairs, r⟩ from hx) with q | q
    · exact hs.st x q
    · rw [q]
      exact ⟨(hs.st _ (at_mem (show j < s.stacks.length by omega))).1, hr⟩
theorem chg_at (s : Sh) (k : Nat) (r : Rg) {i : Nat} (hi : i < s.stacks.length) : chS (chgS s k r) i = chS s i ∧
    ((rgOf s k).lo ≤ r.lo → spS s i ≤ spS (chgS s k r) i) ∧ (r.lo ≤ (rgOf s k).lo → spS (chgS s k r) i ≤ spS s i) := by
  cases k with
  | zero =>
    refine ⟨rfl, fun h => ?_, fun h => ?_⟩ <;>
    · unfold spS chgS rgOf at *
      dsimp only at *
      omega
  | succ j =>
    unfold spS chS chgS rgOf
    rw [Int.toNat_natCast]
    simp only [at_set_eq' hi]
    split
    · rename_i e
      subst e
      exact ⟨rfl, fun h => by dsimp only; omega, fun h => by dsimp only; omega⟩
    · exact ⟨rfl, fun _ => Int.le_refl _, fun _ => Int.le_refl _⟩
theorem chg_plan (s : Sh) (k : Nat) (r : Rg) (p : List Int) : planB (chgS s k r) p = planB s p := by
  unfold planB
  rw [chg_len, chg_hands]
theorem chg_later {s : Sh} (hs : ShOk s) {k : Nat} (hk : k ≤ s.stacks.length) {r : Rg} (hr : RgOk r) (h : (rgOf s k).lo ≤ r.lo) {p : List Int} (hp : p.length = s.stacks.length) :
    sureS s p ≤ sureS (chgS s k r) p ∧ mostS s ≤ mostS (chgS s k r) :=
  ⟨sure_mono hs hp (fun i hi => (chg_at s k r hi).2.1 h) (fun i hi => (chg_at s k r hi).1.symm),
   most_mono hs (chg_ok hs hk hr) (chg_len s k r) (by rw [chg_hands]; exact Int.le_refl _) (fun i hi => (chg_at s k r hi).2.1 h) (fun i hi => (chg_at s k r hi).1.symm)⟩
theorem chg_wider {s : Sh} (hs : ShOk s) {k : Nat} (hk : k ≤ s.stacks.length) {r : Rg} (hr : RgOk r) (h : r.lo ≤ (rgOf s k).lo) {p : List Int} (hp : p.length = s.stacks.length) :
    sureS (chgS s k r) p ≤ sureS s p ∧ mostS (chgS s k r) ≤ mostS s :=
  ⟨sure_mono (chg_ok hs hk hr) (by rw [chg_len]; exact hp) (fun i hi => (chg_at s k r (by rw [chg_len] at hi; exact hi)).2.2 h) (fun i hi => (chg_at s k r (by rw [chg_len] at hi; exact hi)).1),
   most_mono (chg_ok hs hk hr) hs (chg_len s k r).symm (by rw [chg_hands]; exact Int.le_refl _) (fun i hi => (chg_at s k r (by rw [chg_len] at hi; exact hi)).2.2 h) (fun i hi => (chg_at s k r (by rw [chg_len] at hi; exact hi)).1)⟩
end Go.Proofs
