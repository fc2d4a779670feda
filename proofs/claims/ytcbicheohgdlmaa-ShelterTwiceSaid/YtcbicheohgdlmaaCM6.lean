/- Plain: what is left when it begins to rain. -/
import Derived.Test.YtcbicheohgdlmaaCM5
set_option linter.all false
namespace Go.Proofs
open Go.Fs
set_option linter.unusedSimpArgs false
set_option linter.unusedVariables false
set_option maxHeartbeats 4000000
set_option maxRecDepth 8000

theorem zero_at : ∀ (l : List Int) (st : List Sk), (∀ x ∈ l, 0 ≤ x) → ∀ i : Nat, i < st.length → at_ (zeroS st l) i = if (i : Int) ∈ l then ⟨0, (at_ st i).leak⟩ else at_ st i
  | [], st, _, i, hi => by simp [zeroS]
  | x :: l, st, h, i, hi => by
    have hx := h x (by simp)
    have e : zeroS st (x :: l) = zeroS (st.set x.toNat ⟨0, (at_ st x.toNat).leak⟩) l := rfl
    rw [e, zero_at l _ (fun y hy => h y (by simp [hy])) i (by simpa using hi), at_set_eq' hi]
    by_cases q : x.toNat = i
    · have q' : (i : Int) = x := by omega
      rw [if_pos q, q']
      simp only [List.mem_cons, true_or, if_true]
      rw [q]
      split <;> rfl
    · have q' : ¬ (i : Int) = x := by omega
      rw [if_neg q]
      simp only [List.mem_cons, q', false_or]
theorem cnt_take {l : List Int} (q : Int → Bool) : ∀ n, n ≤ l.length → cnt n (fun i => q (at_ l i)) = (((l.take n).countP q : Nat) : Int)
  | 0, _ => by simp [cnt]
  | n + 1, h => by
    have ih := cnt_take (l := l) q n (by omega)
    rw [take_succ_at (by omega), List.countP_append, List.countP_singleton]
    show cnt n _ + (if q (at_ l n) = true then 1 else 0) = _
    rw [ih]
    split <;> simp
theorem cnt_countP (l : List Int) (q : Int → Bool) : cnt l.length (fun i => q (at_ l i)) = ((l.countP q : Nat) : Int) := by
  have := cnt_take (l := l) q l.length (Nat.le_refl _)
  rwa [List.take_length] at this
/-- The numbers that lie in a stretch of so many hours. -/
theorem cnt_hours {plan : List Int} {H : Int} (hH : ∀ p : Int, 0 ≤ p → ((plan.countP fun q => decide (q = p) : Nat) : Int) ≤ H) {h : Int} (h0 : 0 ≤ h) :
    ∀ b : Nat, cnt plan.length (fun i => decide (h ≤ at_ plan i) && decide (at_ plan i < h + b)) ≤ H * b
  | 0 => by
    rw [cnt_zero fun i hi => ?_]
    · simp
    · rw [Bool.and_eq_false_iff, decide_eq_false_iff_not, decide_eq_false_iff_not]; omega
  | b + 1 => by
    have h1 := cnt_hours hH h0 b
    have h2 := hH (h + b) (by omega)
    rw [cnt_split _ _ (fun i => decide (at_ plan i < h + b))]
    have e1 : cnt plan.length (fun i => (decide (h ≤ at_ plan i) && decide (at_ plan i < h + ((b + 1 : Nat) : Int))) && decide (at_ plan i < h + b)) ≤ cnt plan.length (fun i => decide (h ≤ at_ plan i) && decide (at_ plan i < h + b)) :=
      cnt_mono fun i hi hq => by simp only [Bool.and_eq_true, decide_eq_true_eq] at hq ⊢; omega
    have e2 : cnt plan.length (fun i => (decide (h ≤ at_ plan i) && decide (at_ plan i < h + ((b + 1 : Nat) : Int))) && !decide (at_ plan i < h + b)) ≤ cnt plan.length (fun i => decide (at_ plan i = h + b)) :=
      cnt_mono fun i hi hq => by simp only [Bool.and_eq_true, Bool.not_eq_true', decide_eq_true_eq, decide_eq_false_iff_not] at hq ⊢; omega
    have e3 : cnt plan.length (fun i => decide (at_ plan i = h + b)) = ((plan.countP fun q => decide (q = h + b) : Nat) : Int) := cnt_countP plan (fun q => decide (q = h + b))
    have e4 : H * ((b + 1 : Nat) : Int) = H * b + H := by rw [Int.natCast_succ, Int.mul_add, Int.mul_one]
    omega
theorem plan_hours {s : Sh} (hs : ShOk s) {plan : List Int} (h : planB s plan = true) (p : Int) (hp : 0 ≤ p) : ((plan.countP fun q => decide (q = p) : Nat) : Int) ≤ s.hands := by
  by_cases e : p ∈ plan
  · unfold planB at h
    rw [Bool.and_eq_true, List.all_eq_true] at h
    have h1 := h.2 p e
    rw [Bool.and_eq_true, decide_eq_true_eq] at h1
    have h2 := h1.2
    rw [manyL_pos hp] at h2
    exact h2
  · have : plan.countP (fun q => decide (q = p)) = 0 := by
      rw [List.countP_eq_zero]
      intro q hq
      simp only [decide_eq_true_eq]
      intro e2; exact e (e2 ▸ hq)
    rw [this]; exact hs.h0
def restS (s : Sh) (plan : List Int) (hour : Int) : Sh := withoutS (dryS s) (closedL plan hour plan.length)
def closedN (s : Sh) (plan : List Int) (hour : Int) : Int := wsum plan.length (fun i => chS s i) (fun i => savesB (at_ plan i) hour)
theorem mem_closed {plan : List Int} {hour : Int} {n i : Nat} (hi : i < n) : (i : Int) ∈ closedL plan hour n ↔ savesB (at_ plan i) hour = true := by
  unfold closedL
  simp only [List.mem_map, List.mem_filter, List.mem_range]
  constructor
  · rintro ⟨k, ⟨h1, h2⟩, h3⟩
    have : k = i := by omega
    rw [← this]; exact h2
  · intro h
    exact ⟨i, ⟨hi, h⟩, rfl⟩
theorem rest_len (s : Sh) (plan : List Int) (hour : Int) : (restS s plan hour).stacks.length = s.stacks.length := zeroS_len _ _
theorem rest_ok {s : Sh} (hs : ShOk s) {plan : List Int} (hl : plan.length = s.stacks.length) (hour : Int) : ShOk (restS s plan hour) := by
  refine without_ok (s := dryS s) ⟨hs.len, hs.h0, hs.h3, ⟨by simp [dryS], by simp [dryS], by simp [dryS]⟩, hs.st⟩ fun x hx => ?_
  have := closedL_mem hx
  rw [hl] at this
  exact this
theorem rest_at {s : Sh} {plan : List Int} (hl : plan.length = s.stacks.length) (hour : Int) {i : Nat} (hi : i < s.stacks.length) :
    spS (restS s plan hour) i = spS s i - s.rain.lo ∧ chS (restS s plan hour) i = if savesB (at_ plan i) hour = true then 0 else chS s i := by
  have e : (restS s plan hour).stacks = zeroS s.stacks (closedL plan hour plan.length) := rfl
  have e2 : (restS s plan hour).rain.lo = 0 := rfl
  have hz := zero_at (closedL plan hour plan.length) s.stacks (fun x hx => (closedL_mem hx).1) i hi
  simp only [mem_closed (show i < plan.length by omega)] at hz
  unfold spS chS
  rw [e, e2, Int.toNat_natCast, hz]
  split
  · exact ⟨by simp only; omega, rfl⟩
  · exact ⟨by omega, rfl⟩
/-- When it begins to rain. -/
theorem rains {s : Sh} (hs : ShOk s) {plan : List Int} (hp : planB s plan = true) {h : Int} (h1 : s.rain.lo ≤ h) : sureS s plan ≤ closedN s plan h + mostS (restS s plan h) := by
  obtain ⟨hl, hge⟩ := plan_ge hp
  have hr := hs.r
  have hx := rest_ok hs hl h
  have hF : FeasS (restS s plan h) (fun i => decide (h ≤ at_ plan i) && decide (at_ plan i < spS s i)) := fun b hb => by
    have hc := cnt_hours (plan_hours hs hp) (h := h) (by omega) b
    rw [rest_len]
    rw [hl] at hc
    refine Int.le_trans (cnt_mono fun i hi hq => ?_) hc
    simp only [(rest_at hl h hi).1, Bool.and_eq_true, decide_eq_true_eq] at hq ⊢
    omega
  have h2 := feas_le hx hF
  have e : weightS (restS s plan h) (fun i => decide (h ≤ at_ plan i) && decide (at_ plan i < spS s i)) = wsum s.stacks.length (fun i => chS s i) (fun i => decide (h ≤ at_ plan i) && decide (at_ plan i < spS s i)) := by
    unfold weightS
    rw [rest_len]
    refine wsum_congr (fun _ _ => rfl) fun i hi hq => ?_
    rw [(rest_at hl h hi).2, if_neg]
    unfold savesB
    simp only [Bool.and_eq_true, decide_eq_true_eq] at hq ⊢
    omega
  rw [e] at h2
  have h3 : sureS s plan ≤ closedN s plan h + wsum s.stacks.length (fun i => chS s i) (fun i => decide (h ≤ at_ plan i) && decide (at_ plan i < spS s i)) := by
    unfold sureS closedN
    rw [hl]
    have key : ∀ n, n ≤ s.stacks.length → wsum n (fun i => chS s i) (fun i => savesB (at_ plan i) (spS s i)) ≤ wsum n (fun i => chS s i) (fun i => savesB (at_ plan i) h) + wsum n (fun i => chS s i) (fun i => decide (h ≤ at_ plan i) && decide (at_ plan i < spS s i)) := by
      intro n
      induction n with
      | zero => intro _; simp [wsum]
      | succ n ih =>
        intro hn
        have h1 := ih (by omega)
        have hc := (hs.ch (i := n) (by omega)).1
        unfold wsum
        dsimp only
        by_cases c1 : savesB (at_ plan n) (spS s n) = true
        · rw [if_pos c1]
          by_cases c2 : savesB (at_ plan n) h = true
          · rw [if_pos c2]; split <;> omega
          · rw [if_neg c2, if_pos]
            · omega
            · unfold savesB at c1 c2
              simp only [Bool.and_eq_true, decide_eq_true_eq] at c1 c2 ⊢
              omega
        · rw [if_neg c1]
          split <;> split <;> omega
    exact key _ (Nat.le_refl _)
  omega
theorem closedN_bd {s : Sh} (hs : ShOk s) {plan : List Int} (hl : plan.length = s.stacks.length) (h : Int) : 0 ≤ closedN s plan h ∧ closedN s plan h ≤ 8 * 99 := by
  have := wsum_bd (n := plan.length) (f := fun i => chS s i) (m := 99) (fun i => savesB (at_ plan i) h) (by omega) (fun j hj => hs.ch (by omega))
  have h8 := hs.len
  unfold closedN
  omega
end Go.Proofs
