/- Plain: how the sure number changes with a shelter. -/
import Derived.Test.YtcbicheohgdlmaaG14
set_option linter.all false
namespace Go.Proofs
open Go.Fs
set_option linter.unusedSimpArgs false
set_option linter.unusedVariables false
set_option maxHeartbeats 4000000
set_option maxRecDepth 8000

theorem ok_iff {s : Sh} : faultS s = 0 ↔ ShOk s := ⟨fault_ok, ok_fault⟩
/-- With spans that are not smaller, as many stacks and hands at least, the same chairs: the sure number is not smaller. -/
theorem most_mono {s x : Sh} (hs : ShOk s) (hx : ShOk x) (hl : x.stacks.length = s.stacks.length) (hh : s.hands ≤ x.hands)
    (hsp : ∀ i, i < s.stacks.length → spS s i ≤ spS x i) (hch : ∀ i, i < s.stacks.length → chS s i = chS x i) : mostS s ≤ mostS x := by
  obtain ⟨_, _, hF, _⟩ := kept_spec hs
  have hFx : FeasS x (memB (keptS s)) := fun b hb => by
    have h1 := hF b hb
    rw [hl]
    refine Int.le_trans (cnt_mono fun i hi hq => ?_) (Int.le_trans h1 (Int.mul_le_mul_of_nonneg_right hh (by omega)))
    simp only [Bool.and_eq_true, decide_eq_true_eq] at hq ⊢
    have := hsp i hi
    exact ⟨hq.1, by omega⟩
  have h2 := feas_le hx hFx
  have e : weightS x (memB (keptS s)) = mostS s := by
    unfold mostS weightS
    rw [hl]
    exact wsum_congr (fun _ _ => rfl) fun i hi _ => (hch i hi).symm
  omega
theorem sure_mono {s x : Sh} {plan : List Int} (hs : ShOk s) (hpl : plan.length = s.stacks.length)
    (hsp : ∀ i, i < s.stacks.length → spS s i ≤ spS x i) (hch : ∀ i, i < s.stacks.length → chS s i = chS x i) : sureS s plan ≤ sureS x plan := by
  unfold sureS
  have e : wsum plan.length (fun i => chS s i) (fun i => savesB (at_ plan i) (spS s i)) = wsum plan.length (fun i => chS x i) (fun i => savesB (at_ plan i) (spS s i)) := wsum_congr (fun _ _ => rfl) fun i hi _ => hch i (by omega)
  rw [e]
  refine wsum_mono (fun i hi hq => ?_) (fun i hi => by have := hs.ch (show i < s.stacks.length by omega); have := hch i (by omega); omega)
  unfold savesB at hq ⊢
  simp only [Bool.and_eq_true, decide_eq_true_eq] at hq ⊢
  have := hsp i (by omega)
  exact ⟨hq.1, by omega⟩
def moreS (s : Sh) (x : Sk) : Sh := ⟨s.stacks ++ [x], s.hands, s.rain⟩
theorem more_at (s : Sh) (x : Sk) {i : Nat} (hi : i < s.stacks.length) : spS (moreS s x) i = spS s i ∧ chS (moreS s x) i = chS s i := by
  unfold spS chS moreS
  rw [Int.toNat_natCast]
  dsimp only
  rw [at_append_left hi]
  exact ⟨rfl, rfl⟩
theorem more_last (s : Sh) (x : Sk) : chS (moreS s x) (s.stacks.length : Nat) = x.chairs := by
  unfold chS moreS
  rw [Int.toNat_natCast]
  simp [at_, List.getD]
theorem cnt_cut {n : Nat} {p : Nat → Bool} (h : p n = false) : cnt (n + 1) p = cnt n p := by
  show cnt n p + (if p n = true then 1 else 0) = _
  rw [h]; simp
theorem most_more {s : Sh} (hs : ShOk s) {x : Sk} (hx : ShOk (moreS s x)) : mostS s ≤ mostS (moreS s x) ∧ mostS (moreS s x) ≤ mostS s + x.chairs := by
  have hlen : (moreS s x).stacks.length = s.stacks.length + 1 := by simp [moreS]
  constructor
  · obtain ⟨_, k2, hF, _⟩ := kept_spec hs
    have hno : memB (keptS s) s.stacks.length = false := by
      cases c : memB (keptS s) s.stacks.length
      · rfl
      · have := k2 _ ((memB_iff _ _).1 c); omega
    have hFx : FeasS (moreS s x) (memB (keptS s)) := fun b hb => by
      have h1 := hF b hb
      rw [hlen, cnt_cut (by rw [hno]; rfl)]
      rw [cnt_congr (q := fun i => memB (keptS s) i && decide (spS s i ≤ (b : Int))) (fun i hi => by have e := (more_at s x hi).1; show (memB (keptS s) i && decide (spS (moreS s x) i ≤ (b : Int))) = _; rw [e])]
      exact h1
    have h2 := feas_le hx hFx
    have e : weightS (moreS s x) (memB (keptS s)) = mostS s := by
      unfold mostS weightS
      rw [hlen]
      show wsum s.stacks.length _ _ + (if memB (keptS s) s.stacks.length = true then _ else 0) = _
      rw [hno, if_neg (by simp), Int.add_zero]
      exact wsum_congr (fun _ _ => rfl) fun i hi _ => (more_at s x hi).2
    omega
  · obtain ⟨_, _, hF, _⟩ := kept_spec hx
    have hFs : FeasS s (memB (keptS (moreS s x))) := fun b hb => by
      have h1 := hF b hb
      rw [hlen] at h1
      refine Int.le_trans ?_ h1
      have e : cnt (s.stacks.length + 1) (fun i => memB (keptS (moreS s x)) i && decide (spS (moreS s x) i ≤ (b : Int))) = cnt s.stacks.length (fun i => memB (keptS (moreS s x)) i && decide (spS (moreS s x) i ≤ (b : Int))) + if (memB (keptS (moreS s x)) s.stacks.length && decide (spS (moreS s x) s.stacks.length ≤ (b : Int))) = true then 1 else 0 := rfl
      rw [e]
      rw [cnt_congr (p := fun i => memB (keptS (moreS s x)) i && decide (spS s i ≤ (b : Int))) (q := fun i => memB (keptS (moreS s x)) i && decide (spS (moreS s x) i ≤ (b : Int))) (fun i hi => by rw [(more_at s x hi).1])]
      split <;> omega
    have h2 := feas_le hs hFs
    have hxc := (hx.st x (by simp [moreS])).1
    have e : mostS (moreS s x) = weightS s (memB (keptS (moreS s x))) + if memB (keptS (moreS s x)) s.stacks.length = true then x.chairs else 0 := by
      unfold mostS weightS
      rw [hlen]
      show wsum s.stacks.length _ _ + (if memB (keptS (moreS s x)) s.stacks.length = true then chS (moreS s x) (s.stacks.length : Nat) else 0) = _
      rw [more_last]
      congr 1
      exact wsum_congr (fun _ _ => rfl) fun i hi _ => (more_at s x hi).2
    rw [e]
    split <;> omega
theorem weight_le {s : Sh} (hs : ShOk s) (A : Nat → Bool) : weightS s A ≤ totalS s := by
  unfold weightS totalS
  exact wsum_mono (fun _ _ _ => rfl) fun i hi => (hs.ch hi).1
theorem most_total {s : Sh} (hs : ShOk s) : mostS s ≤ totalS s := weight_le hs _
/-- Where all chairs are saved, no stack is lost. -/
theorem wsum_lt {n : Nat} {f : Nat → Int} {p : Nat → Bool} (hf : ∀ i, i < n → 0 ≤ f i) {k : Nat} (hk : k < n) (hp : p k = false) (hfk : 0 < f k) : wsum n f p < wsum n f (fun _ => true) := by
  induction n with
  | zero => omega
  | succ n ih =>
    have h1 : wsum n f p ≤ wsum n f (fun _ => true) := wsum_mono (fun _ _ _ => rfl) fun i hi => hf i (by omega)
    show wsum n f p + (if p n = true then f n else 0) < wsum n f (fun _ => true) + (if true = true then f n else 0)
    rw [if_pos rfl]
    by_cases e : k = n
    · subst e
      rw [hp, if_neg (by simp)]
      omega
    · have := ih (fun i hi => hf i (by omega)) (by omega)
      have := hf n (by omega)
      split <;> omega
theorem lost_none {s : Sh} (hs : ShOk s) (h : mostS s = totalS s) : lostN s s.stacks.length = [] := by
  unfold lostN
  rw [List.map_eq_nil_iff, List.filter_eq_nil_iff]
  intro i hi hb
  rw [List.mem_range] at hi
  unfold lostB at hb
  simp only [Bool.and_eq_true, decide_eq_true_eq, minL_two] at hb
  obtain ⟨hch, hmin⟩ := hb
  obtain ⟨_, _, hF, _⟩ := kept_spec hs
  cases c : memB (keptS s) i
  · have := wsum_lt (f := fun i => chS s i) (p := memB (keptS s)) (fun i hi => (hs.ch hi).1) hi c hch
    have e1 : wsum s.stacks.length (fun i => chS s i) (memB (keptS s)) = mostS s := rfl
    have e2 : wsum s.stacks.length (fun i => chS s i) (fun _ => true) = totalS s := rfl
    omega
  · have hsp := hs.sp hi
    obtain ⟨b, hb⟩ := Int.eq_ofNat_of_zero_le hsp.1
    have h1 := hF b (by omega)
    have h2 := cnt_pos (n := s.stacks.length) (i := i) (p := fun i => memB (keptS s) i && decide (spS s i ≤ (b : Int))) hi (by
      simp only [Bool.and_eq_true, decide_eq_true_eq]; exact ⟨c, by omega⟩)
    have h3 : s.hands * (b : Int) = 0 := by
      have := hs.h0
      have hm2 : min s.hands (spS s i) = 0 := of_decide_eq_true hmin
      rcases (show s.hands = 0 ∨ spS s i = 0 by omega) with q | q
      · rw [q]; simp
      · rw [hb] at q
        rw [q]; simp
    exact absurd (Int.le_trans h2 h1) (by rw [h3]; simp)
end Go.Proofs
