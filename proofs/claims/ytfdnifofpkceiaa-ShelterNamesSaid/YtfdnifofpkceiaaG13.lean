/- The texts S27, S28, S29, joined. -/
import Derived.Test.YtfdnifofpkceiaaG12
set_option linter.all false
namespace Go.Proofs
open Go.Fs
set_option linter.unusedSimpArgs false
set_option linter.unusedVariables false
set_option maxHeartbeats 4000000
set_option maxRecDepth 8000
def savP (c w : Int) : Bool := decide (0 ≤ c) && decide (c < w)
def verdictR (s : Sh) (plan : List Int) (i : Int) : Int :=
  if (waterL s i.toNat).countP (savP (at_ plan i.toNat)) = (waterL s i.toNat).length then 1 else if (waterL s i.toNat).countP (savP (at_ plan i.toNat)) = 0 then 2 else 3
theorem leakL_len (r : Rg) (rain : Int) (n : Nat) : (leakL r rain n).length = n := by simp [leakL]
theorem waterN_len (r : Rg) (lo : Int) : ∀ m, (waterN r lo m).length = m * szR r
  | 0 => by simp [waterN]
  | m + 1 => by rw [waterN_succ, List.length_append, leakL_len, waterN_len r lo m, Nat.add_mul, Nat.one_mul]
def sumAt (s : Sh) (plan : List Int) (rain : Int) : Int := wsum plan.length (fun i => chS s i) (fun i => savP (at_ plan i) (rain + (at_ s.stacks i).leak.lo))
def leastR (s : Sh) (plan : List Int) : Nat → Int
  | 0 => 1099511627776
  | j + 1 => min (leastR s plan j) (sumAt s plan (s.rain.lo + j))
theorem sumAt_bd {s : Sh} (hs : ShOk s) {plan : List Int} (hl : plan.length = s.stacks.length) (rain : Int) : 0 ≤ sumAt s plan rain ∧ sumAt s plan rain ≤ 8 * 99 := by
  have := wsum_bd (n := plan.length) (f := fun i => chS s i) (m := 99) (fun i => savP (at_ plan i) (rain + (at_ s.stacks i).leak.lo)) (by omega) (fun i hi => hs.ch (by omega))
  have h8 := hs.len
  unfold sumAt
  omega
theorem leastR_bd {s : Sh} (hs : ShOk s) {plan : List Int} (hl : plan.length = s.stacks.length) : ∀ j, 0 ≤ leastR s plan j ∧ leastR s plan j ≤ 1099511627776
  | 0 => by simp [leastR]
  | j + 1 => by
    have h1 := leastR_bd hs hl j
    have h2 := sumAt_bd hs hl (s.rain.lo + j)
    unfold leastR
    omega
def P46 : Specs := P45
theorem P46_app (g : FuncId) : P46 g = (P45) g := rfl
theorem P46_ok : SpecsOk Try.prog P46 := P45_ok
attribute [go_sem] P46_app
theorem P46_flag (d : Option Nat) : flagOf P46 d = none := P45_flag d
attribute [go_sem] P46_flag
end Go.Proofs
namespace Go.Proofs
open Go.Fs
set_option linter.unusedSimpArgs false
set_option linter.unusedVariables false
set_option maxHeartbeats 4000000
set_option maxRecDepth 8000
def bitF (b : Nat) (i : Nat) : Bool := decide (b / 2 ^ i % 2 = 1)
theorem bitF_ex (p : Nat → Bool) : ∀ n, ∃ b, b < 2 ^ n ∧ ∀ i, i < n → bitF b i = p i
  | 0 => ⟨0, by simp, fun i hi => by omega⟩
  | n + 1 => by
    obtain ⟨b, hb, h⟩ := bitF_ex p n
    have h2 : 2 ^ (n + 1) = 2 ^ n + 2 ^ n := by rw [Nat.pow_succ]; omega
    cases hp : p n
    · refine ⟨b, by omega, fun i hi => ?_⟩
      by_cases e : i = n
      · subst e
        rw [hp]
        simp [bitF, Nat.div_eq_of_lt hb]
      · exact h i (by omega)
    · refine ⟨b + 2 ^ n, by omega, fun i hi => ?_⟩
      by_cases e : i = n
      · subst e
        rw [hp]
        have : (b + 2 ^ i) / 2 ^ i = 1 := by rw [Nat.add_div_right _ (Nat.two_pow_pos i), Nat.div_eq_of_lt hb]
        simp [bitF, this]
      · rw [← h i (by omega)]
        have hin : i < n := by omega
        have e1 : 2 ^ n = 2 ^ i * (2 * 2 ^ (n - i - 1)) := by
          rw [← Nat.pow_succ', ← Nat.pow_add]
          congr 1; omega
        unfold bitF
        rw [e1, Nat.add_mul_div_left _ _ (Nat.two_pow_pos i)]
        simp only [decide_eq_decide]
        omega
def manyB (s : Sh) (b : Nat) (h : Nat) : Int := cnt s.stacks.length (fun i => bitF b i && decide (spS s i ≤ (h : Int)))
def fitsR (s : Sh) (b : Nat) : Nat → Bool
  | 0 => true
  | h + 1 => fitsR s b h && decide (manyB s b h ≤ s.hands * h)
def sumB (s : Sh) (b : Nat) : Int := wsum s.stacks.length (fun i => chS s i) (bitF b)
def mostR (s : Sh) : Nat → Int
  | 0 => 0
  | b + 1 => if fitsR s b 19 = true then max (mostR s b) (sumB s b) else mostR s b
theorem fitsR_iff (s : Sh) (b : Nat) : ∀ h, fitsR s b h = true ↔ ∀ k, k < h → manyB s b k ≤ s.hands * k
  | 0 => by simp [fitsR]
  | h + 1 => by
    unfold fitsR
    rw [Bool.and_eq_true, fitsR_iff s b h, decide_eq_true_eq]
    constructor
    · rintro ⟨h1, h2⟩ k hk
      by_cases e : k = h
      · subst e; exact h2
      · exact h1 k (by omega)
    · intro h1
      exact ⟨fun k hk => h1 k (by omega), h1 h (by omega)⟩
theorem mostR_most {s : Sh} (hs : ShOk s) : mostR s (2 ^ s.stacks.length) = mostS s := by
  have hfe : ∀ b, fitsR s b 19 = true ↔ FeasS s (bitF b) := fun b => by
    rw [fitsR_iff]
    unfold FeasS Feas manyB
    constructor
    · intro h k hk; exact h k (by omega)
    · intro h k hk; exact h k (by omega)
  have hup : ∀ N, mostR s N ≤ mostS s := by
    intro N
    induction N with
    | zero => exact most_nonneg hs
    | succ b ih =>
      unfold mostR
      split
      · rename_i hf
        have := feas_le hs ((hfe b).1 hf)
        have e : weightS s (bitF b) = sumB s b := rfl
        omega
      · exact ih
  have hmono : ∀ N k, mostR s N ≤ mostR s (N + k) := by
    intro N k
    induction k with
    | zero => exact Int.le_refl _
    | succ k ih =>
      have e : mostR s (N + (k + 1)) = if fitsR s (N + k) 19 = true then max (mostR s (N + k)) (sumB s (N + k)) else mostR s (N + k) := rfl
      rw [e]
      split <;> omega
  refine Int.le_antisymm (hup _) ?_
  obtain ⟨_, _, hF, _⟩ := kept_spec hs
  obtain ⟨b, hb, hbi⟩ := bitF_ex (memB (keptS s)) s.stacks.length
  have hFb : FeasS s (bitF b) := Feas.sub hF fun i hi hq => by rw [← hbi i hi]; exact hq
  have hw : sumB s b = mostS s := by
    unfold sumB mostS weightS
    exact wsum_congr (fun i hi => hbi i hi) fun _ _ _ => rfl
  have h1 : mostS s ≤ mostR s (b + 1) := by
    unfold mostR
    rw [if_pos ((hfe b).2 hFb)]
    omega
  have h2 := hmono (b + 1) (2 ^ s.stacks.length - (b + 1))
  rw [show b + 1 + (2 ^ s.stacks.length - (b + 1)) = 2 ^ s.stacks.length by omega] at h2
  omega
theorem mostR_bd {s : Sh} (hs : ShOk s) : ∀ N, 0 ≤ mostR s N ∧ mostR s N ≤ 8 * 99
  | 0 => by simp [mostR]
  | b + 1 => by
    have h1 := mostR_bd hs b
    have h2 := wsum_bd (n := s.stacks.length) (f := fun i => chS s i) (m := 99) (bitF b) (by omega) (fun i hi => hs.ch hi)
    have h8 := hs.len
    have e : sumB s b = wsum s.stacks.length (fun i => chS s i) (bitF b) := rfl
    unfold mostR
    split <;> omega
theorem bit_int (b i : Nat) : decide (((b : Int) / 2 ^ ((i : Int)).toNat) % 2 = 1) = bitF b i := by
  unfold bitF
  rw [Int.toNat_natCast, decide_eq_decide]
  have e : (b : Int) / 2 ^ i % 2 = ((b / 2 ^ i % 2 : Nat) : Int) := by simp
  rw [e]
  omega
end Go.Proofs
namespace Go.Proofs
open Go.Fs
set_option linter.unusedSimpArgs false
set_option linter.unusedVariables false
set_option maxHeartbeats 4000000
set_option maxRecDepth 8000
def P4601 : Specs := vecT [17] P46
theorem P4601_app (g : FuncId) (h : ¬ (g = 4000000000)) : P4601 g = P46 g := by unfold P4601 vecT; rw [if_neg h]
theorem P4601_ok : SpecsOk Try.prog P4601 := vecT_ok P46_ok
theorem P4601_flag (d : Nat) : flagOf P4601 (some d) = if d ∈ ([17] : List Nat) then some d else none := flagOf_vecT _ _ d
attribute [go_sem] P4601_app P4601_flag
def leftR (s : Sh) (plan : List Int) (hour : Int) : Sh × Int := (withoutS (dryS s) (closedL plan hour plan.length), wsum plan.length (fun i => chS s i) (fun i => savesB (at_ plan i) hour))
theorem zeroS_app (st : List Sk) (l : List Int) (x : Int) : zeroS st (l ++ [x]) = (zeroS st l).set x.toNat ⟨0, (at_ (zeroS st l) x.toNat).leak⟩ := by
  unfold zeroS; rw [List.foldl_append]; rfl
end Go.Proofs
