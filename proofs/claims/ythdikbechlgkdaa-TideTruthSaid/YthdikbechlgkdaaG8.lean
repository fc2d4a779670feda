/- The texts S4, S5, S6, joined. -/
import Derived.Test.YthdikbechlgkdaaG7
set_option linter.all false
namespace Go.Proofs
open Go.Fs
set_option linter.unusedSimpArgs false
set_option maxHeartbeats 1000000
set_option maxRecDepth 8000
def zipB (l : List Int) (hs : List Rg) : List Bool := List.zipWith (fun x r => inB x r.lo r.hi) l hs
theorem zipB_at {l : List Int} {hs : List Rg} {i : Nat} (h1 : i < l.length) (h2 : i < hs.length) : at_ (zipB l hs) i = inB (at_ l i) (at_ hs i).lo (at_ hs i).hi := by
  simp [at_, zipB, List.getD, List.getElem?_zipWith, h1, h2]
theorem zipB_len (l : List Int) (hs : List Rg) : (zipB l hs).length = min l.length hs.length := by simp [zipB]
theorem zipB_LOk {t : Tb} {l : List Int} (h : HOk t) (hl : l.length = t.heights.length) (hz : (zipB l t.heights).all id = true) : LOk l := by
  refine ⟨by have := h.len; omega, fun x hx => ?_⟩
  obtain ⟨i, hi, rfl⟩ := List.getElem_of_mem hx
  have h2 : i < t.heights.length := by omega
  have h3 : i < (zipB l t.heights).length := by rw [zipB_len]; omega
  have := List.all_eq_true.1 hz _ (at_mem h3)
  rw [zipB_at hi h2] at this
  have hr := h.h _ (at_mem h2)
  have := (inB_iff _ _ _).1 this
  rw [at_get hi] at this
  omega
def listedB (t : Tb) (l : List Int) : Bool := (zipB l t.heights).all id && (decide ((l.length : Int) = t.heights.length) && nearL t.step l)
def P7 : Specs := P6
theorem P7_app (g : FuncId) : P7 g = (P6) g := rfl
theorem P7_ok : SpecsOk Try.prog P7 := P6_ok
attribute [go_sem] P7_app
theorem P7_flag (d : Option Nat) : flagOf P7 d = none := P6_flag d
attribute [go_sem] P7_flag
def isTruthB (t : Tb) (l : List Int) : Bool := listedB t l && t.marks.all (rightM l)
theorem listedB_len {t : Tb} {l : List Int} (h : listedB t l = true) : l.length = t.heights.length := by
  simp only [listedB, Bool.and_eq_true, decide_eq_true_eq] at h
  omega
def P8 : Specs := P7
theorem P8_app (g : FuncId) : P8 g = (P7) g := rfl
theorem P8_ok : SpecsOk Try.prog P8 := P7_ok
attribute [go_sem] P8_app
theorem P8_flag (d : Option Nat) : flagOf P8 d = none := P7_flag d
attribute [go_sem] P8_flag
def truthsL (t : Tb) : List (List Int) := (listsL t).filter (isTruthB t)
def wetN (l : List Int) (level : Int) (n : Nat) : List Int := ((List.range n).filter fun i => decide (level < at_ l i)).map fun i : Nat => (i : Int)
def wetL (l : List Int) (level : Int) : List Int := wetN l level l.length
theorem wetN_succ (l : List Int) (level : Int) (n : Nat) : wetN l level (n + 1) = wetN l level n ++ (if level < at_ l n then [(n : Int)] else []) := by
  simp only [wetN, List.range_succ, List.filter_append, List.map_append]
  by_cases c : level < at_ l n <;> simp [List.filter, c]
theorem wetN_len (l : List Int) (level : Int) (n : Nat) : (wetN l level n).length ≤ n := by
  have := List.length_filter_le (fun i => decide (level < at_ l i)) (List.range n)
  simpa [wetN] using this
end Go.Proofs
namespace Go.Proofs
open Go.Fs
set_option linter.unusedSimpArgs false
set_option maxHeartbeats 1000000
set_option maxRecDepth 8000
def P9 : Specs := P8
theorem P9_app (g : FuncId) : P9 g = (P8) g := rfl
theorem P9_ok : SpecsOk Try.prog P9 := P8_ok
attribute [go_sem] P9_app
theorem P9_flag (d : Option Nat) : flagOf P9 d = none := P8_flag d
attribute [go_sem] P9_flag
def soonestL (l : List Int) (level : Int) : Int :=
  match wetL l level with
  | [] => l.length
  | w :: _ => w
def widerR (r : Rg) (n : Int) : Rg := ⟨min r.lo n, max r.hi n⟩
def emptyR : Rg := ⟨1099511627776, -1⟩
theorem fold_take {α β : Type} [Inhabited α] {l : List α} {f : β → α → β} {b : β} {i : Nat} (h : i < l.length) : (l.take (i + 1)).foldl f b = f ((l.take i).foldl f b) (at_ l i) := by
  rw [take_succ_at h, List.foldl_append]; rfl
def P10 : Specs := P9
theorem P10_app (g : FuncId) : P10 g = (P9) g := rfl
theorem P10_ok : SpecsOk Try.prog P10 := P9_ok
attribute [go_sem] P10_app
theorem P10_flag (d : Option Nat) : flagOf P10 d = none := P9_flag d
attribute [go_sem] P10_flag
def boundsL (ls : List (List Int)) (hour : Int) : Rg := ls.foldl (fun r l => widerR r (at_ l hour.toNat)) emptyR
def reachL (ls : List (List Int)) (level : Int) : Rg := ls.foldl (fun r l => widerR r (soonestL l level)) emptyR
def wetMany (ls : List (List Int)) (level : Int) (hour : Nat) : Int := ls.foldl (fun n l => if level < at_ l hour then n + 1 else n) 0
def verdictL (ls : List (List Int)) (level hour : Int) : Int :=
  if wetMany ls level hour.toNat = ls.length then 1 else if wetMany ls level hour.toNat = 0 then 2 else 3
theorem wetMany_bd (ls : List (List Int)) (level : Int) (hour : Nat) : 0 ≤ wetMany ls level hour ∧ wetMany ls level hour ≤ ls.length := by
  have key : ∀ (ls : List (List Int)) (n : Int), n ≤ ls.foldl (fun n l => if level < at_ l hour then n + 1 else n) n ∧ ls.foldl (fun n l => if level < at_ l hour then n + 1 else n) n ≤ n + ls.length := by
    intro ls
    induction ls with
    | nil => intro n; simp
    | cons l ls ih =>
      intro n
      simp only [List.foldl_cons, List.length_cons]
      by_cases c : level < at_ l hour
      · have := ih (n + 1)
        rw [if_pos c]; omega
      · have := ih n
        rw [if_neg c]; omega
  have := key ls 0
  unfold wetMany
  omega
def isDryB (ls : List (List Int)) (a b level : Int) : Bool := ls.all fun l => decide (topL l a b ≤ level)
def dryN (ls : List (List Int)) (a b : Int) : Nat → Int → Int
  | 0, n => n
  | f + 1, n => if isDryB ls a b n then n else dryN ls a b f (n + 1)
def dryL (ls : List (List Int)) (a b : Int) : Int := dryN ls a b 99 0
def P11 : Specs := P10
theorem P11_app (g : FuncId) : P11 g = (P10) g := rfl
theorem P11_ok : SpecsOk Try.prog P11 := P10_ok
attribute [go_sem] P11_app
theorem P11_flag (d : Option Nat) : flagOf P11 d = none := P10_flag d
attribute [go_sem] P11_flag
def P12 : Specs := P11
theorem P12_app (g : FuncId) : P12 g = (P11) g := rfl
theorem P12_ok : SpecsOk Try.prog P12 := P11_ok
attribute [go_sem] P12_app
theorem P12_flag (d : Option Nat) : flagOf P12 d = none := P11_flag d
attribute [go_sem] P12_flag
end Go.Proofs
namespace Go.Proofs
open Go.Fs
set_option linter.unusedSimpArgs false
set_option maxHeartbeats 1000000
set_option maxRecDepth 8000
theorem pow_bd : ∀ k : Nat, k ≤ 8 → (1 : Int) ≤ 2 ^ k ∧ (2 : Int) ^ k ≤ 256 := by decide
theorem bits64 : ((IntKind.i64.bits : Nat) : Int) = 64 := rfl
theorem pow_nat (k : Nat) : (1 * 2 ^ k : Int) = ((2 ^ k : Nat) : Int) := by simp
def fullT (t : Tb) : Int := 2 ^ t.marks.length - 1
def rb (l : List Int) (ms : List Mk) : Nat → Nat
  | 0 => 0
  | n + 1 => if rightM l (at_ ms n) then rb l ms n ||| 2 ^ n else rb l ms n
theorem rb_lt (l : List Int) (ms : List Mk) (n : Nat) : rb l ms n < 2 ^ n := by
  induction n with
  | zero => simp [rb]
  | succ n ih =>
    have h1 : 2 ^ n < 2 ^ (n + 1) := Nat.pow_lt_pow_right (by omega) (by omega)
    unfold rb
    split
    · exact Nat.or_lt_two_pow (by omega) h1
    · omega
theorem rb_bd (l : List Int) (ms : List Mk) (n : Nat) (h : n ≤ 8) : rb l ms n < 256 := by
  have h1 := rb_lt l ms n
  have h2 : 2 ^ n ≤ 2 ^ 8 := Nat.pow_le_pow_right (by omega) h
  omega
def allN (t : Tb) (n : Nat) : List Int := ((listsL t).take n).map fun l => (rb l t.marks t.marks.length : Int)
def allL (t : Tb) : List Int := allN t (listsL t).length
theorem allN_succ (t : Tb) (i : Nat) (h : i < (listsL t).length) : allN t (i + 1) = allN t i ++ [(rb (at_ (listsL t) i) t.marks t.marks.length : Int)] := by
  unfold allN; rw [take_succ_at h, List.map_append]; rfl
theorem allN_len (t : Tb) (i : Nat) (h : i ≤ (listsL t).length) : (allN t i).length = i := by simp [allN]; omega
def canB (all : List Int) (marks : Int) : Bool := all.any fun x => decide (((x.toNat &&& marks.toNat : Nat) : Int) = marks)
theorem any_take {α : Type} [Inhabited α] {l : List α} {p : α → Bool} {i : Nat} (h : i < l.length) : (l.take (i + 1)).any p = ((l.take i).any p || p (at_ l i)) := by
  rw [take_succ_at h, List.any_append]; simp
theorem any_at {α : Type} [Inhabited α] {l : List α} {p : α → Bool} {i : Nat} (h : i < l.length) (hp : p (at_ l i) = true) : l.any p = true := by
  rw [List.any_eq_true]; exact ⟨_, at_mem h, hp⟩
def BOk (x : Int) : Prop := 0 ≤ x ∧ x ≤ 511
def blN (b : Nat) : Nat := if b = 0 then 0 else b.log2 + 1
def bitsN (b n : Nat) : List Int := ((List.range n).filter fun p => b.testBit p).map fun p : Nat => (p : Int)
def bitsL (b : Nat) : List Int := bitsN b (blN b)
theorem bitsN_succ (b n : Nat) : bitsN b (n + 1) = bitsN b n ++ (if b.testBit n then [(n : Int)] else []) := by
  simp only [bitsN, List.range_succ, List.filter_append, List.map_append]
  cases c : b.testBit n <;> simp [List.filter, c]
theorem bitsN_len (b n : Nat) : (bitsN b n).length ≤ n := by
  have := List.length_filter_le (fun p => b.testBit p) (List.range n)
  simpa [bitsN] using this
theorem blN_lt {b p : Nat} (h : p < blN b) : 0 < b / 2 ^ p := by
  unfold blN at h
  split at h
  · omega
  · rename_i hb
    have : 2 ^ p ≤ b := (Nat.le_log2 hb).1 (by omega)
    exact Nat.div_pos this (Nat.two_pow_pos p)
theorem blN_end (b : Nat) : b / 2 ^ blN b = 0 := by
  unfold blN
  split
  · rename_i h; subst h; rfl
  · rename_i h
    exact Nat.div_eq_of_lt ((Nat.log2_lt h).1 (by omega))
theorem blN_le {b : Nat} (h : b ≤ 511) : blN b ≤ 9 := by
  unfold blN
  split
  · omega
  · rename_i hb
    have := (Nat.log2_lt (k := 9) hb).2 (by omega)
    omega
def P13 : Specs := P12
theorem P13_app (g : FuncId) : P13 g = (P12) g := rfl
theorem P13_ok : SpecsOk Try.prog P13 := P12_ok
attribute [go_sem] P13_app
theorem P13_flag (d : Option Nat) : flagOf P13 d = none := P12_flag d
attribute [go_sem] P13_flag
def beforeL : List Int → List Int → Bool
  | [], [] => false
  | [], _ :: _ => true
  | _ :: _, [] => false
  | a :: r, b :: s => if a = b then beforeL r s else decide (a < b)
theorem drop_at {α : Type} [Inhabited α] {l : List α} {i : Nat} (h : i < l.length) : l.drop i = at_ l i :: l.drop (i + 1) := by
  rw [at_get h]; exact List.drop_eq_getElem_cons h
def shorterB (a b : List Int) : Bool := decide ((a.length : Int) < b.length) || (decide ((a.length : Int) = b.length) && beforeL a b)
def P14 : Specs := P13
theorem P14_app (g : FuncId) : P14 g = (P13) g := rfl
theorem P14_ok : SpecsOk Try.prog P14 := P13_ok
attribute [go_sem] P14_app
theorem P14_flag (d : Option Nat) : flagOf P14 d = none := P13_flag d
attribute [go_sem] P14_flag
def P15 : Specs := P14
theorem P15_app (g : FuncId) : P15 g = (P14) g := rfl
theorem P15_ok : SpecsOk Try.prog P15 := P14_ok
attribute [go_sem] P15_app
theorem P15_flag (d : Option Nat) : flagOf P15 d = none := P14_flag d
attribute [go_sem] P15_flag
def firstN (all : List Int) : Nat → Nat → Int
  | 0, _ => -1
  | f + 1, n => if canB all (2 * 2 ^ n - 1) then firstN all f (n + 1) else n
def firstL (t : Tb) (all : List Int) : Int := firstN all t.marks.length 0
def leaveN (all : List Int) (full : Nat) : Nat → List Int
  | 0 => bitsL full
  | n + 1 => if shorterB (bitsL n) (leaveN all full n) && canB all ((full - (full &&& n) : Nat) : Int) then bitsL n else leaveN all full n
def leaveL (t : Tb) (all : List Int) : List Int := leaveN all (2 ^ t.marks.length - 1) (2 ^ t.marks.length)
theorem bitsL_len {b : Nat} (h : b ≤ 511) : (bitsL b).length ≤ 9 := by
  have := bitsN_len b (blN b)
  have := blN_le h
  unfold bitsL; omega
theorem leaveN_len {all : List Int} {full : Nat} (h : full ≤ 511) : ∀ n, n ≤ 512 → (leaveN all full n).length ≤ 9
  | 0, _ => bitsL_len h
  | n + 1, hn => by
    unfold leaveN
    split
    · exact bitsL_len (by omega)
    · exact leaveN_len h n (by omega)
def P16 : Specs := P15
theorem P16_app (g : FuncId) : P16 g = (P15) g := rfl
theorem P16_ok : SpecsOk Try.prog P16 := P15_ok
attribute [go_sem] P16_app
theorem P16_flag (d : Option Nat) : flagOf P16 d = none := P15_flag d
attribute [go_sem] P16_flag
end Go.Proofs
