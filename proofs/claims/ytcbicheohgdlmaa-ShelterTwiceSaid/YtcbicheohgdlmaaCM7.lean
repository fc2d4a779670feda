/- Plain: the sure number by its parts; each stack twice; two stacks that exchange their numbers. -/
import Derived.Test.YtcbicheohgdlmaaCM6
set_option linter.all false
namespace Go.Proofs
open Go.Fs
set_option linter.unusedSimpArgs false
set_option linter.unusedVariables false
set_option maxHeartbeats 4000000
set_option maxRecDepth 8000

theorem cnt_add (n m : Nat) (p : Nat → Bool) : cnt (n + m) p = cnt n p + cnt m (fun i => p (n + i)) := by
  induction m with
  | zero => simp [cnt]
  | succ m ih =>
    show cnt (n + m) p + (if p (n + m) = true then 1 else 0) = cnt n p + (cnt m (fun i => p (n + i)) + if p (n + m) = true then 1 else 0)
    rw [ih]; omega
theorem sumTo_two (m : Nat) (f : Nat → Int) : sumTo m (fun c => 2 * f c) = 2 * sumTo m f := by
  induction m with
  | zero => rfl
  | succ m ih =>
    show sumTo m (fun c => 2 * f c) + 2 * f m = 2 * (sumTo m f + f m)
    rw [ih]; omega
/-- Of the first hours, one with the least part. -/
theorem least_ex (s : Sh) (c : Int) : ∃ b : Nat, b ≤ 18 ∧ ∀ k : Nat, k ≤ 18 → partS s c b ≤ partS s c k := by
  obtain ⟨⟨h1, h2⟩, h3⟩ := least_spec s c 19
  obtain ⟨b, hb⟩ := Int.eq_ofNat_of_zero_le h1
  exact ⟨b, by omega, fun k hk => by rw [← hb]; exact h3 k (by omega)⟩
theorem great_99 {s : Sh} (hs : ShOk s) : greatS s.stacks ≤ ((99 : Nat) : Int) := by
  have := (great_spec s.stacks (fun x hx => (hs.st x hx).1)).2.1
  omega
def lstP (s : Sh) (c : Nat) : Int := partS s ((c : Int) + 1) (leastS s ((c : Int) + 1) 19)
theorem lstP_spec (s : Sh) (c : Nat) : (∃ b : Nat, b ≤ 18 ∧ lstP s c = partS s ((c : Int) + 1) b) ∧ ∀ b : Nat, b ≤ 18 → lstP s c ≤ partS s ((c : Int) + 1) b := by
  obtain ⟨⟨h1, h2⟩, h3⟩ := least_spec s ((c : Int) + 1) 19
  obtain ⟨b, hb⟩ := Int.eq_ofNat_of_zero_le h1
  unfold lstP
  refine ⟨⟨b, by omega, by rw [hb]⟩, fun k hk => h3 k (by omega)⟩
theorem most_lst {s : Sh} (hs : ShOk s) : mostS s = sumTo 99 (lstP s) := most_parts hs 99 (great_99 hs) _ fun c _ => lstP_spec s c
def twiceS (x : Sh) : Sh := ⟨x.stacks ++ x.stacks, 2 * x.hands, x.rain⟩
theorem at_app_right {α : Type} [Inhabited α] (l r : List α) (i : Nat) : at_ (l ++ r) (l.length + i) = at_ r i := by
  simp [at_, List.getD, List.getElem?_append_right]
theorem twice_part (x : Sh) (c b : Int) : partS (twiceS x) c b = 2 * partS x c b := by
  have hlen : (twiceS x).stacks.length = x.stacks.length + x.stacks.length := by simp [twiceS]
  have e1 : ∀ i, i < x.stacks.length → (spS (twiceS x) i = spS x i ∧ chS (twiceS x) i = chS x i) := fun i hi => by
    unfold spS chS twiceS
    rw [Int.toNat_natCast]
    dsimp only
    rw [at_append_left hi]
    exact ⟨rfl, rfl⟩
  have e2 : ∀ i, (spS (twiceS x) (x.stacks.length + i : Nat) = spS x i ∧ chS (twiceS x) (x.stacks.length + i : Nat) = chS x i) := fun i => by
    unfold spS chS twiceS
    rw [Int.toNat_natCast, Int.toNat_natCast]
    dsimp only
    rw [at_app_right]
    exact ⟨rfl, rfl⟩
  unfold partS partN
  rw [hlen, cnt_add]
  rw [cnt_congr (p := fun i => decide (c ≤ chS (twiceS x) i) && decide (b < spS (twiceS x) i)) (q := fun i => decide (c ≤ chS x i) && decide (b < spS x i)) (fun i hi => by rw [(e1 i hi).1, (e1 i hi).2])]
  rw [cnt_congr (p := fun i => decide (c ≤ chS (twiceS x) (x.stacks.length + i : Nat)) && decide (b < spS (twiceS x) (x.stacks.length + i : Nat))) (q := fun i => decide (c ≤ chS x i) && decide (b < spS x i)) (fun i hi => by rw [(e2 i).1, (e2 i).2])]
  have e3 : (twiceS x).hands * b = 2 * (x.hands * b) := by show 2 * x.hands * b = _; rw [Int.mul_assoc]
  have e4 : ∀ a k : Int, 2 * a + (k + k) = 2 * (a + k) := fun a k => by omega
  rw [e3]
  exact e4 _ _
theorem twice_most {x : Sh} (hx : ShOk x) (hy : ShOk (twiceS x)) : mostS (twiceS x) = 2 * mostS x := by
  rw [most_lst hx, ← sumTo_two, most_parts hy 99 (great_99 hy) (fun c => 2 * lstP x c)]
  intro c _
  obtain ⟨⟨b, hb, e⟩, h2⟩ := lstP_spec x c
  refine ⟨⟨b, hb, by show 2 * lstP x c = _; rw [e, twice_part]⟩, fun k hk => ?_⟩
  show 2 * lstP x c ≤ _
  rw [twice_part]
  exact Int.mul_le_mul_of_nonneg_left (h2 k hk) (by omega)
def firstS (s : Sh) : Sh := ⟨s.stacks.take (min 4 s.stacks.length), min 1 s.hands, s.rain⟩
theorem first_ok {s : Sh} (hs : ShOk s) : ShOk (firstS s) ∧ ShOk (twiceS (firstS s)) := by
  have h0 := hs.h0
  have h3 := hs.h3
  have hl := hs.len
  have hm : ∀ x ∈ s.stacks.take (min 4 s.stacks.length), x ∈ s.stacks := fun x hx => List.mem_of_mem_take hx
  have hlen : (s.stacks.take (min 4 s.stacks.length)).length ≤ 4 := by rw [List.length_take]; omega
  refine ⟨⟨?_, ?_, ?_, hs.r, fun x hx => hs.st x (hm x hx)⟩, ⟨?_, ?_, ?_, hs.r, fun x hx => hs.st x (hm x ?_)⟩⟩
  · show (s.stacks.take (min 4 s.stacks.length)).length ≤ 8; omega
  · show 0 ≤ min 1 s.hands; omega
  · show min 1 s.hands ≤ 3; omega
  · show (s.stacks.take (min 4 s.stacks.length) ++ s.stacks.take (min 4 s.stacks.length)).length ≤ 8; rw [List.length_append]; omega
  · show 0 ≤ 2 * min 1 s.hands; omega
  · show 2 * min 1 s.hands ≤ 3; omega
  · have hx : x ∈ s.stacks.take (min 4 s.stacks.length) ++ s.stacks.take (min 4 s.stacks.length) := hx
    rcases List.mem_append.1 hx with q | q <;> exact q
theorem most_of_parts {s x : Sh} (hs : ShOk s) (hx : ShOk x) (h : ∀ c b : Int, partS x c b = partS s c b) : mostS x = mostS s := by
  rw [most_lst hs]
  refine most_parts hx 99 (great_99 hx) _ fun c _ => ?_
  simp only [h]
  exact lstP_spec s c
theorem cnt_drop {n a : Nat} (p : Nat → Bool) (ha : a < n) : cnt n p = cnt n (fun i => p i && !decide (i = a)) + if p a = true then 1 else 0 := by
  rw [cnt_split n p (fun i => decide (i = a))]
  have e : cnt n (fun i => p i && decide (i = a)) = if p a = true then 1 else 0 := by
    induction n with
    | zero => omega
    | succ n ih =>
      show cnt n _ + (if (p n && decide (n = a)) = true then 1 else 0) = _
      by_cases q : a = n
      · subst q
        rw [cnt_zero fun i hi => by rw [Bool.and_eq_false_iff, decide_eq_false_iff_not]; omega]
        simp
      · rw [ih (by omega)]
        have : decide (n = a) = false := by simp; omega
        rw [this]
        simp
  omega
/-- Two numbers exchanged. -/
theorem cnt_swap {n a b : Nat} {p q : Nat → Bool} (ha : a < n) (hb : b < n) (h1 : q a = p b) (h2 : q b = p a) (h : ∀ i, i ≠ a → i ≠ b → q i = p i) : cnt n q = cnt n p := by
  by_cases e : a = b
  · subst e
    refine cnt_congr fun i hi => ?_
    by_cases e : i = a
    · subst e; exact h1
    · exact h i e e
  · rw [cnt_drop q ha, cnt_drop p ha, cnt_drop (fun i => q i && !decide (i = a)) hb, cnt_drop (fun i => p i && !decide (i = a)) hb, h1, h2]
    have e1 : decide (b = a) = false := by simp; omega
    rw [e1]
    simp only [Bool.not_false, Bool.and_true]
    rw [cnt_congr (p := fun i => (q i && !decide (i = a)) && !decide (i = b)) (q := fun i => (p i && !decide (i = a)) && !decide (i = b)) fun i hi => ?_]
    · omega
    · by_cases q1 : i = a
      · simp [q1]
      · by_cases q2 : i = b
        · simp [q2]
        · rw [h i q1 q2]
def swapL (l : List Sk) (a b : Nat) : List Sk := (l.set a (at_ l b)).set b (at_ l a)
def swapS (s : Sh) (a b : Nat) : Sh := ⟨swapL s.stacks a b, s.hands, s.rain⟩
theorem swapL_len (l : List Sk) (a b : Nat) : (swapL l a b).length = l.length := by simp [swapL]
theorem swapL_at {l : List Sk} {a b i : Nat} (hi : i < l.length) : at_ (swapL l a b) i = if i = b then at_ l a else if i = a then at_ l b else at_ l i := by
  unfold swapL
  rw [at_set_eq' (by simpa using hi), at_set_eq' hi]
  simp only [eq_comm (a := i)]
theorem swap_ok {s : Sh} (hs : ShOk s) {a b : Nat} (ha : a < s.stacks.length) (hb : b < s.stacks.length) : ShOk (swapS s a b) := by
  refine ⟨by show (swapL s.stacks a b).length ≤ 8; rw [swapL_len]; exact hs.len, hs.h0, hs.h3, hs.r, fun x hx => ?_⟩
  have hx : x ∈ swapL s.stacks a b := hx
  obtain ⟨i, hi, rfl⟩ := mem_at hx
  rw [swapL_len] at hi
  rw [swapL_at hi]
  split
  · exact hs.st _ (at_mem ha)
  · split
    · exact hs.st _ (at_mem hb)
    · exact hs.st _ (at_mem hi)
theorem swap_part (s : Sh) {a b : Nat} (ha : a < s.stacks.length) (hb : b < s.stacks.length) (c k : Int) : partS (swapS s a b) c k = partS s c k := by
  have hl : (swapS s a b).stacks.length = s.stacks.length := swapL_len _ _ _
  have e : ∀ i, i < s.stacks.length → at_ (swapS s a b).stacks i = if i = b then at_ s.stacks a else if i = a then at_ s.stacks b else at_ s.stacks i := fun i hi => swapL_at hi
  unfold partS partN
  rw [hl]
  congr 1
  rw [cnt_congr (q := fun i => if i < s.stacks.length then decide (c ≤ chS (swapS s a b) i) && decide (k < spS (swapS s a b) i) else decide (c ≤ chS s i) && decide (k < spS s i)) fun i hi => by rw [if_pos hi]]
  have eC : ∀ (i j : Nat), at_ (swapS s a b).stacks i = at_ s.stacks j → chS (swapS s a b) i = chS s j ∧ spS (swapS s a b) i = spS s j := fun i j h => by
    have hr : (swapS s a b).rain = s.rain := rfl
    unfold chS spS
    rw [Int.toNat_natCast, Int.toNat_natCast, h, hr]
    exact ⟨rfl, rfl⟩
  refine cnt_swap ha hb ?_ ?_ fun i h1 h2 => ?_
  · have h := e a ha
    have : at_ (swapS s a b).stacks a = at_ s.stacks b := by
      rw [h]
      by_cases q : a = b
      · rw [if_pos q, q]
      · rw [if_neg q, if_pos rfl]
    obtain ⟨q1, q2⟩ := eC _ _ this
    dsimp only
    rw [if_pos ha, q1, q2]
  · have h := e b hb
    rw [if_pos rfl] at h
    obtain ⟨q1, q2⟩ := eC _ _ h
    dsimp only
    rw [if_pos hb, q1, q2]
  · dsimp only
    split
    · rename_i hi
      have h := e i hi
      rw [if_neg h2, if_neg h1] at h
      obtain ⟨q1, q2⟩ := eC _ _ h
      rw [q1, q2]
    · rfl
theorem swap_most {s : Sh} (hs : ShOk s) {a b : Nat} (ha : a < s.stacks.length) (hb : b < s.stacks.length) : mostS (swapS s a b) = mostS s :=
  most_of_parts hs (swap_ok hs ha hb) (swap_part s ha hb)
theorem ext_at {l r : List Sk} (hl : l.length = r.length) (h : ∀ i, i < l.length → at_ l i = at_ r i) : l = r := by
  refine List.ext_getElem hl fun i h1 h2 => ?_
  have := h i h1
  rwa [at_get h1, at_get h2] at this
theorem swap_without (s : Sh) {a b : Nat} (ha : a < s.stacks.length) (hb : b < s.stacks.length) : withoutS (swapS s a b) [(b : Int)] = swapS (withoutS s [(a : Int)]) a b := by
  have e1 : (withoutS (swapS s a b) [(b : Int)]) = ⟨(swapL s.stacks a b).set b ⟨0, (at_ (swapL s.stacks a b) b).leak⟩, s.hands, s.rain⟩ := rfl
  have e2 : swapS (withoutS s [(a : Int)]) a b = ⟨swapL (s.stacks.set a ⟨0, (at_ s.stacks a).leak⟩) a b, s.hands, s.rain⟩ := rfl
  rw [e1, e2]
  congr 1
  refine ext_at (by simp [swapL_len]) fun i hi => ?_
  simp only [List.length_set, swapL_len] at hi
  rw [at_set_eq' (by simpa [swapL_len] using hi), swapL_at hi, swapL_at hb, swapL_at (l := s.stacks.set a _) (by simpa using hi), if_pos rfl, at_set_eq' ha, at_set_eq' hb, at_set_eq' hi, if_pos rfl]
  by_cases q : b = i
  · subst q; simp
  · have q' : ¬ i = b := fun e => q e.symm
    rw [if_neg q, if_neg q', if_neg q']
    by_cases q2 : a = i
    · subst q2
      rw [if_pos rfl, if_pos rfl]
      have : ¬ a = b := q'
      rw [if_neg this]
    · have q2' : ¬ i = a := fun e => q2 e.symm
      rw [if_neg q2', if_neg q2', if_neg q2]
theorem swap_worth {s : Sh} (hs : ShOk s) {a b : Nat} (ha : a < s.stacks.length) (hb : b < s.stacks.length) : worthS (swapS s a b) b = worthS s a := by
  unfold worthS
  rw [swap_most hs ha hb, swap_without s ha hb, swap_most (drop_ok hs ha) (by rw [drop_len]; exact ha) (by rw [drop_len]; exact hb)]
end Go.Proofs
