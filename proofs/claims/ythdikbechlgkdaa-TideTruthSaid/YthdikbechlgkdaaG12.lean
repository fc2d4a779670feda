/- The texts S19, S20, S21, S22, joined. -/
import Derived.Test.YthdikbechlgkdaaG11
set_option linter.all false
namespace Go.Proofs
open Go.Fs
set_option linter.unusedSimpArgs false
set_option linter.unusedVariables false
set_option maxHeartbeats 1000000
def Poss (t : Tb) (S : Nat → Prop) : Prop := ∃ p, listedB t p = true ∧ ∀ k, k < t.marks.length → S k → rightM p (at_ t.marks k) = true
theorem Poss.mono {t : Tb} {S T : Nat → Prop} (h : Poss t S) (hs : ∀ k, k < t.marks.length → T k → S k) : Poss t T := by
  obtain ⟨p, h1, h2⟩ := h
  exact ⟨p, h1, fun k hk hT => h2 k hk (hs k hk hT)⟩
theorem right2_iff {t : Tb} {l out : List Int} {n : Nat} : right2 t l out n = true ↔ ∀ k, k < n → out.contains (k : Int) = false → rightM l (at_ t.marks k) = true := by
  unfold right2
  rw [List.all_eq_true]
  constructor
  · intro h k hk ho
    have := h k (by simpa using hk)
    rw [ho] at this
    simpa using this
  · intro h k hk
    cases c : out.contains (k : Int)
    · simpa using h k (by simpa using hk) c
    · simp
theorem possB_iff {t : Tb} (hv : VOk t) (out : List Int) : possB t out = true ↔ Poss t (fun k => out.contains (k : Int) = false) := by
  unfold possB Poss
  rw [List.any_eq_true]
  have key : ∀ p, listedB t p = true → (right2 t (pad10 p) out t.marks.length = true ↔ ∀ k, k < t.marks.length → out.contains (k : Int) = false → rightM p (at_ t.marks k) = true) := by
    intro p hp
    have hl := listedB_len hp
    have h10 := hv.hok.len
    rw [right2_iff]
    have e : ∀ k, k < t.marks.length → rightM (pad10 p) (at_ t.marks k) = rightM p (at_ t.marks k) := fun k hk => by
      have := hv.mok.m _ (at_mem hk)
      exact rightM_pad (by omega) (by omega) (by omega)
    constructor
    · intro h k hk ho; rw [← e k hk]; exact h k hk ho
    · intro h k hk ho; rw [e k hk]; exact h k hk ho
  constructor
  · rintro ⟨p, hp, hr⟩
    have hl := (mem_seqL hv.hok hv.last p).1 hp
    exact ⟨p, hl, (key p hl).1 hr⟩
  · rintro ⟨p, hl, hr⟩
    exact ⟨p, (mem_seqL hv.hok hv.last p).2 hl, (key p hl).2 hr⟩
theorem rb_testBit (l : List Int) (ms : List Mk) : ∀ n k, (rb l ms n).testBit k = (decide (k < n) && rightM l (at_ ms k))
  | 0, k => by simp [rb]
  | n + 1, k => by
    have ih := rb_testBit l ms n k
    unfold rb
    by_cases e : k = n
    · subst e
      cases c : rightM l (at_ ms k)
      · rw [if_neg (by simp), ih, c]; simp
      · rw [if_pos rfl, Nat.testBit_or, ih, c, Nat.testBit_two_pow]; simp
    · have e2 : decide (k < n + 1) = decide (k < n) := by rw [decide_eq_decide]; omega
      rw [e2, ← ih]
      split
      · rw [Nat.testBit_or, Nat.testBit_two_pow, decide_eq_false (by omega), Bool.or_false]
      · rfl
theorem and_eq_iff (x m : Nat) : x &&& m = m ↔ ∀ k, m.testBit k = true → x.testBit k = true := by
  constructor
  · intro h k hk
    have := congrArg (fun y => y.testBit k) h
    simp only [Nat.testBit_and, hk, Bool.and_true] at this
    exact this
  · intro h
    refine Nat.eq_of_testBit_eq fun k => ?_
    rw [Nat.testBit_and]
    cases c : m.testBit k
    · simp
    · rw [h k c]; rfl
theorem lt_of_testBit {m n k : Nat} (h : m < 2 ^ n) (hk : m.testBit k = true) : k < n := by
  rcases Nat.lt_or_ge k n with c | c
  · exact c
  · rw [Nat.testBit_lt_two_pow (Nat.lt_of_lt_of_le h (Nat.pow_le_pow_right (by omega) c))] at hk
    cases hk
theorem canB_iff {t : Tb} (hv : VOk t) {m : Nat} (hm : m < 2 ^ t.marks.length) : canB (allL t) (m : Int) = true ↔ Poss t (fun k => m.testBit k = true) := by
  unfold canB allL allN Poss
  rw [List.take_length, List.any_eq_true]
  have key : ∀ p, ((((rb p t.marks t.marks.length : Nat) : Int).toNat &&& (m : Int).toNat : Nat) : Int) = (m : Int) ↔ ∀ k, k < t.marks.length → m.testBit k = true → rightM p (at_ t.marks k) = true := by
    intro p
    rw [Int.toNat_natCast, Int.toNat_natCast, Int.natCast_inj, and_eq_iff]
    constructor
    · intro h k hk hb
      have := h k hb
      rw [rb_testBit] at this
      simp at this
      exact this.2
    · intro h k hb
      have hk := lt_of_testBit hm hb
      rw [rb_testBit, h k hk hb]
      simpa using hk
  constructor
  · rintro ⟨x, hx, hd⟩
    obtain ⟨p, hp, rfl⟩ := List.mem_map.1 hx
    exact ⟨p, (mem_listsL hv.hok hv.many p).1 hp, (key p).1 (by simpa using hd)⟩
  · rintro ⟨p, hp, hr⟩
    exact ⟨_, List.mem_map.2 ⟨p, (mem_listsL hv.hok hv.many p).2 hp, rfl⟩, by simpa using (key p).2 hr⟩
theorem vok_marks {t : Tb} (hv : VOk t) {ms : List Mk} (hl : ms.length ≤ 7) (hm : ∀ m ∈ ms, 0 ≤ m.frm ∧ m.frm ≤ m.til ∧ m.til < t.heights.length) : VOk { t with marks := ms } :=
  ⟨⟨hv.hok.len, hv.hok.h, hv.hok.s0, hv.hok.s1⟩, ⟨hl, hm⟩, hv.last, hv.lv, hv.lvb, hv.many, hv.some⟩
theorem vok_take {t : Tb} (hv : VOk t) (n : Nat) : VOk { t with marks := t.marks.take n } :=
  vok_marks hv (by have := hv.mok.len; simp; omega) fun m hm => hv.mok.m m (List.mem_of_mem_take hm)
theorem at_takeM {l : List Mk} {n i : Nat} (h : i < n) : at_ (l.take n) i = at_ l i := by
  simp [at_, List.getD, List.getElem?_take, h]
theorem poss_take {t : Tb} {n : Nat} (hn : n ≤ t.marks.length) (S : Nat → Prop) : Poss { t with marks := t.marks.take n } S ↔ Poss t (fun k => k < n ∧ S k) := by
  unfold Poss
  have hlen : (t.marks.take n).length = n := by simp; omega
  constructor
  · rintro ⟨p, h1, h2⟩
    refine ⟨p, h1, fun k hk hS => ?_⟩
    have := h2 k (by dsimp only; omega) hS.2
    dsimp only at this
    rwa [at_takeM hS.1] at this
  · rintro ⟨p, h1, h2⟩
    refine ⟨p, h1, fun k hk hS => ?_⟩
    dsimp only at hk ⊢
    rw [at_takeM (by omega)]
    exact h2 k (by omega) ⟨by omega, hS⟩
theorem pow_sub_testBit (n k : Nat) : (2 ^ n - 1).testBit k = decide (k < n) := Nat.testBit_two_pow_sub_one n k
theorem two_pow_int (n : Nat) : ((2 : Int) * 2 ^ n - 1) = ((2 ^ (n + 1) - 1 : Nat) : Int) := by
  have h := Nat.two_pow_pos (n + 1)
  have e : ((2 : Int) * 2 ^ n) = ((2 ^ (n + 1) : Nat) : Int) := by
    rw [Int.natCast_pow, Int.pow_succ]
    simp [Int.mul_comm]
  rw [e]; omega
theorem first_cond {t : Tb} (hv : VOk t) {n : Nat} (hn : n < t.marks.length) : possB { t with marks := t.marks.take (n + 1) } [] = canB (allL t) (2 * 2 ^ n - 1) := by
  rw [Bool.eq_iff_iff, two_pow_int, possB_iff (vok_take hv (n + 1)), poss_take (by omega), canB_iff hv]
  · constructor
    · exact fun h => h.mono fun k _ hk => by rw [pow_sub_testBit] at hk; exact ⟨by simpa using hk, by simp⟩
    · exact fun h => h.mono fun k _ hk => by rw [pow_sub_testBit]; simpa using hk.1
  · have h1 := Nat.two_pow_pos (n + 1)
    have h2 : 2 ^ (n + 1) ≤ 2 ^ t.marks.length := Nat.pow_le_pow_right (by omega) (by omega)
    omega
theorem firstP_eq {t : Tb} (hv : VOk t) : ∀ (f n : Nat), n + f = t.marks.length → firstP t f n = if firstN (allL t) f n < 0 then (0, 7) else (firstN (allL t) f n, 0)
  | 0, n, h => rfl
  | f + 1, n, h => by
    have ih := firstP_eq hv f (n + 1) (by omega)
    unfold firstP firstN
    rw [first_cond hv (by omega)]
    cases c : canB (allL t) (2 * 2 ^ n - 1)
    · have hn : ¬ ((n : Int) < 0) := by omega
      simp [hn]
    · rw [if_pos rfl, if_pos rfl, ih]
def firstQ (t : Tb) : Int × Int := if faultT t = 0 then if firstL t (allL t) < 0 then (0, 7) else (firstL t (allL t), 0) else (0, faultT t)
theorem firstR_eq (t : Tb) : firstR t = firstQ t := by
  unfold firstR firstQ
  by_cases c : faultT t = 0
  · rw [if_pos c, if_pos c, firstP_eq (fault_ok c) _ _ (by omega)]; rfl
  · rw [if_neg c, if_neg c]
/-! Sets as lists in increasing order. -/
def castL (l : List Nat) : List Int := l.map fun (n : Nat) => (n : Int)
theorem mem_castL {l : List Nat} {k : Nat} : (castL l).contains (k : Int) = decide (k ∈ l) := by
  rw [Bool.eq_iff_iff]
  simp only [castL, List.contains_iff_mem, List.mem_map, decide_eq_true_eq]
  constructor
  · rintro ⟨a, ha, e⟩
    have : a = k := by omega
    rw [← this]; exact ha
  · exact fun h => ⟨k, h, rfl⟩
def Inc (lo hi : Nat) : List Nat → Prop
  | [] => True
  | a :: r => (lo ≤ a ∧ a < hi) ∧ Inc (a + 1) hi r
theorem Inc.mem {hi : Nat} : ∀ {lo : Nat} {l : List Nat}, Inc lo hi l → ∀ x ∈ l, lo ≤ x ∧ x < hi
  | lo, [], _, x, hx => by cases hx
  | lo, a :: r, h, x, hx => by
    rcases List.mem_cons.1 hx with rfl | hx
    · exact h.1
    · have := Inc.mem h.2 x hx
      have := h.1
      omega
theorem Inc.pair {hi : Nat} : ∀ {lo : Nat} {l : List Nat}, Inc lo hi l → l.Pairwise (· < ·)
  | lo, [], _ => List.Pairwise.nil
  | lo, a :: r, h => List.Pairwise.cons (fun x hx => by have := Inc.mem h.2 x hx; omega) (Inc.pair h.2)
theorem inc_of {hi : Nat} : ∀ {lo : Nat} {l : List Nat}, l.Pairwise (· < ·) → (∀ x ∈ l, lo ≤ x ∧ x < hi) → Inc lo hi l
  | lo, [], _, _ => trivial
  | lo, a :: r, h, hm => by
    rw [List.pairwise_cons] at h
    exact ⟨hm a (by simp), inc_of h.2 fun x hx => ⟨by have := h.1 x hx; omega, (hm x (by simp [hx])).2⟩⟩
theorem inc_ext : ∀ (a b : List Nat), a.Pairwise (· < ·) → b.Pairwise (· < ·) → (∀ x, x ∈ a ↔ x ∈ b) → a = b
  | [], [], _, _, _ => rfl
  | [], y :: b, _, _, h => by have := (h y).2 (by simp); cases this
  | x :: a, [], _, _, h => by have := (h x).1 (by simp); cases this
  | x :: a, y :: b, ha, hb, h => by
    rw [List.pairwise_cons] at ha hb
    have hxy : x = y := by
      rcases List.mem_cons.1 ((h x).1 (by simp)) with e | h1
      · exact e
      · rcases List.mem_cons.1 ((h y).2 (by simp)) with e | h2
        · exact e.symm
        · have := ha.1 y h2; have := hb.1 x h1; omega
    subst hxy
    rw [inc_ext a b ha.2 hb.2 fun z => ?_]
    constructor
    · intro hz
      rcases List.mem_cons.1 ((h z).1 (by simp [hz])) with e | h1
      · have := ha.1 z hz; omega
      · exact h1
    · intro hz
      rcases List.mem_cons.1 ((h z).2 (by simp [hz])) with e | h1
      · have := hb.1 z hz; omega
      · exact h1
theorem Inc.len {hi : Nat} : ∀ {lo : Nat} {l : List Nat}, Inc lo hi l → l ≠ [] → lo + l.length ≤ hi
  | lo, [], _, h => absurd rfl h
  | lo, [a], h, _ => by have := h.1; simp; omega
  | lo, a :: b :: r, h, _ => by
    have := Inc.len h.2 (by simp)
    have := h.1
    simp at *; omega
def ofBits (b n : Nat) : List Nat := (List.range n).filter fun p => b.testBit p
theorem ofBits_inc (b n : Nat) : Inc 0 n (ofBits b n) :=
  inc_of (List.pairwise_lt_range.filter _) fun x hx => by unfold ofBits at hx; rw [List.mem_filter, List.mem_range] at hx; omega
theorem bitsL_cast {b n : Nat} (h : b < 2 ^ n) : bitsL b = castL (ofBits b n) := by
  unfold bitsL bitsN castL
  congr 1
  refine inc_ext _ _ (List.pairwise_lt_range.filter _) (List.pairwise_lt_range.filter _) fun x => ?_
  unfold ofBits
  simp only [List.mem_filter, List.mem_range]
  constructor
  · exact fun h1 => ⟨lt_of_testBit h h1.2, h1.2⟩
  · refine fun h1 => ⟨?_, h1.2⟩
    rcases Nat.lt_or_ge x (blN b) with c | c
    · exact c
    · have he := blN_end b
      have : b < 2 ^ blN b := by
        rcases Nat.lt_or_ge b (2 ^ blN b) with q | q
        · exact q
        · have := Nat.div_pos q (Nat.two_pow_pos _); omega
      have hx := lt_of_testBit this h1.2
      exact hx
def toBits : List Nat → Nat
  | [] => 0
  | a :: r => 2 ^ a ||| toBits r
theorem toBits_test (l : List Nat) (k : Nat) : (toBits l).testBit k = decide (k ∈ l) := by
  induction l with
  | nil => simp [toBits]
  | cons a l ih =>
    rw [toBits, Nat.testBit_or, ih, Nat.testBit_two_pow, Bool.eq_iff_iff]
    simp
    constructor
    · rintro (h | h)
      · exact .inl h.symm
      · exact .inr h
    · rintro (h | h)
      · exact .inl h.symm
      · exact .inr h
theorem toBits_lt {l : List Nat} {n : Nat} (h : ∀ x ∈ l, x < n) : toBits l < 2 ^ n := by
  induction l with
  | nil => exact Nat.two_pow_pos n
  | cons a l ih => exact Nat.or_lt_two_pow (Nat.pow_lt_pow_right (by omega) (h a (by simp))) (ih fun x hx => h x (by simp [hx]))
theorem ofBits_toBits {l : List Nat} {n : Nat} (h : Inc 0 n l) : ofBits (toBits l) n = l := by
  refine inc_ext _ _ (List.pairwise_lt_range.filter _) h.pair fun x => ?_
  unfold ofBits
  rw [List.mem_filter, List.mem_range, toBits_test]
  simp
  exact fun hx => (h.mem x hx).2
/-! The order of lists. -/
theorem before_irrefl : ∀ a : List Int, beforeL a a = false
  | [] => rfl
  | x :: a => by rw [beforeL, if_pos rfl]; exact before_irrefl a
theorem before_trans : ∀ a b c : List Int, beforeL a b = true → beforeL b c = true → beforeL a c = true
  | [], [], _, h, _ => by simp [beforeL] at h
  | [], _ :: _, [], _, h => by simp [beforeL] at h
  | [], _ :: _, _ :: _, _, _ => rfl
  | _ :: _, [], _, h, _ => by simp [beforeL] at h
  | _ :: _, _ :: _, [], _, h => by simp [beforeL] at h
  | x :: a, y :: b, z :: c, h1, h2 => by
    unfold beforeL at h1 h2 ⊢
    by_cases e1 : x = y
    · rw [if_pos e1] at h1
      by_cases e2 : y = z
      · rw [if_pos e2] at h2
        rw [if_pos (e1.trans e2)]
        exact before_trans a b c h1 h2
      · rw [if_neg e2] at h2
        rw [if_neg (by rw [e1]; exact e2), e1]; exact h2
    · rw [if_neg e1] at h1
      by_cases e2 : y = z
      · rw [← e2, if_neg e1]; exact h1
      · rw [if_neg e2] at h2
        simp only [decide_eq_true_eq] at h1 h2
        rw [if_neg (by omega)]
        simp; omega
theorem before_total : ∀ a b : List Int, beforeL a b = false → beforeL b a = false → a = b
  | [], [], _, _ => rfl
  | [], _ :: _, h, _ => by simp [beforeL] at h
  | _ :: _, [], _, h => by simp [beforeL] at h
  | x :: a, y :: b, h1, h2 => by
    unfold beforeL at h1 h2
    by_cases e : x = y
    · rw [if_pos e] at h1
      rw [if_pos e.symm] at h2
      rw [e, before_total a b h1 h2]
    · rw [if_neg e] at h1
      rw [if_neg (fun q => e q.symm)] at h2
      simp only [decide_eq_false_iff_not] at h1 h2
      omega
theorem shorter_iff (a b : List Int) : shorterB a b = true ↔ a.length < b.length ∨ (a.length = b.length ∧ beforeL a b = true) := by
  unfold shorterB
  simp
  constructor
  · rintro (h | ⟨h1, h2⟩)
    · exact .inl h
    · exact .inr ⟨by omega, h2⟩
  · rintro (h | ⟨h1, h2⟩)
    · exact .inl h
    · exact .inr ⟨by omega, h2⟩
theorem shorter_trans {a b c : List Int} (h1 : shorterB a b = true) (h2 : shorterB b c = true) : shorterB a c = true := by
  rw [shorter_iff] at h1 h2 ⊢
  rcases h1 with h1 | ⟨h1, h3⟩ <;> rcases h2 with h2 | ⟨h2, h4⟩
  · left; omega
  · left; omega
  · left; omega
  · right; exact ⟨by omega, before_trans _ _ _ h3 h4⟩
theorem shorter_irrefl (a : List Int) : shorterB a a = false := by
  rw [Bool.eq_false_iff]
  intro h
  rw [shorter_iff, before_irrefl] at h
  rcases h with h | ⟨_, h⟩
  · omega
  · cases h
theorem shorter_total {a b : List Int} (h1 : shorterB a b = false) (h2 : shorterB b a = false) : a = b := by
  rw [Bool.eq_false_iff, ne_eq, shorter_iff] at h1 h2
  simp only [not_or, not_and, Bool.not_eq_true] at h1 h2
  have e : a.length = b.length := by omega
  exact before_total a b (h1.2 e) (h2.2 e.symm)
structure Least (t : Tb) (l : List Nat) : Prop where
  inc : Inc 0 t.marks.length l
  poss : Poss t (fun k => k ∉ l)
  least : ∀ l', Inc 0 t.marks.length l' → Poss t (fun k => k ∉ l') → shorterB (castL l') (castL l) = false
theorem castL_inj : ∀ {a b : List Nat}, castL a = castL b → a = b
  | [], [], _ => rfl
  | [], _ :: _, h => by simp [castL] at h
  | _ :: _, [], h => by simp [castL] at h
  | x :: a, y :: b, h => by
    simp only [castL, List.map_cons, List.cons.injEq] at h
    rw [castL_inj (a := a) (b := b) h.2]
    congr 1
    omega
theorem Least.eq {t : Tb} {a b : List Nat} (h1 : Least t a) (h2 : Least t b) : a = b :=
  castL_inj (shorter_total (h2.least a h1.inc h1.poss) (h1.least b h2.inc h2.poss))
theorem poss_none {t : Tb} (hv : VOk t) {S : Nat → Prop} (h : ∀ k, k < t.marks.length → ¬ S k) : Poss t S := by
  cases hl : listsL t with
  | nil => exact absurd hl hv.some
  | cons p r =>
    have hp : p ∈ listsL t := by rw [hl]; simp
    exact ⟨p, (mem_listsL hv.hok hv.many p).1 hp, fun k hk hS => absurd hS (h k hk)⟩
theorem sub_and_test {full b : Nat} {n : Nat} (hf : full = 2 ^ n - 1) (hb : b < 2 ^ n) (k : Nat) : (full - (full &&& b)).testBit k = (decide (k < n) && !b.testBit k) := by
  subst hf
  have e1 : (2 ^ n - 1) &&& b = b := by
    rw [and_eq_iff]
    intro k hk
    rw [pow_sub_testBit]; simpa using lt_of_testBit hb hk
  rw [e1, show 2 ^ n - 1 - b = 2 ^ n - (b + 1) by omega, Nat.testBit_two_pow_sub_succ hb]
theorem can_bits {t : Tb} (hv : VOk t) {b : Nat} (hb : b < 2 ^ t.marks.length) : canB (allL t) (((2 ^ t.marks.length - 1) - ((2 ^ t.marks.length - 1) &&& b) : Nat) : Int) = true ↔ Poss t (fun k => k ∉ ofBits b t.marks.length) := by
  rw [canB_iff hv (by have := Nat.two_pow_pos t.marks.length; omega)]
  have key : ∀ k, k < t.marks.length → (((2 ^ t.marks.length - 1) - ((2 ^ t.marks.length - 1) &&& b)).testBit k = true ↔ k ∉ ofBits b t.marks.length) := by
    intro k hk
    rw [sub_and_test rfl hb]
    unfold ofBits
    rw [List.mem_filter, List.mem_range]
    simp [hk]
  exact ⟨fun h => h.mono fun k hk hS => (key k hk).2 hS, fun h => h.mono fun k hk hS => (key k hk).1 hS⟩
theorem leaveN_least {t : Tb} (hv : VOk t) : ∀ n, n ≤ 2 ^ t.marks.length → ∃ l, leaveN (allL t) (2 ^ t.marks.length - 1) n = castL l ∧ Inc 0 t.marks.length l ∧ Poss t (fun k => k ∉ l) ∧
    ∀ b, b < n → Poss t (fun k => k ∉ ofBits b t.marks.length) → shorterB (castL (ofBits b t.marks.length)) (castL l) = false
  | 0, _ => by
    have h2 := Nat.two_pow_pos t.marks.length
    refine ⟨ofBits (2 ^ t.marks.length - 1) t.marks.length, by rw [leaveN, bitsL_cast (n := t.marks.length) (by omega)], ofBits_inc _ _, poss_none hv fun k hk => ?_, fun b hb => by omega⟩
    intro q
    apply q
    unfold ofBits
    rw [List.mem_filter, List.mem_range, pow_sub_testBit]
    simpa using hk
  | n + 1, hn => by
    obtain ⟨l, h1, h2, h3, h4⟩ := leaveN_least hv n (by omega)
    have hb : n < 2 ^ t.marks.length := by omega
    have hc := can_bits hv hb
    rw [leaveN, h1, bitsL_cast hb]
    cases c1 : shorterB (castL (ofBits n t.marks.length)) (castL l)
    · refine ⟨l, by rw [Bool.false_and, if_neg (by simp)], h2, h3, fun b hb hP => ?_⟩
      by_cases e : b = n
      · subst e; exact c1
      · exact h4 b (by omega) hP
    · cases c2 : canB (allL t) (((2 ^ t.marks.length - 1) - ((2 ^ t.marks.length - 1) &&& n) : Nat) : Int)
      · refine ⟨l, by rw [Bool.true_and, if_neg (by simp)], h2, h3, fun b hb hP => ?_⟩
        by_cases e : b = n
        · subst e
          rw [hc.2 hP] at c2; cases c2
        · exact h4 b (by omega) hP
      · refine ⟨ofBits n t.marks.length, by rw [Bool.true_and, if_pos rfl], ofBits_inc _ _, hc.1 c2, fun b hb hP => ?_⟩
        by_cases e : b = n
        · subst e; exact shorter_irrefl _
        · rw [Bool.eq_false_iff]
          intro q
          have := h4 b (by omega) hP
          rw [shorter_trans q c1] at this
          cases this
theorem leaveL_least {t : Tb} (hv : VOk t) : ∃ l, leaveL t (allL t) = castL l ∧ Least t l := by
  obtain ⟨l, h1, h2, h3, h4⟩ := leaveN_least hv _ (Nat.le_refl _)
  refine ⟨l, h1, h2, h3, fun l' hi hP => ?_⟩
  have := h4 (toBits l') (toBits_lt fun x hx => (hi.mem x hx).2)
  rw [ofBits_toBits hi] at this
  exact this hP
/-! The program's search. -/
def leaveG (t : Tb) : Nat → List Nat → Nat → Option (List Nat)
  | 0, out, _ => if possB t (castL out) then some out else none
  | m + 1, out, frm => (List.range (t.marks.length - m - frm)).findSome? fun k => leaveG t m (out ++ [frm + k]) (frm + k + 1)
theorem leaveG_some {t : Tb} (hv : VOk t) : ∀ (m : Nat) (out : List Nat) (frm : Nat),
    (∀ x, leaveG t m out frm = some x → ∃ y, x = out ++ y ∧ Inc frm t.marks.length y ∧ y.length = m ∧ possB t (castL x) = true ∧
      ∀ z, Inc frm t.marks.length z → z.length = m → possB t (castL (out ++ z)) = true → beforeL (castL z) (castL y) = false) ∧
    (leaveG t m out frm = none → ∀ z, Inc frm t.marks.length z → z.length = m → possB t (castL (out ++ z)) = false)
  | 0, out, frm => by
    unfold leaveG
    constructor
    · intro x hx
      split at hx
      · rename_i c
        cases hx
        refine ⟨[], by simp, trivial, rfl, c, fun z _ hz _ => ?_⟩
        rw [List.length_eq_zero_iff] at hz
        subst hz; rfl
      · cases hx
    · intro hx z _ hz
      rw [List.length_eq_zero_iff] at hz
      subst hz
      rw [List.append_nil]
      split at hx
      · cases hx
      · rename_i c; simpa using c
  | m + 1, out, frm => by
    have ih := fun k => leaveG_some hv m (out ++ [frm + k]) (frm + k + 1)
    have hz1 : ∀ z, Inc frm t.marks.length z → z.length = m + 1 → ∃ a r, z = a :: r ∧ frm ≤ a ∧ a - frm < t.marks.length - m - frm ∧ Inc (a + 1) t.marks.length r ∧ r.length = m := by
      intro z hz hl
      cases z with
      | nil => simp at hl
      | cons a r =>
        have hr : r.length = m := by simpa using hl
        have h1 := hz.1
        refine ⟨a, r, rfl, h1.1, ?_, hz.2, hr⟩
        by_cases e : r = []
        · subst e; simp at hr; omega
        · have := hz.2.len e; omega
    unfold leaveG
    constructor
    · intro x hx
      rw [List.findSome?_eq_some_iff] at hx
      obtain ⟨l1, k, l2, hl, hk, hno⟩ := hx
      have hkk : l1 = List.range k ∧ k < t.marks.length - m - frm := by
        have h1 := congrArg List.length hl
        simp at h1
        have h3 := congrArg (fun l => l[l1.length]?) hl
        simp at h3
        rw [List.getElem?_range (by omega)] at h3
        have h4 : l1.length = k := by simpa using h3
        have h5 := congrArg (List.take l1.length) hl
        rw [List.take_left, List.take_range] at h5
        refine ⟨?_, by omega⟩
        rw [← h5]
        congr 1
        omega
      obtain ⟨y, h1, h2, h3, h4, h5⟩ := (ih k).1 x hk
      refine ⟨(frm + k) :: y, by rw [h1]; simp, ⟨⟨by omega, by omega⟩, h2⟩, by simp [h3], h4, fun z hz hl hp => ?_⟩
      obtain ⟨a, r, rfl, g1, g2, g3, g4⟩ := hz1 z hz hl
      by_cases c : a - frm < k
      · have := (ih (a - frm)).2 (hno (a - frm) (by rw [hkk.1]; simpa using c)) r (by rw [show frm + (a - frm) + 1 = a + 1 by omega]; exact g3) g4
        rw [show frm + (a - frm) = a by omega, List.append_assoc] at this
        rw [show out ++ a :: r = out ++ ([a] ++ r) from rfl, this] at hp
        cases hp
      · show beforeL ((a : Int) :: castL r) (((frm + k : Nat) : Int) :: castL y) = false
        unfold beforeL
        by_cases e : a = frm + k
        · subst e
          rw [if_pos rfl]
          refine h5 r g3 g4 ?_
          rw [List.append_assoc]; exact hp
        · rw [if_neg (by omega)]
          simp; omega
    · intro hx z hz hl
      rw [List.findSome?_eq_none_iff] at hx
      obtain ⟨a, r, rfl, g1, g2, g3, g4⟩ := hz1 z hz hl
      have := (ih (a - frm)).2 (hx (a - frm) (by simpa using g2)) r (by rw [show frm + (a - frm) + 1 = a + 1 by omega]; exact g3) g4
      rw [show frm + (a - frm) = a by omega, List.append_assoc] at this
      exact this
def leaveS (t : Tb) : Nat → Nat → Option (List Nat)
  | 0, _ => none
  | f + 1, m => match leaveG t m [] 0 with
    | some x => some x
    | none => leaveS t f (m + 1)
theorem possB_cast {t : Tb} (hv : VOk t) (l : List Nat) : possB t (castL l) = true ↔ Poss t (fun k => k ∉ l) := by
  rw [possB_iff hv]
  have key : ∀ k : Nat, ((castL l).contains (k : Int) = false ↔ k ∉ l) := fun k => by rw [mem_castL]; simp
  exact ⟨fun h => h.mono fun k _ hk => (key k).2 hk, fun h => h.mono fun k _ hk => (key k).1 hk⟩
theorem leaveS_least {t : Tb} (hv : VOk t) : ∀ (f m : Nat), m + f = t.marks.length + 1 → (∀ z, Inc 0 t.marks.length z → z.length < m → ¬ Poss t (fun k => k ∉ z)) → ∃ x, leaveS t f m = some x ∧ Least t x
  | 0, m, hf, hno => by
    exfalso
    refine hno (List.range t.marks.length) (inc_of List.pairwise_lt_range fun x hx => by rw [List.mem_range] at hx; omega) (by simp; omega) (poss_none hv fun k hk q => q (by simpa using hk))
  | f + 1, m, hf, hno => by
    obtain ⟨h1, h2⟩ := leaveG_some hv m [] 0
    unfold leaveS
    cases c : leaveG t m [] 0 with
    | some x =>
      obtain ⟨y, e, g1, g2, g3, g4⟩ := h1 x c
      rw [List.nil_append] at e
      subst e
      refine ⟨x, rfl, g1, (possB_cast hv x).1 g3, fun z hz hP => ?_⟩
      rw [Bool.eq_false_iff]
      intro q
      rw [shorter_iff] at q
      have hl : ∀ l : List Nat, (castL l).length = l.length := fun l => by simp [castL]
      rw [hl, hl] at q
      rcases q with q | ⟨q, q2⟩
      · exact hno z hz (by omega) hP
      · have := g4 z hz (by omega) ((possB_cast hv _).2 hP)
        rw [this] at q2; cases q2
    | none =>
      refine leaveS_least hv f (m + 1) (by omega) fun z hz hl hP => ?_
      by_cases e : z.length = m
      · have := h2 c z hz e
        rw [List.nil_append, (possB_cast hv z).2 hP] at this
        cases this
      · exact hno z hz (by omega) hP
theorem leaveS_eq {t : Tb} (hv : VOk t) : ∃ x, leaveS t (t.marks.length + 1) 0 = some x ∧ leaveL t (allL t) = castL x ∧ Least t x := by
  obtain ⟨x, h1, h2⟩ := leaveS_least hv (t.marks.length + 1) 0 (by omega) (fun z _ h => by omega)
  obtain ⟨l, g1, g2⟩ := leaveL_least hv
  have e := h2.eq g2
  subst e
  exact ⟨x, h1, g1, g2⟩
end Go.Proofs
namespace Go.Proofs
open Go.Fs
set_option linter.unusedSimpArgs false
set_option linter.unusedVariables false
set_option maxHeartbeats 4000000
set_option maxRecDepth 8000
theorem Clone_call (l : List Int) (h : l.length ≤ 4096) : CallF Try.prog 33 [Enc.enc l] 1 (l.map EncE.cs) := by
  simp only [enc_fnl, enc_fnb, enc_fnc, enc_refc, enc_arr, enc_int, enc_bool, enc_list, enc_rg, enc_mk, enc_tb]
  refine callF_of_vc (Φ := P44) Try.func33 rfl (by rfl) (by rw [Try.ntmps33]; simp) mixed P44_ok (by simp [AV.strip, AV.strip1, Tk.strip]) (by decide) ?_
  rw [Try.ntmps33]
  simp only [Try.f33, startSt, tmFrom]
  simp (maxSteps := 4000000) only [go_sem, AV.one, drawV, intsOf, keyIdx, over, putO, memAt, List.map_cons, List.length_cons, ↓reduceIte, snap_trues, imm_trues, enc_pair, enc_iterv, zdrop, one_i, one_b, one_sl, one_ptr, one_ref, one_nilp, one_mp, one_fn, frR]
  intro b hb
  cases b
  · simp (maxSteps := 4000000) only [go_sem, AV.one, drawV, intsOf, keyIdx, over, putO, memAt, List.map_cons, List.length_cons, ↓reduceIte, snap_trues, imm_trues, enc_pair, enc_iterv, zdrop, one_i, one_b, one_sl, one_ptr, one_ref, one_nilp, one_mp, one_fn, frR]
    all_goals (repeat' (first | with_reducible rfl | with_reducible apply And.intro | ((with_reducible show drawOK _ _ = true); rfl))) <;> (try first | omega | (simp only [InR]; omega) | with_reducible assumption)
    simp [cs_int, AV.one]
  · have : l = [] := by simpa using hb
    subst this
    simp (maxSteps := 4000000) only [go_sem, AV.one, drawV, intsOf, keyIdx, over, putO, memAt, List.map_cons, List.length_cons, ↓reduceIte, snap_trues, imm_trues, enc_pair, enc_iterv, zdrop, one_i, one_b, one_sl, one_ptr, one_ref, one_nilp, one_mp, one_fn, frR]
def P45 : Specs := addSpec 33 (specF1 (fun l : List Int => l.length ≤ 4096) (fun l => l)) (P44)
theorem P45_app (g : FuncId) : P45 g = (addSpec 33 (specF1 (fun l : List Int => l.length ≤ 4096) (fun l => l)) (P44)) g := rfl
theorem P45_ok : SpecsOk Try.prog P45 := addSpec_ok (specF1_ok Clone_call) (P44_ok)
attribute [go_sem] P45_app
theorem P45_flag (d : Option Nat) : flagOf P45 d = none := (flagOf_add (by decide) d).trans (P44_flag d)
attribute [go_sem] P45_flag
theorem callM_strip {P : Program} {g : FuncId} {args : List AV} {mem : List AObj} {R : AV → List AObj → Prop} (h : CallM P g (args.map AV.strip) mem R) : CallM P g args mem R :=
  ⟨h.1, fun X κ ρ τ w vs h1 h2 h3 h4 => h.2 X κ ρ τ w vs h1 h2 (by simpa using h3) (fun i hi => by
    rw [strip_getD]
    exact (h4 i (by simpa using hi)).strip)⟩
theorem findSome_some {α : Type} {f : Nat → Option α} {n k : Nat} {x : α} (hk : k < n) (h : ∀ j, j < k → f j = none) (hx : f k = some x) : (List.range n).findSome? f = some x := by
  rw [List.findSome?_eq_some_iff]
  refine ⟨List.range k, k, (List.range (n - k - 1)).map (k + 1 + ·), ?_, hx, fun a ha => h a (by simpa using ha)⟩
  have : n = k + (1 + (n - k - 1)) := by omega
  conv => lhs; rw [this, List.range_add, List.range_add]
  simp [Nat.add_assoc]
theorem findSome_none {α : Type} {f : Nat → Option α} {n : Nat} (h : ∀ j, j < n → f j = none) : (List.range n).findSome? f = none := by
  rw [List.findSome?_eq_none_iff]
  exact fun a ha => h a (by simpa using ha)
structure LvM (t : Tb) (mem : List AObj) : Prop where
  len : 3 ≤ mem.length
  m0 : memAt mem 0 = .cells (tbC t)
  m2 : memAt mem 2 = .cells [.fn (.func 31) [] [.ptr 1 0, .ptr 0 0, .ptr 2 0]]
  ok : ∀ o ∈ mem, belO mem.length o
  m1 : ∃ f, memAt mem 1 = .cells [f]
theorem LvM.set {t : Tb} {mem : List AObj} (h : LvM t mem) (l : List Int) : LvM t (mem.set 1 (.cells [.sl (l.map EncE.cs) .no])) := by
  have h3 := h.len
  refine ⟨by simpa using h3, ?_, ?_, fun o ho => ?_, ?_⟩
  · rw [memAt_set _ _ _ _ (by omega), if_neg (by omega)]; exact h.m0
  · rw [memAt_set _ _ _ _ (by omega), if_neg (by omega)]; exact h.m2
  · rw [List.length_set]
    rcases List.mem_or_eq_of_mem_set ho with q | q
    · exact h.ok o q
    · subst q
      simp [belO_cells, bel_map, dep_int]
  · exact ⟨_, by rw [memAt_set _ _ _ _ (by omega), if_pos rfl]⟩
theorem LvM.push {t : Tb} {mem : List AObj} (h : LvM t mem) (n : Nat) : LvM t (mem ++ [.tok n 1, .dead]) := by
  have h3 := h.len
  have key : ∀ i, i < 3 → memAt (mem ++ [.tok n 1, .dead]) i = memAt mem i := fun i hi => by
    unfold memAt
    simp only [List.getD]
    rw [List.getElem?_append_left (by omega)]
  refine ⟨by simp; omega, by rw [key 0 (by omega)]; exact h.m0, by rw [key 2 (by omega)]; exact h.m2, fun o ho => ?_, by rw [key 1 (by omega)]; exact h.m1⟩
  rcases List.mem_append.1 ho with q | q
  · exact belO_mono (by simp) o (h.ok o q)
  · simp at q
    rcases q with q | q <;> subst q <;> simp [belO_tok, belO_dead]
def lvMem (mem : List AObj) : Option (List Int) → List AObj
  | none => mem
  | some f => mem.set 1 (.cells [.sl (f.map EncE.cs) .no])
theorem lvMem_ok {t : Tb} {mem : List AObj} (h : LvM t mem) (fo : Option (List Int)) : LvM t (lvMem mem fo) ∧ (lvMem mem fo).length = mem.length ∧ ∀ o, (lvMem mem fo).set 1 o = mem.set 1 o := by
  cases fo with
  | none => exact ⟨h, rfl, fun _ => rfl⟩
  | some f => exact ⟨h.set f, by simp [lvMem], fun o => by simp [lvMem]⟩
theorem lvMem_push {mem mm : List AObj} {fo : Option (List Int)} (h : lvMem mem fo = mm) (h3 : 3 ≤ mm.length) (hs : ∀ o, mm.set 1 o = mem.set 1 o) (xs : List AObj) (fo' : Option (List Int)) : ∃ fo2, lvMem (mm ++ xs) fo' = lvMem mem fo2 ++ xs ∧ ∀ f, fo' = some f → fo2 = some f := by
  cases fo' with
  | none => exact ⟨fo, by rw [h]; rfl, fun f e => by cases e⟩
  | some f =>
    refine ⟨some f, ?_, fun _ e => e⟩
    show (mm ++ xs).set 1 _ = mem.set 1 _ ++ xs
    rw [List.set_append_left _ _ (by omega), hs]
def leaveR (t : Tb) (mem : List AObj) (m : Nat) (out : List Nat) (frm : Nat) (r : AV) (mem' : List AObj) : Prop :=
  ∃ fo : Option (List Int), mem' = lvMem mem fo ∧ r = .bool (leaveG t m out frm).isSome ∧ ∀ x, leaveG t m out frm = some x → fo = some (castL x)
theorem castL_snoc (l : List Nat) (n : Nat) : castL (l ++ [n]) = castL l ++ [(n : Int)] := by simp [castL]
theorem Leave1_call {t : Tb} (hv : VOk t) : ∀ (m : Nat) (out : List Nat) (frm : Nat) (mem : List AObj), LvM t mem → out.length + m ≤ 7 → frm ≤ 8 →
    CallM Try.prog 31 [.sl ((castL out).map EncE.cs) .no, .int .i64 frm, .int .i64 m, .ptr 1 0, .ptr 0 0, .ptr 2 0] mem (leaveR t mem m out frm) := by
  intro m
  induction m with
  | zero =>
    intro out frm mem hm hlen hfrm
    have h3 := hm.len
    have hm0 := hm.m0
    obtain ⟨f0, hm1⟩ := hm.m1
    have hcl : (castL out).length = out.length := by simp [castL]
    have hm0' : memAt (mem.set 1 (.cells [.sl ((castL out).map EncE.cs) .no])) 0 = .cells (tbC t) := (hm.set (castL out)).m0
    have hok := (hm.set (castL out)).ok
    have hv1 := hv.hok
    have hv2 := hv.last
    have hv3 := hv.mok
    refine callM_of_vc (Φ := P45) Try.func31 rfl (by rfl) (by rw [Try.ntmps31]; simp) mixed P45_ok (by simp [AV.strip, AV.strip1, Tk.strip]) ?_
    rw [Try.ntmps31]
    simp only [Try.f31, startSt, tmFrom]
    simp (maxSteps := 4000000) only [go_sem, AV.one, drawV, intsOf, keyIdx, over, putO, List.map_cons, List.length_cons, ↓reduceIte, snap_trues, imm_trues, enc_pair, enc_iterv, zdrop, one_i, one_b, one_sl, one_ptr, one_ref, one_nilp, one_mp, one_fn, hm0, hm1, hm0', tbC]
    all_goals (repeat' (first | with_reducible rfl | with_reducible apply And.intro | ((with_reducible show drawOK _ _ = true); rfl))) <;> (try first | omega | (simp only [InR]; omega) | with_reducible assumption)
    · refine ⟨some (castL out), ?_, ?_, fun x hx => ?_⟩
      · rw [List.take_of_length_le (by simp)]; rfl
      · simp only [leaveG]
        cases possB t (castL out) <;> rfl
      · simp only [leaveG] at hx
        split at hx
        · cases hx; rfl
        · cases hx
    · trivial
    · rw [List.take_of_length_le (by simp)]
      rw [List.length_set] at hok
      exact hok
  | succ m ih =>
    intro out frm mem hm hlen hfrm
    have h3 := hm.len
    have hcl : ∀ l : List Nat, (castL l).length = l.length := fun l => by simp [castL]
    have hml := hv.mok.len
    have hml2 : (t.marks.map EncE.cs).length = t.marks.length := by simp
    obtain ⟨f0, hm1⟩ := hm.m1
    have hG : ∀ k, leaveG t m (out ++ [frm + k]) (frm + k + 1) = (fun k => leaveG t m (out ++ [frm + k]) (frm + k + 1)) k := fun k => rfl
    have hm0 := hm.m0
    have hm2 := hm.m2
    refine callM_of_vc (Φ := P45) Try.func31 rfl (by rfl) (by rw [Try.ntmps31]; simp) mixed P45_ok (by simp [AV.strip, AV.strip1, Tk.strip]) ?_
    rw [Try.ntmps31]
    simp only [Try.f31, startSt, tmFrom]
    simp (maxSteps := 4000000) only [go_sem, AV.one, drawV, intsOf, keyIdx, over, putO, List.map_cons, List.length_cons, ↓reduceIte, snap_trues, imm_trues, enc_pair, enc_iterv, zdrop, one_i, one_b, one_sl, one_ptr, one_ref, one_nilp, one_mp, one_fn, hm0, hm1, tbC, show decide (((m + 1 : Nat) : Int) = 0) = false by simp; omega]
    refine loopB [] [0, 2, 4, 5, 9] (fun b : Nat × Option (List Int) => [(10, .int .i64 ((frm + b.1 : Nat) : Int))]) (fun b _ => lvMem mem b.2) (fun b => b.1 ≤ t.marks.length - m - frm ∧ (∀ j, j < b.1 → leaveG t m (out ++ [frm + j]) (frm + j + 1) = none)) (fun b => t.marks.length - m - frm - b.1) ((0, none)) ?_ ?_ ?_
    · exact ⟨Nat.zero_le _, fun j hj => by omega⟩
    · refine ⟨rfl, rfl, rfl, Nat.le_refl _, begins_refl _, ?_, allO_of hm.ok, trivial⟩
      show Same _ mem.length _
      simp [AV.bare, bel_ints, cs_arr, dep_arr, cs_int, cs_bool, cs_list, cs_rg, cs_mk, AtHead, Same, AllO, Begins, LtAll, headSt, tokz_nil, tokz_cons, tokz1, lk, dep_int, dep_bool, dep_list, dep_rg, dep_mk, memAt, bel_map, bel_mapF, bel_mapO, bel_undef, bel_int, bel_boolv, bel_nilp, bel_nilf, bel_ptr, bel_arr, bel_mp, bel_yld, bel_agg, bel_tup, bel_ref, bel_only, bel_mpr, bel_fn, bel_sl_nil, bel_sl_nilF, bel_sl_nilO, bel_sl_cons, bel_sl_app, belO_cells, belO_tok, belO_dead, belO_deferred, belO_map, belO_iter, belO_loop, bel_vec, bel_vp, belO_vecM, belO_vec, show 0 < mem.length by omega, show 1 < mem.length by omega, show 2 < mem.length by omega]
    · rintro ⟨k, fo⟩ ⟨hk, hno⟩
      simp only at hk hno
      obtain ⟨hL, hLl, hLs⟩ := lvMem_ok hm fo
      generalize hmm : lvMem mem fo = mm at hL hLl hLs
      have g0 := hL.m0
      have g2 := hL.m2
      have g3 := hL.len
      by_cases hkN : k < t.marks.length - m - frm
      · have c1 : decide (((frm + k : Nat) : Int) ≤ (t.marks.length : Int) - ((m + 1 : Nat) : Int)) = true := by simp; omega
        have q0 : memAt (mm ++ [.dead, .dead]) 2 = memAt mm 2 := by unfold memAt; simp only [List.getD]; rw [List.getElem?_append_left (by omega)]
        have q1 : ∀ x y : AObj, memAt (mm ++ [x, y]) mm.length = x := fun x y => by have := memAt_app mm [x, y] 0; rw [Nat.add_zero] at this; exact this
        have q2 : ∀ x y z : AObj, (mm ++ [x, y]).set mm.length z = mm ++ [z, y] := fun x y z => by have := set_app mm [x, y] 0 z; rw [Nat.add_zero] at this; exact this
        have hlt : ∀ x y : AObj, mm.length < (mm ++ [x, y]).length := fun x y => by simp
        rw [g2] at q0
        have hco := hcl out
        simp (maxSteps := 4000000) only [go_sem, AV.one, drawV, intsOf, keyIdx, over, putO, List.map_cons, List.length_cons, ↓reduceIte, snap_trues, imm_trues, enc_pair, enc_iterv, zdrop, one_i, one_b, one_sl, one_ptr, one_ref, one_nilp, one_mp, one_fn, g0, g2, q0, q1, q2, hlt, tbC, c1, hml2]
        have hcall := ih (out ++ [frm + k]) (frm + k + 1) (mm ++ [.tok ((castL out).length + 1) 1, .dead]) (hL.push _) (by simp; omega) (by omega)
        have e1 : (castL (out ++ [frm + k])).map EncE.cs = (castL out).map EncE.cs ++ [[AV.int .i64 ((frm + k : Nat) : Int)]] := by rw [castL_snoc]; simp [cs_int]
        rw [e1, show ((frm + k + 1 : Nat) : Int) = ((frm + k : Nat) : Int) + 1 by omega, show ((m : Nat) : Int) = ((m + 1 : Nat) : Int) - 1 by omega] at hcall
        refine ⟨(by simp only [InR]; omega), rfl, by omega, by omega, (by simp only [InR]; omega), (by simp only [InR]; omega), [], by rfl, _, callX_of_callM (callM_strip hcall), ?_⟩
        rintro r mem' ⟨r0, rfl, ⟨fo', rfl, rfl, hf⟩, hlen2⟩ _
        refine ⟨trivial, ?_⟩
        obtain ⟨fo2, hp1, hp2⟩ := lvMem_push hmm g3 hLs [.tok ((castL out).length + 1) 1, .dead] fo'
        obtain ⟨hM, hMl, _⟩ := lvMem_ok hm fo2
        have hMok := hM.ok
        rw [hMl] at hMok
        rw [hp1]
        have htk : (lvMem mem fo2 ++ [AObj.tok ((castL out).length + 1) 1, AObj.dead]).take mem.length = lvMem mem fo2 := by
          rw [List.take_append_of_le_length (by omega), List.take_of_length_le (by omega)]
        cases c : leaveG t m (out ++ [frm + k]) (frm + k + 1) with
        | some x =>
          simp only [AV.strip, AV.un, AV.av, Option.isSome_some, htk]
          refine ⟨trivial, fun _ => ⟨⟨fo2, rfl, ?_, fun y hy => ?_⟩, trivial, hMok⟩, fun h => by cases h⟩
          · have : leaveG t (m + 1) out frm = some x := findSome_some hkN hno c
            rw [this]; rfl
          · have : leaveG t (m + 1) out frm = some x := findSome_some hkN hno c
            rw [this] at hy
            cases hy
            exact hp2 _ (hf x c)
        | none =>
          simp only [AV.strip, AV.un, AV.av, Option.isSome_none, htk]
          refine ⟨trivial, fun h => (by cases h), fun _ => ⟨(by simp only [InR]; omega), (k + 1, fo2), ⟨by dsimp only; omega, fun j hj => ?_⟩, by dsimp only; omega, ?_⟩⟩
          · by_cases e : j = k
            · subst e; exact c
            · exact hno j (by dsimp only at hj; omega)
          · refine atHead_weak ⟨rfl, rfl, rfl, Nat.le_of_eq hMl.symm, ?_, ?_, allO_of hM.ok, trivial⟩
            · have key : ∀ (l r : List AObj), Begins l (l ++ r) := by
                intro l
                induction l with
                | nil => intro r; trivial
                | cons a l ih => intro r; exact ⟨rfl, ih r⟩
              exact key _ _
            · show Same _ (lvMem mem fo2).length _
              rw [hMl]
              simp [AV.bare, bel_ints, cs_arr, dep_arr, cs_int, cs_bool, cs_list, cs_rg, cs_mk, AtHead, Same, AllO, Begins, LtAll, headSt, tokz_nil, tokz_cons, tokz1, lk, dep_int, dep_bool, dep_list, dep_rg, dep_mk, memAt, bel_map, bel_mapF, bel_mapO, bel_undef, bel_int, bel_boolv, bel_nilp, bel_nilf, bel_ptr, bel_arr, bel_mp, bel_yld, bel_agg, bel_tup, bel_ref, bel_only, bel_mpr, bel_fn, bel_sl_nil, bel_sl_nilF, bel_sl_nilO, bel_sl_cons, bel_sl_app, belO_cells, belO_tok, belO_dead, belO_deferred, belO_map, belO_iter, belO_loop, bel_vec, bel_vp, belO_vecM, belO_vec, show 0 < mem.length by omega, show 1 < mem.length by omega, show 2 < mem.length by omega]
              omega
      · have c1 : decide (((frm + k : Nat) : Int) ≤ (t.marks.length : Int) - ((m + 1 : Nat) : Int)) = false := by simp; omega
        simp (maxSteps := 4000000) only [go_sem, AV.one, drawV, intsOf, keyIdx, over, putO, List.map_cons, List.length_cons, ↓reduceIte, snap_trues, imm_trues, enc_pair, enc_iterv, zdrop, one_i, one_b, one_sl, one_ptr, one_ref, one_nilp, one_mp, one_fn, g0, g2, tbC, c1, hml2]
        have hnone : leaveG t (m + 1) out frm = none := findSome_none fun j hj => hno j (by omega)
        have hMok := hL.ok
        rw [hLl] at hMok
        rw [List.take_of_length_le (by omega)]
        exact ⟨(by simp only [InR]; omega), ⟨fo, hmm.symm, by rw [hnone]; rfl, fun x hx => by rw [hnone] at hx; cases hx⟩, trivial, hMok⟩
end Go.Proofs
namespace Go.Proofs
open Go.Fs
set_option linter.unusedSimpArgs false
set_option linter.unusedVariables false
set_option maxHeartbeats 4000000
set_option maxRecDepth 8000
theorem one_nilf : (AV.nilf).one = true := rfl
theorem callM_head {P : Program} {g : FuncId} {es : List (List AV)} {tk : Tk} {args : List AV} {mem : List AObj} {R : AV → List AObj → Prop} (h : CallM P g (.sl es .no :: args) mem R) : CallM P g (.sl es tk :: args) mem R :=
  ⟨h.1, fun X κ ρ τ w vs h1 h2 h3 h4 => h.2 X κ ρ τ w vs h1 h2 (by simpa using h3) (fun i hi => by
    have := h4 i (by simpa using hi)
    cases i with
    | zero =>
      have key : ∀ (x : Value), Rep κ ρ (.sl es tk) x → Rep κ ρ (.sl es .no) x := fun x hx => by
        cases hx with
        | slnil => exact .slnil _
        | sl _ _ b o cap sz val h1 h2 h3 h4 h5 => exact .sl es _ b o cap sz val h1 h2 h3 (fun e => by cases e) h5
      exact key _ this
    | succ i => exact this)⟩
def leaveQ (t : Tb) : List Int × Int := if faultT t = 0 then (leaveL t (allL t), 0) else ([], faultT t)
theorem Leave_prog (t : Tb) (h : t.heights.length ≤ 4096) : CallP Try.prog 9 [Enc.enc t] (· = Enc.enc (leaveQ t)) := by
  simp only [enc_pair]
  unfold leaveQ
  by_cases c : faultT t = 0
  case neg =>
    rw [if_neg c]
    simp only [enc_fnl, enc_fnb, enc_fnc, enc_refc, enc_arr, enc_int, enc_bool, enc_list, enc_rg, enc_mk, enc_tb]
    refine callP_of_vc (Φ := P45) Try.func9 rfl (by rfl) (by rw [Try.ntmps9]; simp) mixed P45_ok (by simp [AV.strip, AV.strip1, Tk.strip]) ?_
    rw [Try.ntmps9]
    simp only [Try.f9, startSt, tmFrom]
    simp (maxSteps := 4000000) only [go_sem, AV.one, drawV, intsOf, keyIdx, over, putO, memAt, List.map_cons, List.length_cons, ↓reduceIte, snap_trues, imm_trues, enc_pair, enc_iterv, zdrop, one_i, one_b, one_sl, one_ptr, one_ref, one_nilp, one_mp, one_fn, one_nilf, c]
    all_goals (repeat' (first | with_reducible rfl | with_reducible apply And.intro | ((with_reducible show drawOK _ _ = true); rfl))) <;> (try first | omega | (simp only [InR]; omega) | with_reducible assumption)
  rw [if_pos c]
  have hv := fault_ok c
  have hml := hv.mok.len
  obtain ⟨x0, hx1, hx2, hx3⟩ := leaveS_eq hv
  rw [hx2]
  simp only [enc_fnl, enc_fnb, enc_fnc, enc_refc, enc_arr, enc_int, enc_bool, enc_list, enc_rg, enc_mk, enc_tb]
  refine callP_of_vc (Φ := P45) Try.func9 rfl (by rfl) (by rw [Try.ntmps9]; simp) mixed P45_ok (by simp [AV.strip, AV.strip1, Tk.strip]) ?_
  rw [Try.ntmps9]
  simp only [Try.f9, startSt, tmFrom]
  simp (maxSteps := 4000000) only [go_sem, drawV, intsOf, keyIdx, over, putO, memAt, List.map_cons, List.length_cons, ↓reduceIte, snap_trues, imm_trues, enc_pair, enc_iterv, zdrop, one_i, one_b, one_sl, one_ptr, one_ref, one_nilp, one_mp, one_fn, one_nilf, c]
  all_goals (repeat' (first | with_reducible rfl | with_reducible apply And.intro | ((with_reducible show drawOK _ _ = true); rfl))) <;> (try first | omega | (simp only [InR]; omega) | with_reducible assumption)
  have hml2 : (t.marks.map EncE.cs).length = t.marks.length := by simp
  refine loopB [] [2, 3, 5, 6, 17] (fun b : Nat × Option (List Int) => [(18, .int .i64 b.1)]) (fun b m => lvMem m b.2) (fun b => b.1 ≤ t.marks.length + 1 ∧ leaveS t (t.marks.length + 1 - b.1) b.1 = some x0) (fun b => t.marks.length + 1 - b.1) ((0, none)) ?_ ?_ ?_
  · exact ⟨Nat.zero_le _, hx1⟩
  · simp [AV.bare, bel_ints, cs_arr, dep_arr, cs_int, cs_bool, cs_list, cs_rg, cs_mk, AtHead, Same, AllO, Begins, LtAll, headSt, tokz_nil, tokz_cons, tokz1, lk, dep_int, dep_bool, dep_list, dep_rg, dep_mk, memAt, bel_map, bel_mapF, bel_mapO, bel_undef, bel_int, bel_boolv, bel_nilp, bel_nilf, bel_ptr, bel_arr, bel_mp, bel_yld, bel_agg, bel_tup, bel_ref, bel_only, bel_mpr, bel_fn, bel_sl_nil, bel_sl_nilF, bel_sl_nilO, bel_sl_cons, bel_sl_app, belO_cells, belO_tok, belO_dead, belO_deferred, belO_map, belO_iter, belO_loop, bel_vec, bel_vp, belO_vecM, belO_vec, lvMem]
  · rintro ⟨k, fo⟩ ⟨hk, hI⟩
    simp only at hk hI
    simp only [tokz_nil, headSt]
    have hm : LvM t [AObj.cells (tbC t), AObj.cells [AV.sl [] Tk.full], AObj.cells [.fn (.func 31) [] [.ptr 1 0, .ptr 0 0, .ptr 2 0]]] := by
      refine ⟨by simp, rfl, rfl, ?_, _, rfl⟩
      simp [belO_cells, tbC, bel_map, bel_int, bel_fn, bel_ptr, bel_sl_nilF, dep_int, dep_rg, dep_mk]
    have hm' := hm
    simp only [tbC] at hm'
    obtain ⟨hL, hLl, hLs⟩ := lvMem_ok hm' fo
    generalize hmm : lvMem _ fo = mm at hL hLl hLs ⊢
    have g0 := hL.m0
    have g2 := hL.m2
    have g3 := hL.len
    by_cases hkN : k < t.marks.length + 1
    · have c1 : decide ((k : Int) < (t.marks.length : Int) + 1) = true := by simp; omega
      have hcall := Leave1_call hv k [] 0 mm hL (by simp; omega) (by omega)
      simp (maxSteps := 4000000) only [go_sem, AV.one, drawV, intsOf, keyIdx, over, putO, List.map_cons, List.length_cons, ↓reduceIte, snap_trues, imm_trues, enc_pair, enc_iterv, zdrop, one_i, one_b, one_sl, one_ptr, one_ref, one_nilp, one_mp, one_fn, one_nilf, g0, g2, tbC, c1, hml2]
      refine ⟨_, callX_of_callM (callM_head hcall), ?_⟩
      rintro r mem' ⟨r0, rfl, ⟨fo', rfl, rfl, hf⟩, hlen2⟩ _
      obtain ⟨fo2, hp1, hp2⟩ := lvMem_push hmm g3 hLs [] fo'
      rw [List.append_nil, List.append_nil] at hp1
      rw [hp1]
      rw [show t.marks.length + 1 - k = (t.marks.length - k) + 1 by omega, leaveS] at hI
      cases c2 : leaveG t k [] 0 with
      | some x =>
        rw [c2] at hI
        cases hI
        have := hp2 _ (hf x0 c2)
        subst this
        simp (maxSteps := 4000000) only [go_sem, drawV, intsOf, keyIdx, over, putO, memAt, List.map_cons, List.length_cons, ↓reduceIte, snap_trues, imm_trues, enc_pair, enc_iterv, zdrop, one_i, one_b, one_sl, one_ptr, one_ref, one_nilp, one_mp, one_fn, one_nilf, lvMem]
        all_goals (repeat' (first | with_reducible rfl | with_reducible apply And.intro | ((with_reducible show drawOK _ _ = true); rfl))) <;> (try first | omega | (simp only [InR]; omega) | with_reducible assumption)
      | none =>
        rw [c2] at hI
        simp (maxSteps := 4000000) only [go_sem, AV.one, drawV, intsOf, keyIdx, over, putO, List.map_cons, List.length_cons, ↓reduceIte, snap_trues, imm_trues, enc_pair, enc_iterv, zdrop, one_i, one_b, one_sl, one_ptr, one_ref, one_nilp, one_mp, one_fn, one_nilf]
        obtain ⟨hM, hMl, _⟩ := lvMem_ok hm' fo2
        refine ⟨(by simp only [InR]; omega), (k + 1, fo2), ⟨by dsimp only; omega, ?_⟩, by dsimp only; omega, ?_⟩
        · rw [show t.marks.length + 1 - (k + 1) = t.marks.length - k by omega]; exact hI
        · refine atHead_weak ⟨rfl, rfl, rfl, Nat.zero_le _, begins_refl _, ?_, allO_of hM.ok, trivial⟩
          show Same _ (lvMem _ fo2).length _
          rw [hMl]
          simp [AV.bare, bel_ints, cs_arr, dep_arr, cs_int, cs_bool, cs_list, cs_rg, cs_mk, AtHead, Same, AllO, Begins, LtAll, headSt, tokz_nil, tokz_cons, tokz1, lk, dep_int, dep_bool, dep_list, dep_rg, dep_mk, memAt, bel_map, bel_mapF, bel_mapO, bel_undef, bel_int, bel_boolv, bel_nilp, bel_nilf, bel_ptr, bel_arr, bel_mp, bel_yld, bel_agg, bel_tup, bel_ref, bel_only, bel_mpr, bel_fn, bel_sl_nil, bel_sl_nilF, bel_sl_nilO, bel_sl_cons, bel_sl_app, belO_cells, belO_tok, belO_dead, belO_deferred, belO_map, belO_iter, belO_loop, bel_vec, bel_vp, belO_vecM, belO_vec]
    · exfalso
      rw [show t.marks.length + 1 - k = 0 by omega, leaveS] at hI
      cases hI
def P46 : Specs := addSpec 9 (spec1 (fun t : Tb => t.heights.length ≤ 4096) leaveQ) (addSpec 20 (spec1 (fun t : Tb => t.heights.length ≤ 4096) firstQ) (P45))
theorem P46_app (g : FuncId) : P46 g = (addSpec 9 (spec1 (fun t : Tb => t.heights.length ≤ 4096) leaveQ) (addSpec 20 (spec1 (fun t : Tb => t.heights.length ≤ 4096) firstQ) (P45))) g := rfl
theorem P46_ok : SpecsOk Try.prog P46 := addSpec_ok (spec1_ok Leave_prog) (addSpec_ok (spec1_ok fun t h => by have := First_prog t h; rwa [firstR_eq] at this) (P45_ok))
attribute [go_sem] P46_app
theorem P46_flag (d : Option Nat) : flagOf P46 d = none := (flagOf_add (by decide) d).trans ((flagOf_add (by decide) d).trans (P45_flag d))
attribute [go_sem] P46_flag
theorem repCells_rep (z : AV) : ∀ n, repCells [z] n = List.replicate n z
  | 0 => rfl
  | n + 1 => by rw [repCells, repCells_rep z n]; rfl
theorem over_step {α : Type} [Inhabited α] {xs : List α} (f : α → AV) (z : AV) {i : Nat} (hi : i < xs.length) : over ((xs.take i).map f ++ List.replicate (xs.length - i) z) i [f (at_ xs i)] = (xs.take (i + 1)).map f ++ List.replicate (xs.length - (i + 1)) z := by
  have h1 : ((xs.take i).map f).length = i := by simp; omega
  unfold over
  rw [List.take_left' h1, List.drop_append, h1, take_succ_at hi, List.map_append]
  simp only [List.length_cons, List.length_nil, Nat.zero_add, List.map_cons, List.map_nil]
  rw [List.drop_eq_nil_of_le (by rw [h1]; omega), List.nil_append, List.drop_replicate, show i + 1 - i = 1 by omega, show xs.length - i - 1 = xs.length - (i + 1) by omega]
theorem chunks_map {α : Type} (f : α → AV) : ∀ xs : List α, chunks 1 xs.length (xs.map f) = xs.map fun x => [f x]
  | [] => rfl
  | x :: xs => by
    simp only [List.length_cons, List.map_cons, chunks, List.take_succ_cons, List.take_zero, List.drop_succ_cons, List.drop_zero]
    rw [chunks_map f xs]
def playQ (t : Tb) (l : List Int) : List (List Int) × Int := if faultT t = 0 then if listedB t l then (t.levels.map (wetL l), 0) else ([], 2) else ([], faultT t)
theorem Play_prog (t : Tb) (l : List Int) (h : t.heights.length ≤ 4096 ∧ l.length ≤ 4096) : CallP Try.prog 16 [Enc.enc t, Enc.enc l] (· = Enc.enc (playQ t l)) := by
  have h1 := h.1
  have h2 := h.2
  simp only [enc_pair]
  unfold playQ
  by_cases c : faultT t = 0
  case neg =>
    rw [if_neg c]
    simp only [enc_fnl, enc_fnb, enc_fnc, enc_refc, enc_arr, enc_int, enc_bool, enc_list, enc_rg, enc_mk, enc_tb]
    refine callP_of_vc (Φ := P46) Try.func16 rfl (by rfl) (by rw [Try.ntmps16]; simp) mixed P46_ok (by simp [AV.strip, AV.strip1, Tk.strip]) ?_
    rw [Try.ntmps16]
    simp only [Try.f16, startSt, tmFrom]
    simp (maxSteps := 4000000) only [go_sem, AV.one, drawV, intsOf, keyIdx, over, putO, memAt, List.map_cons, List.length_cons, ↓reduceIte, snap_trues, imm_trues, enc_pair, enc_iterv, zdrop, one_i, one_b, one_sl, one_ptr, one_ref, one_nilp, one_mp, one_fn, one_nilf, c]
    all_goals (repeat' (first | with_reducible rfl | with_reducible apply And.intro | ((with_reducible show drawOK _ _ = true); rfl))) <;> (try first | omega | (simp only [InR]; omega) | with_reducible assumption)
  rw [if_pos c]
  have hv := fault_ok c
  have hok := hv.hok
  have hlast := hv.last
  have hl0 := fault_l0 c
  have hl9 := hv.l9
  have hlv := hv.lv
  cases c2 : listedB t l
  · rw [if_neg (by simp)]
    generalize hlp : listedP t l = r
    obtain ⟨s, b⟩ := r
    have hb : b = false := by
      unfold listedP at hlp
      split at hlp
      · rw [c2] at hlp; cases hlp; rfl
      · cases hlp; rfl
    subst hb
    have hs := s.h
    simp only [enc_fnl, enc_fnb, enc_fnc, enc_refc, enc_arr, enc_int, enc_bool, enc_list, enc_rg, enc_mk, enc_tb]
    refine callP_of_vc (Φ := P46) Try.func16 rfl (by rfl) (by rw [Try.ntmps16]; simp) mixed P46_ok (by simp [AV.strip, AV.strip1, Tk.strip]) ?_
    rw [Try.ntmps16]
    simp only [Try.f16, startSt, tmFrom]
    simp (maxSteps := 4000000) only [go_sem, drawV, intsOf, keyIdx, over, putO, memAt, List.map_cons, List.length_cons, ↓reduceIte, snap_trues, imm_trues, enc_pair, enc_iterv, zdrop, one_i, one_b, one_sl, one_ptr, one_ref, one_nilp, one_mp, one_fn, one_nilf, c, hlp, hs]
    all_goals (repeat' (first | with_reducible rfl | with_reducible apply And.intro | ((with_reducible show drawOK _ _ = true); rfl))) <;> (try first | omega | (simp only [InR]; omega) | with_reducible assumption)
  · rw [if_pos rfl]
    have hll := listedB_len c2
    have hlp : listedP t l = (padA l, true) := by unfold listedP; rw [if_pos (by omega), c2]
    have hs := (padA l).h
    have hw : ∀ level, wetN (padA l).l level (t.last + 1).toNat = wetL l level := fun level => by
      rw [show (t.last + 1).toNat = l.length by omega]
      exact wet_pad level (by have := hok.len; omega)
    simp only [enc_fnl, enc_fnb, enc_fnc, enc_refc, enc_arr, enc_int, enc_bool, enc_list, enc_rg, enc_mk, enc_tb]
    refine callP_of_vc (Φ := P46) Try.func16 rfl (by rfl) (by rw [Try.ntmps16]; simp) mixed P46_ok (by simp [AV.strip, AV.strip1, Tk.strip]) ?_
    rw [Try.ntmps16]
    simp only [Try.f16, startSt, tmFrom]
    simp (maxSteps := 4000000) only [go_sem, drawV, intsOf, keyIdx, over, putO, memAt, List.map_cons, List.length_cons, ↓reduceIte, snap_trues, imm_trues, enc_pair, enc_iterv, zdrop, one_i, one_b, one_sl, one_ptr, one_ref, one_nilp, one_mp, one_fn, one_nilf, c, hlp, hs]
    all_goals (repeat' (first | with_reducible rfl | with_reducible apply And.intro | ((with_reducible show drawOK _ _ = true); rfl))) <;> (try first | omega | (simp only [InR]; omega) | with_reducible assumption)
    simp only [repCells_rep]
    refine loopN (t.levels.length) [] [2, 4, 5, 7, 9, 30, 31] (fun i => [(32, .int .i64 i)]) (fun i m => m.set 2 (.cells ((t.levels.take i).map (fun lv => .sl ((wetL l lv).map EncE.cs) .no) ++ List.replicate (t.levels.length - i) (.sl [] .full)))) (fun _ => True) ?_ ?_ ?_ ?_
    · trivial
    · simp [AV.bare, bel_ints, cs_arr, dep_arr, cs_int, cs_bool, cs_list, cs_rg, cs_mk, AtHead, Same, AllO, Begins, LtAll, headSt, tokz_nil, tokz_cons, tokz1, lk, dep_int, dep_bool, dep_list, dep_rg, dep_mk, memAt, bel_map, bel_mapF, bel_mapO, bel_undef, bel_int, bel_boolv, bel_nilp, bel_nilf, bel_ptr, bel_arr, bel_mp, bel_yld, bel_agg, bel_tup, bel_ref, bel_only, bel_mpr, bel_fn, bel_sl_nil, bel_sl_nilF, bel_sl_nilO, bel_sl_cons, bel_sl_app, belO_cells, belO_tok, belO_dead, belO_deferred, belO_map, belO_iter, belO_loop, bel_vec, bel_vp, belO_vecM, belO_vec, belO_cells]
    · intro i hi _
      have hi' := Int.ofNat_lt.2 hi
      have hge : (t.levels.map EncE.cs).getD i [] = [AV.int IntKind.i64 (at_ t.levels i)] := by rw [getD_mapA hi]; rfl
      have hov := over_step (fun lv => AV.sl ((wetL l lv).map EncE.cs) .no) (.sl [] .full) hi
      simp (maxSteps := 4000000) only [go_sem, AV.one, drawV, intsOf, keyIdx, putO, memAt, List.map_cons, List.length_cons, ↓reduceIte, snap_trues, imm_trues, enc_pair, enc_iterv, zdrop, one_i, one_b, one_sl, one_ptr, one_ref, one_nilp, one_mp, one_fn, one_nilf, hi', hge, hw, hov]
      all_goals (repeat' (first | with_reducible rfl | with_reducible apply And.intro | ((with_reducible show drawOK _ _ = true); rfl))) <;> (try first | omega | (simp only [InR]; omega) | with_reducible assumption)
      · simp; omega
      · refine nxt hi trivial ?_
        simp [AV.bare, bel_ints, cs_arr, dep_arr, cs_int, cs_bool, cs_list, cs_rg, cs_mk, AtHead, Same, AllO, Begins, LtAll, headSt, tokz_nil, tokz_cons, tokz1, lk, dep_int, dep_bool, dep_list, dep_rg, dep_mk, memAt, bel_map, bel_mapF, bel_mapO, bel_undef, bel_int, bel_boolv, bel_nilp, bel_nilf, bel_ptr, bel_arr, bel_mp, bel_yld, bel_agg, bel_tup, bel_ref, bel_only, bel_mpr, bel_fn, bel_sl_nil, bel_sl_nilF, bel_sl_nilO, bel_sl_cons, bel_sl_app, belO_cells, belO_tok, belO_dead, belO_deferred, belO_map, belO_iter, belO_loop, bel_vec, bel_vp, belO_vecM, belO_vec, belO_cells, -List.map_take]
        rintro c (⟨a, _, rfl⟩ | ⟨_, rfl⟩) <;> simp [AV.bare, bel_ints, cs_arr, dep_arr, cs_int, cs_bool, cs_list, cs_rg, cs_mk, AtHead, Same, AllO, Begins, LtAll, headSt, tokz_nil, tokz_cons, tokz1, lk, dep_int, dep_bool, dep_list, dep_rg, dep_mk, memAt, bel_map, bel_mapF, bel_mapO, bel_undef, bel_int, bel_boolv, bel_nilp, bel_nilf, bel_ptr, bel_arr, bel_mp, bel_yld, bel_agg, bel_tup, bel_ref, bel_only, bel_mpr, bel_fn, bel_sl_nil, bel_sl_nilF, bel_sl_nilO, bel_sl_cons, bel_sl_app, belO_cells, belO_tok, belO_dead, belO_deferred, belO_map, belO_iter, belO_loop, bel_vec, bel_vp, belO_vecM, belO_vec]
    · intro _
      have hsn : ∀ M, ((t.levels.map fun lv => AV.sl ((wetL l lv).map EncE.cs) .no).map (snapF (snap 7 M) M)) = t.levels.map fun lv => AV.sl ((wetL l lv).map EncE.cs) .no := fun M => by
        rw [List.map_map]
        exact List.map_congr_left fun lv _ => by simp only [Function.comp_apply]; simp (maxSteps := 4000000) only [go_sem, AV.one, drawV, intsOf, keyIdx, over, putO, memAt, List.map_cons, List.length_cons, ↓reduceIte, snap_trues, imm_trues, enc_pair, enc_iterv, zdrop, one_i, one_b, one_sl, one_ptr, one_ref, one_nilp, one_mp, one_fn, one_nilf]
      simp (maxSteps := 4000000) only [go_sem, AV.one, drawV, intsOf, keyIdx, over, putO, memAt, List.map_cons, List.length_cons, ↓reduceIte, snap_trues, imm_trues, enc_pair, enc_iterv, zdrop, one_i, one_b, one_sl, one_ptr, one_ref, one_nilp, one_mp, one_fn, one_nilf, List.take_length, Nat.sub_self, List.append_nil, hsn, chunks_map]
      simp [Function.comp_def]
      exact fun _ _ => rfl
def P47 : Specs := addSpec 16 (spec2 (fun (t : Tb) (l : List Int) => t.heights.length ≤ 4096 ∧ l.length ≤ 4096) playQ) (P46)
theorem P47_app (g : FuncId) : P47 g = (addSpec 16 (spec2 (fun (t : Tb) (l : List Int) => t.heights.length ≤ 4096 ∧ l.length ≤ 4096) playQ) (P46)) g := rfl
theorem P47_ok : SpecsOk Try.prog P47 := addSpec_ok (spec2_ok Play_prog) (P46_ok)
attribute [go_sem] P47_app
theorem P47_flag (d : Option Nat) : flagOf P47 d = none := (flagOf_add (by decide) d).trans (P46_flag d)
attribute [go_sem] P47_flag
end Go.Proofs
namespace Go.Proofs
open Go.Fs
set_option linter.unusedSimpArgs false
set_option linter.unusedVariables false
set_option maxHeartbeats 4000000
set_option maxRecDepth 8000
theorem list_call (l : List Int) (h : l.length ≤ 4096) : CallP Try.prog 17 [Enc.enc l] (· = Enc.enc l) := by
  simp only [enc_fnl, enc_fnb, enc_fnc, enc_refc, enc_arr, enc_int, enc_bool, enc_list, enc_rg, enc_mk, enc_tb]
  refine callP_of_vc (Φ := P47) Try.func17 rfl (by rfl) (by rw [Try.ntmps17]; simp) mixed P47_ok (by simp [AV.strip, AV.strip1, Tk.strip]) ?_
  rw [Try.ntmps17]
  simp only [Try.f17, startSt, tmFrom]
  simp (maxSteps := 4000000) only [go_sem, AV.one, drawV, intsOf, keyIdx, over, putO, memAt, List.map_cons, List.length_cons, ↓reduceIte, snap_trues, imm_trues, enc_pair, enc_iterv, zdrop, one_i, one_b, one_sl, one_ptr, one_ref, one_nilp, one_mp, one_fn, one_nilf]
  all_goals (repeat' (first | with_reducible rfl | with_reducible apply And.intro | ((with_reducible show drawOK _ _ = true); rfl))) <;> (try first | omega | (simp only [InR]; omega) | with_reducible assumption)
  simp [cs_int, AV.one]
theorem to_call (r : Rg) : CallP Try.prog 34 [Enc.enc r] (· = Enc.enc r) := by
  simp only [enc_fnl, enc_fnb, enc_fnc, enc_refc, enc_arr, enc_int, enc_bool, enc_list, enc_rg, enc_mk, enc_tb]
  refine callP_of_vc (Φ := P47) Try.func34 rfl (by rfl) (by rw [Try.ntmps34]; simp) mixed P47_ok (by simp [AV.strip, AV.strip1, Tk.strip]) ?_
  rw [Try.ntmps34]
  simp only [Try.f34, startSt, tmFrom]
  simp (maxSteps := 4000000) only [go_sem, AV.one, drawV, intsOf, keyIdx, over, putO, memAt, List.map_cons, List.length_cons, ↓reduceIte, snap_trues, imm_trues, enc_pair, enc_iterv, zdrop, one_i, one_b, one_sl, one_ptr, one_ref, one_nilp, one_mp, one_fn, one_nilf]
theorem same_call (a b : List Int) (h : a.length ≤ 4096 ∧ b.length ≤ 4096) : CallP Try.prog 18 [Enc.enc a, Enc.enc b] (· = Enc.enc (decide (a = b))) := by
  have h1 := h.1
  have h2 := h.2
  cases c : decide ((a.length : Int) = b.length)
  · have hn : decide (a = b) = false := by
      simp only [decide_eq_false_iff_not] at c ⊢
      intro e; apply c; rw [e]
    rw [hn]
    simp only [enc_fnl, enc_fnb, enc_fnc, enc_refc, enc_arr, enc_int, enc_bool, enc_list, enc_rg, enc_mk, enc_tb]
    refine callP_of_vc (Φ := P47) Try.func18 rfl (by rfl) (by rw [Try.ntmps18]; simp) mixed P47_ok (by simp [AV.strip, AV.strip1, Tk.strip]) ?_
    rw [Try.ntmps18]
    simp only [Try.f18, startSt, tmFrom]
    simp (maxSteps := 4000000) only [go_sem, AV.one, drawV, intsOf, keyIdx, over, putO, memAt, List.map_cons, List.length_cons, ↓reduceIte, snap_trues, imm_trues, enc_pair, enc_iterv, zdrop, one_i, one_b, one_sl, one_ptr, one_ref, one_nilp, one_mp, one_fn, one_nilf, c]
  · have hl : a.length = b.length := by simp only [decide_eq_true_eq] at c; omega
    simp only [enc_fnl, enc_fnb, enc_fnc, enc_refc, enc_arr, enc_int, enc_bool, enc_list, enc_rg, enc_mk, enc_tb]
    refine callP_of_vc (Φ := P47) Try.func18 rfl (by rfl) (by rw [Try.ntmps18]; simp) mixed P47_ok (by simp [AV.strip, AV.strip1, Tk.strip]) ?_
    rw [Try.ntmps18]
    simp only [Try.f18, startSt, tmFrom]
    simp (maxSteps := 4000000) only [go_sem, AV.one, drawV, intsOf, keyIdx, over, putO, memAt, List.map_cons, List.length_cons, ↓reduceIte, snap_trues, imm_trues, enc_pair, enc_iterv, zdrop, one_i, one_b, one_sl, one_ptr, one_ref, one_nilp, one_mp, one_fn, one_nilf, c]
    refine loopN (a.length) [] [0, 1, 4] (fun i => [(5, .int .i64 i)]) (fun _ m => m) (fun i => a.take i = b.take i) ?_ ?_ ?_ ?_
    · simp
    · simp [AV.bare, bel_ints, cs_arr, dep_arr, cs_int, cs_bool, cs_list, cs_rg, cs_mk, AtHead, Same, AllO, Begins, LtAll, headSt, tokz_nil, tokz_cons, tokz1, lk, dep_int, dep_bool, dep_list, dep_rg, dep_mk, memAt, bel_map, bel_mapF, bel_mapO, bel_undef, bel_int, bel_boolv, bel_nilp, bel_nilf, bel_ptr, bel_arr, bel_mp, bel_yld, bel_agg, bel_tup, bel_ref, bel_only, bel_mpr, bel_fn, bel_sl_nil, bel_sl_nilF, bel_sl_nilO, bel_sl_cons, bel_sl_app, belO_cells, belO_tok, belO_dead, belO_deferred, belO_map, belO_iter, belO_loop, bel_vec, bel_vp, belO_vecM, belO_vec]
    · intro i hi hI
      have hi' := Int.ofNat_lt.2 hi
      have hib : i < b.length := by omega
      cases c2 : decide (at_ a i = at_ b i) <;>
        simp (maxSteps := 4000000) only [go_sem, AV.one, drawV, intsOf, keyIdx, over, putO, memAt, List.map_cons, List.length_cons, ↓reduceIte, snap_trues, imm_trues, enc_pair, enc_iterv, zdrop, one_i, one_b, one_sl, one_ptr, one_ref, one_nilp, one_mp, one_fn, one_nilf, getD_mapA hi, getD_mapA hib, hi', c2]
      all_goals all_goals (repeat' (first | with_reducible rfl | with_reducible apply And.intro | ((with_reducible show drawOK _ _ = true); rfl))) <;> (try first | omega | (simp only [InR]; omega) | with_reducible assumption)
      · have : decide (a = b) = false := by
          simp only [decide_eq_false_iff_not] at c2 ⊢
          intro e; apply c2; rw [e]
        rw [this]
      · simp only [decide_eq_true_eq] at c2
        refine nxt hi (by rw [take_succ_at hi, take_succ_at hib, hI, c2]) ?_
        simp [AV.bare, bel_ints, cs_arr, dep_arr, cs_int, cs_bool, cs_list, cs_rg, cs_mk, AtHead, Same, AllO, Begins, LtAll, headSt, tokz_nil, tokz_cons, tokz1, lk, dep_int, dep_bool, dep_list, dep_rg, dep_mk, memAt, bel_map, bel_mapF, bel_mapO, bel_undef, bel_int, bel_boolv, bel_nilp, bel_nilf, bel_ptr, bel_arr, bel_mp, bel_yld, bel_agg, bel_tup, bel_ref, bel_only, bel_mpr, bel_fn, bel_sl_nil, bel_sl_nilF, bel_sl_nilO, bel_sl_cons, bel_sl_app, belO_cells, belO_tok, belO_dead, belO_deferred, belO_map, belO_iter, belO_loop, bel_vec, bel_vp, belO_vecM, belO_vec]
    · intro hI
      rw [List.take_length, hl, List.take_length] at hI
      simp (maxSteps := 4000000) only [go_sem, AV.one, drawV, intsOf, keyIdx, over, putO, memAt, List.map_cons, List.length_cons, ↓reduceIte, snap_trues, imm_trues, enc_pair, enc_iterv, zdrop, one_i, one_b, one_sl, one_ptr, one_ref, one_nilp, one_mp, one_fn, one_nilf]
      simp [hI]
theorem between_call (a b : Int) : CallP Try.prog 14 [Enc.enc a, Enc.enc b] (· = Enc.enc (Rg.mk a b)) := by
  simp only [enc_fnl, enc_fnb, enc_fnc, enc_refc, enc_arr, enc_int, enc_bool, enc_list, enc_rg, enc_mk, enc_tb]
  refine callP_of_vc (Φ := P47) Try.func14 rfl (by rfl) (by rw [Try.ntmps14]; simp) mixed P47_ok (by simp [AV.strip, AV.strip1, Tk.strip]) ?_
  rw [Try.ntmps14]
  simp only [Try.f14, startSt, tmFrom]
  simp (maxSteps := 4000000) only [go_sem, AV.one, drawV, intsOf, keyIdx, over, putO, memAt, List.map_cons, List.length_cons, ↓reduceIte, snap_trues, imm_trues, enc_pair, enc_iterv, zdrop, one_i, one_b, one_sl, one_ptr, one_ref, one_nilp, one_mp, one_fn, one_nilf]
theorem in_call (n : Int) (r : Rg) : CallP Try.prog 22 [Enc.enc n, Enc.enc r] (· = Enc.enc (inB n r.lo r.hi)) := by
  simp only [enc_fnl, enc_fnb, enc_fnc, enc_refc, enc_arr, enc_int, enc_bool, enc_list, enc_rg, enc_mk, enc_tb]
  refine callP_of_vc (Φ := P47) Try.func22 rfl (by rfl) (by rw [Try.ntmps22]; simp) mixed P47_ok (by simp [AV.strip, AV.strip1, Tk.strip]) ?_
  rw [Try.ntmps22]
  simp only [Try.f22, startSt, tmFrom]
  simp (maxSteps := 4000000) only [go_sem, AV.one, drawV, intsOf, keyIdx, over, putO, memAt, List.map_cons, List.length_cons, ↓reduceIte, snap_trues, imm_trues, enc_pair, enc_iterv, zdrop, one_i, one_b, one_sl, one_ptr, one_ref, one_nilp, one_mp, one_fn, one_nilf]
  grind [inB]
theorem fault_call (t : Tb) (h : t.heights.length ≤ 4096) : CallP Try.prog 30 [Enc.enc t] (· = Enc.enc (faultT t)) := by
  simp only [enc_fnl, enc_fnb, enc_fnc, enc_refc, enc_arr, enc_int, enc_bool, enc_list, enc_rg, enc_mk, enc_tb]
  refine callP_of_vc (Φ := P47) Try.func30 rfl (by rfl) (by rw [Try.ntmps30]; simp) mixed P47_ok (by simp [AV.strip, AV.strip1, Tk.strip]) ?_
  rw [Try.ntmps30]
  simp only [Try.f30, startSt, tmFrom]
  simp (maxSteps := 4000000) only [go_sem, AV.one, drawV, intsOf, keyIdx, over, putO, memAt, List.map_cons, List.length_cons, ↓reduceIte, snap_trues, imm_trues, enc_pair, enc_iterv, zdrop, one_i, one_b, one_sl, one_ptr, one_ref, one_nilp, one_mp, one_fn, one_nilf]
  all_goals (repeat' (first | with_reducible rfl | with_reducible apply And.intro | ((with_reducible show drawOK _ _ = true); rfl))) <;> (try first | omega | (simp only [InR]; omega) | with_reducible assumption)
def thinB (t : Tb) : Bool := if 12 < t.heights.length ∨ 8 < t.levels.length ∨ 7 < t.marks.length then false else decide (faultT t ≠ 0) || decide (manyN t.heights ≤ 150)
theorem Thin_call (t : Tb) : CallP Try.prog 29 [Enc.enc t] (· = Enc.enc (thinB t)) := by
  unfold thinB
  by_cases a1 : 12 < t.heights.length
  · rw [if_pos (.inl a1)]
    simp only [enc_fnl, enc_fnb, enc_fnc, enc_refc, enc_arr, enc_int, enc_bool, enc_list, enc_rg, enc_mk, enc_tb]
    refine callP_of_vc (Φ := P47) Try.func29 rfl (by rfl) (by rw [Try.ntmps29]; simp) mixed P47_ok (by simp [AV.strip, AV.strip1, Tk.strip]) ?_
    rw [Try.ntmps29]
    simp only [Try.f29, startSt, tmFrom]
    simp (maxSteps := 4000000) only [go_sem, AV.one, drawV, intsOf, keyIdx, over, putO, memAt, List.map_cons, List.length_cons, ↓reduceIte, snap_trues, imm_trues, enc_pair, enc_iterv, zdrop, one_i, one_b, one_sl, one_ptr, one_ref, one_nilp, one_mp, one_fn, one_nilf, show ((12 : Int) < t.heights.length) by omega]
  by_cases a2 : 8 < t.levels.length
  · rw [if_pos (.inr (.inl a2))]
    simp only [enc_fnl, enc_fnb, enc_fnc, enc_refc, enc_arr, enc_int, enc_bool, enc_list, enc_rg, enc_mk, enc_tb]
    refine callP_of_vc (Φ := P47) Try.func29 rfl (by rfl) (by rw [Try.ntmps29]; simp) mixed P47_ok (by simp [AV.strip, AV.strip1, Tk.strip]) ?_
    rw [Try.ntmps29]
    simp only [Try.f29, startSt, tmFrom]
    simp (maxSteps := 4000000) only [go_sem, AV.one, drawV, intsOf, keyIdx, over, putO, memAt, List.map_cons, List.length_cons, ↓reduceIte, snap_trues, imm_trues, enc_pair, enc_iterv, zdrop, one_i, one_b, one_sl, one_ptr, one_ref, one_nilp, one_mp, one_fn, one_nilf, show ¬ ((12 : Int) < t.heights.length) by omega, show ((8 : Int) < t.levels.length) by omega]
  by_cases a3 : 7 < t.marks.length
  · rw [if_pos (.inr (.inr a3))]
    simp only [enc_fnl, enc_fnb, enc_fnc, enc_refc, enc_arr, enc_int, enc_bool, enc_list, enc_rg, enc_mk, enc_tb]
    refine callP_of_vc (Φ := P47) Try.func29 rfl (by rfl) (by rw [Try.ntmps29]; simp) mixed P47_ok (by simp [AV.strip, AV.strip1, Tk.strip]) ?_
    rw [Try.ntmps29]
    simp only [Try.f29, startSt, tmFrom]
    simp (maxSteps := 4000000) only [go_sem, AV.one, drawV, intsOf, keyIdx, over, putO, memAt, List.map_cons, List.length_cons, ↓reduceIte, snap_trues, imm_trues, enc_pair, enc_iterv, zdrop, one_i, one_b, one_sl, one_ptr, one_ref, one_nilp, one_mp, one_fn, one_nilf, show ¬ ((12 : Int) < t.heights.length) by omega, show ¬ ((8 : Int) < t.levels.length) by omega, show ((7 : Int) < t.marks.length) by omega]
  rw [if_neg (by omega)]
  by_cases c : faultT t = 0
  · have hok := (fault_ok c).hok
    simp only [enc_fnl, enc_fnb, enc_fnc, enc_refc, enc_arr, enc_int, enc_bool, enc_list, enc_rg, enc_mk, enc_tb]
    refine callP_of_vc (Φ := P47) Try.func29 rfl (by rfl) (by rw [Try.ntmps29]; simp) mixed P47_ok (by simp [AV.strip, AV.strip1, Tk.strip]) ?_
    rw [Try.ntmps29]
    simp only [Try.f29, startSt, tmFrom]
    simp (maxSteps := 4000000) only [go_sem, AV.one, drawV, intsOf, keyIdx, over, putO, memAt, List.map_cons, List.length_cons, ↓reduceIte, snap_trues, imm_trues, enc_pair, enc_iterv, zdrop, one_i, one_b, one_sl, one_ptr, one_ref, one_nilp, one_mp, one_fn, one_nilf, show ¬ ((12 : Int) < t.heights.length) by omega, show ¬ ((8 : Int) < t.levels.length) by omega, show ¬ ((7 : Int) < t.marks.length) by omega, c]
    all_goals (repeat' (first | with_reducible rfl | with_reducible apply And.intro | ((with_reducible show drawOK _ _ = true); rfl))) <;> (try first | omega | (simp only [InR]; omega) | with_reducible assumption)
    simp [c]
  · simp only [enc_fnl, enc_fnb, enc_fnc, enc_refc, enc_arr, enc_int, enc_bool, enc_list, enc_rg, enc_mk, enc_tb]
    refine callP_of_vc (Φ := P47) Try.func29 rfl (by rfl) (by rw [Try.ntmps29]; simp) mixed P47_ok (by simp [AV.strip, AV.strip1, Tk.strip]) ?_
    rw [Try.ntmps29]
    simp only [Try.f29, startSt, tmFrom]
    simp (maxSteps := 4000000) only [go_sem, AV.one, drawV, intsOf, keyIdx, over, putO, memAt, List.map_cons, List.length_cons, ↓reduceIte, snap_trues, imm_trues, enc_pair, enc_iterv, zdrop, one_i, one_b, one_sl, one_ptr, one_ref, one_nilp, one_mp, one_fn, one_nilf, show ¬ ((12 : Int) < t.heights.length) by omega, show ¬ ((8 : Int) < t.levels.length) by omega, show ¬ ((7 : Int) < t.marks.length) by omega, c]
    all_goals (repeat' (first | with_reducible rfl | with_reducible apply And.intro | ((with_reducible show drawOK _ _ = true); rfl))) <;> (try first | omega | (simp only [InR]; omega) | with_reducible assumption)
    simp [c]
def P48 : Specs := addSpec 17 (spec1 (fun l : List Int => l.length ≤ 4096) (fun l => l)) (addSpec 34 (spec1 (fun _ : Rg => True) (fun r => r)) (addSpec 18 (spec2 (fun (a b : List Int) => a.length ≤ 4096 ∧ b.length ≤ 4096) (fun a b => decide (a = b))) (addSpec 14 (spec2 (fun _ _ : Int => True) Rg.mk) (addSpec 22 (spec2 (fun (_ : Int) (_ : Rg) => True) (fun n r => inB n r.lo r.hi)) (addSpec 30 (spec1 (fun t : Tb => t.heights.length ≤ 4096) faultT) (addSpec 29 (spec1 (fun _ : Tb => True) thinB) (P47)))))))
theorem P48_app (g : FuncId) : P48 g = (addSpec 17 (spec1 (fun l : List Int => l.length ≤ 4096) (fun l => l)) (addSpec 34 (spec1 (fun _ : Rg => True) (fun r => r)) (addSpec 18 (spec2 (fun (a b : List Int) => a.length ≤ 4096 ∧ b.length ≤ 4096) (fun a b => decide (a = b))) (addSpec 14 (spec2 (fun _ _ : Int => True) Rg.mk) (addSpec 22 (spec2 (fun (_ : Int) (_ : Rg) => True) (fun n r => inB n r.lo r.hi)) (addSpec 30 (spec1 (fun t : Tb => t.heights.length ≤ 4096) faultT) (addSpec 29 (spec1 (fun _ : Tb => True) thinB) (P47)))))))) g := rfl
theorem P48_ok : SpecsOk Try.prog P48 := addSpec_ok (spec1_ok list_call) (addSpec_ok (spec1_ok fun r _ => to_call r) (addSpec_ok (spec2_ok same_call) (addSpec_ok (spec2_ok fun a b _ => between_call a b) (addSpec_ok (spec2_ok fun n r _ => in_call n r) (addSpec_ok (spec1_ok fault_call) (addSpec_ok (spec1_ok fun t _ => Thin_call t) (P47_ok)))))))
attribute [go_sem] P48_app
theorem P48_flag (d : Option Nat) : flagOf P48 d = none := (flagOf_add (by decide) d).trans ((flagOf_add (by decide) d).trans ((flagOf_add (by decide) d).trans ((flagOf_add (by decide) d).trans ((flagOf_add (by decide) d).trans ((flagOf_add (by decide) d).trans ((flagOf_add (by decide) d).trans (P47_flag d)))))))
attribute [go_sem] P48_flag
theorem thin_len {t : Tb} (h : thinB t = true) : t.heights.length ≤ 12 ∧ t.levels.length ≤ 8 ∧ t.marks.length ≤ 7 := by
  unfold thinB at h
  split at h
  · cases h
  · omega
def sureQ (t : Tb) : List (List Int) × Int := if faultT t = 0 then if truthsL t = [] then ([], 11) else (truthsL t, 0) else ([], faultT t)
theorem ready_call (t : Tb) : CallP Try.prog 7 [Enc.enc t] (· = Enc.enc (thinB t && decide (faultT t = 0))) := by
  cases c : thinB t
  · simp only [enc_fnl, enc_fnb, enc_fnc, enc_refc, enc_arr, enc_int, enc_bool, enc_list, enc_rg, enc_mk, enc_tb]
    refine callP_of_vc (Φ := P48) Try.func7 rfl (by rfl) (by rw [Try.ntmps7]; simp) mixed P48_ok (by simp [AV.strip, AV.strip1, Tk.strip]) ?_
    rw [Try.ntmps7]
    simp only [Try.f7, startSt, tmFrom]
    simp (maxSteps := 4000000) only [go_sem, AV.one, drawV, intsOf, keyIdx, over, putO, memAt, List.map_cons, List.length_cons, ↓reduceIte, snap_trues, imm_trues, enc_pair, enc_iterv, zdrop, one_i, one_b, one_sl, one_ptr, one_ref, one_nilp, one_mp, one_fn, one_nilf, c]
  · have := thin_len c
    simp only [enc_fnl, enc_fnb, enc_fnc, enc_refc, enc_arr, enc_int, enc_bool, enc_list, enc_rg, enc_mk, enc_tb]
    refine callP_of_vc (Φ := P48) Try.func7 rfl (by rfl) (by rw [Try.ntmps7]; simp) mixed P48_ok (by simp [AV.strip, AV.strip1, Tk.strip]) ?_
    rw [Try.ntmps7]
    simp only [Try.f7, startSt, tmFrom]
    simp (maxSteps := 4000000) only [go_sem, AV.one, drawV, intsOf, keyIdx, over, putO, memAt, List.map_cons, List.length_cons, ↓reduceIte, snap_trues, imm_trues, enc_pair, enc_iterv, zdrop, one_i, one_b, one_sl, one_ptr, one_ref, one_nilp, one_mp, one_fn, one_nilf, c]
    all_goals (repeat' (first | with_reducible rfl | with_reducible apply And.intro | ((with_reducible show drawOK _ _ = true); rfl))) <;> (try first | omega | (simp only [InR]; omega) | with_reducible assumption)
theorem Table_call (t : Tb) (h : t.heights.length ≤ 4096 ∧ t.levels.length ≤ 4096 ∧ t.marks.length ≤ 4096) : CallP Try.prog 10 [Enc.enc t] (· = Enc.enc t) := by
  obtain ⟨h1, h2, h3⟩ := h
  simp only [enc_fnl, enc_fnb, enc_fnc, enc_refc, enc_arr, enc_int, enc_bool, enc_list, enc_rg, enc_mk, enc_tb]
  refine callP_of_vc (Φ := P48) Try.func10 rfl (by rfl) (by rw [Try.ntmps10]; simp) mixed P48_ok (by simp [AV.strip, AV.strip1, Tk.strip]) ?_
  rw [Try.ntmps10]
  simp only [Try.f10, startSt, tmFrom]
  simp (maxSteps := 4000000) only [go_sem, drawV, intsOf, keyIdx, over, putO, memAt, List.map_cons, List.length_cons, ↓reduceIte, snap_trues, imm_trues, enc_pair, enc_iterv, zdrop, one_i, one_b, one_sl, one_ptr, one_ref, one_nilp, one_mp, one_fn, one_nilf]
  all_goals (repeat' (first | with_reducible rfl | with_reducible apply And.intro | ((with_reducible show drawOK _ _ = true); rfl))) <;> (try first | omega | (simp only [InR]; omega) | with_reducible assumption)
  refine loopN (t.heights.length) [.cell 2 1 2] [1, 2, 3] (fun i => [(4, .int .i64 i)]) (fun i m => (m.set 2 (.cells [.int .i64 t.last, .sl ((t.heights.take i).map EncE.cs) (.own 3), .int .i64 t.step, .sl (t.levels.map EncE.cs) .no, .sl [] .full])).set 3 (.tok i 2)) (fun _ => True) ?_ ?_ ?_ ?_
  · trivial
  · simp [AV.bare, bel_ints, cs_arr, dep_arr, cs_int, cs_bool, cs_list, cs_rg, cs_mk, AtHead, Same, AllO, Begins, LtAll, headSt, tokz_nil, tokz_cons, tokz1, lk, dep_int, dep_bool, dep_list, dep_rg, dep_mk, memAt, bel_map, bel_mapF, bel_mapO, bel_undef, bel_int, bel_boolv, bel_nilp, bel_nilf, bel_ptr, bel_arr, bel_mp, bel_yld, bel_agg, bel_tup, bel_ref, bel_only, bel_mpr, bel_fn, bel_sl_nil, bel_sl_nilF, bel_sl_nilO, bel_sl_cons, bel_sl_app, belO_cells, belO_tok, belO_dead, belO_deferred, belO_map, belO_iter, belO_loop, bel_vec, bel_vp, belO_vecM, belO_vec, -List.map_take]
  · intro i hi _
    have hi' := Int.ofNat_lt.2 hi
    have hg : (t.heights.map EncE.cs).getD i [] = EncE.cs (at_ t.heights i) := getD_mapA hi
    have htk : (t.heights.take i).length = i := by simp; omega
    simp (maxSteps := 4000000) only [go_sem, drawV, intsOf, keyIdx, over, putO, memAt, List.map_cons, List.length_cons, ↓reduceIte, snap_trues, imm_trues, enc_pair, enc_iterv, zdrop, one_i, one_b, one_sl, one_ptr, one_ref, one_nilp, one_mp, one_fn, one_nilf, hi', hg, htk]
    all_goals (repeat' (first | with_reducible rfl | with_reducible apply And.intro | ((with_reducible show drawOK _ _ = true); rfl))) <;> (try first | omega | (simp only [InR]; omega) | with_reducible assumption)
    refine nxt hi trivial ?_
    simp [AV.bare, bel_ints, cs_arr, dep_arr, cs_int, cs_bool, cs_list, cs_rg, cs_mk, AtHead, Same, AllO, Begins, LtAll, headSt, tokz_nil, tokz_cons, tokz1, lk, dep_int, dep_bool, dep_list, dep_rg, dep_mk, memAt, bel_map, bel_mapF, bel_mapO, bel_undef, bel_int, bel_boolv, bel_nilp, bel_nilf, bel_ptr, bel_arr, bel_mp, bel_yld, bel_agg, bel_tup, bel_ref, bel_only, bel_mpr, bel_fn, bel_sl_nil, bel_sl_nilF, bel_sl_nilO, bel_sl_cons, bel_sl_app, belO_cells, belO_tok, belO_dead, belO_deferred, belO_map, belO_iter, belO_loop, bel_vec, bel_vp, belO_vecM, belO_vec, take_succ_at hi, -List.map_take]
  · intro _
    simp (maxSteps := 4000000) only [go_sem, drawV, intsOf, keyIdx, over, putO, memAt, List.map_cons, List.length_cons, ↓reduceIte, snap_trues, imm_trues, enc_pair, enc_iterv, zdrop, one_i, one_b, one_sl, one_ptr, one_ref, one_nilp, one_mp, one_fn, one_nilf, List.take_length]
    all_goals (repeat' (first | with_reducible rfl | with_reducible apply And.intro | ((with_reducible show drawOK _ _ = true); rfl))) <;> (try first | omega | (simp only [InR]; omega) | with_reducible assumption)
    refine loopN (t.marks.length) [.cell 2 4 4] [1, 2, 3] (fun i => [(5, .int .i64 i)]) (fun i m => (m.set 2 (.cells [.int .i64 t.last, .sl (t.heights.map EncE.cs) (.own 3), .int .i64 t.step, .sl (t.levels.map EncE.cs) .no, .sl ((t.marks.take i).map EncE.cs) (.own 4)])).set 4 (.tok i 4)) (fun _ => True) ?_ ?_ ?_ ?_
    · trivial
    · simp [AV.bare, bel_ints, cs_arr, dep_arr, cs_int, cs_bool, cs_list, cs_rg, cs_mk, AtHead, Same, AllO, Begins, LtAll, headSt, tokz_nil, tokz_cons, tokz1, lk, dep_int, dep_bool, dep_list, dep_rg, dep_mk, memAt, bel_map, bel_mapF, bel_mapO, bel_undef, bel_int, bel_boolv, bel_nilp, bel_nilf, bel_ptr, bel_arr, bel_mp, bel_yld, bel_agg, bel_tup, bel_ref, bel_only, bel_mpr, bel_fn, bel_sl_nil, bel_sl_nilF, bel_sl_nilO, bel_sl_cons, bel_sl_app, belO_cells, belO_tok, belO_dead, belO_deferred, belO_map, belO_iter, belO_loop, bel_vec, bel_vp, belO_vecM, belO_vec, -List.map_take]
    · intro i hi _
      have hi' := Int.ofNat_lt.2 hi
      have hg : (t.marks.map EncE.cs).getD i [] = EncE.cs (at_ t.marks i) := getD_mapA hi
      have htk : (t.marks.take i).length = i := by simp; omega
      simp (maxSteps := 4000000) only [go_sem, drawV, intsOf, keyIdx, over, putO, memAt, List.map_cons, List.length_cons, ↓reduceIte, snap_trues, imm_trues, enc_pair, enc_iterv, zdrop, one_i, one_b, one_sl, one_ptr, one_ref, one_nilp, one_mp, one_fn, one_nilf, hi', hg, htk]
      all_goals (repeat' (first | with_reducible rfl | with_reducible apply And.intro | ((with_reducible show drawOK _ _ = true); rfl))) <;> (try first | omega | (simp only [InR]; omega) | with_reducible assumption)
      refine nxt hi trivial ?_
      simp [AV.bare, bel_ints, cs_arr, dep_arr, cs_int, cs_bool, cs_list, cs_rg, cs_mk, AtHead, Same, AllO, Begins, LtAll, headSt, tokz_nil, tokz_cons, tokz1, lk, dep_int, dep_bool, dep_list, dep_rg, dep_mk, memAt, bel_map, bel_mapF, bel_mapO, bel_undef, bel_int, bel_boolv, bel_nilp, bel_nilf, bel_ptr, bel_arr, bel_mp, bel_yld, bel_agg, bel_tup, bel_ref, bel_only, bel_mpr, bel_fn, bel_sl_nil, bel_sl_nilF, bel_sl_nilO, bel_sl_cons, bel_sl_app, belO_cells, belO_tok, belO_dead, belO_deferred, belO_map, belO_iter, belO_loop, bel_vec, bel_vp, belO_vecM, belO_vec, take_succ_at hi, -List.map_take]
    · intro _
      simp (maxSteps := 4000000) only [go_sem, drawV, intsOf, keyIdx, over, putO, memAt, List.map_cons, List.length_cons, ↓reduceIte, snap_trues, imm_trues, enc_pair, enc_iterv, zdrop, one_i, one_b, one_sl, one_ptr, one_ref, one_nilp, one_mp, one_fn, one_nilf, List.take_length]
      all_goals (repeat' (first | with_reducible rfl | with_reducible apply And.intro | ((with_reducible show drawOK _ _ = true); rfl))) <;> (try first | omega | (simp only [InR]; omega) | with_reducible assumption)
end Go.Proofs
