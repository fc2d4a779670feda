/- The texts M1, M2, D, M3, L, S1, S2, S3, joined. -/
import Derived.Test.YtfdnifofpkceiaaG6
import Derived.Test.YtfdnifofpkceiaaProg
import Derived.KernelRfl
set_option linter.all false
namespace Go.Proofs
open Go.Fs
set_option linter.unusedVariables false
def cnt : Nat → (Nat → Bool) → Int
  | 0, _ => 0
  | n + 1, p => cnt n p + if p n = true then 1 else 0
def wsum : Nat → (Nat → Int) → (Nat → Bool) → Int
  | 0, _, _ => 0
  | n + 1, f, p => wsum n f p + if p n = true then f n else 0
def sumTo : Nat → (Nat → Int) → Int
  | 0, _ => 0
  | m + 1, g => sumTo m g + g m
theorem cnt_nonneg (n : Nat) (p : Nat → Bool) : 0 ≤ cnt n p := by
  induction n with
  | zero => exact Int.le_refl _
  | succ n ih => unfold cnt; split <;> omega
theorem cnt_le (n : Nat) (p : Nat → Bool) : cnt n p ≤ n := by
  induction n with
  | zero => exact Int.le_refl _
  | succ n ih => unfold cnt; split <;> omega
theorem cnt_congr {n : Nat} {p q : Nat → Bool} (h : ∀ i, i < n → p i = q i) : cnt n p = cnt n q := by
  induction n with
  | zero => rfl
  | succ n ih => unfold cnt; rw [ih (fun i hi => h i (by omega)), h n (by omega)]
theorem cnt_mono {n : Nat} {p q : Nat → Bool} (h : ∀ i, i < n → p i = true → q i = true) : cnt n p ≤ cnt n q := by
  induction n with
  | zero => exact Int.le_refl _
  | succ n ih =>
    unfold cnt
    have := ih (fun i hi => h i (by omega))
    by_cases c : p n = true
    · rw [if_pos c, if_pos (h n (by omega) c)]; omega
    · rw [if_neg c]; split <;> omega
theorem cnt_split (n : Nat) (p q : Nat → Bool) : cnt n p = cnt n (fun i => p i && q i) + cnt n (fun i => p i && !q i) := by
  induction n with
  | zero => rfl
  | succ n ih =>
    simp only [cnt]
    rw [ih]
    have e : ∀ a b : Bool, (if a = true then (1 : Int) else 0) = (if (a && b) = true then 1 else 0) + if (a && !b) = true then 1 else 0 := by decide
    have := e (p n) (q n)
    omega
theorem cnt_zero {n : Nat} {p : Nat → Bool} (h : ∀ i, i < n → p i = false) : cnt n p = 0 := by
  induction n with
  | zero => rfl
  | succ n ih => unfold cnt; rw [ih (fun i hi => h i (by omega)), h n (by omega)]; rfl
theorem cnt_pos {n i : Nat} {p : Nat → Bool} (hi : i < n) (h : p i = true) : 1 ≤ cnt n p := by
  induction n with
  | zero => omega
  | succ n ih =>
    unfold cnt
    by_cases e : i = n
    · subst e; rw [if_pos h]; have := cnt_nonneg i p; omega
    · have := ih (by omega); split <;> omega
theorem cnt_or_one {n i : Nat} (p : Nat → Bool) (hi : i < n) : cnt n (fun j => p j || decide (j = i)) = cnt n p + if p i = true then 0 else 1 := by
  induction n with
  | zero => omega
  | succ n ih =>
    unfold cnt
    by_cases e : i = n
    · subst e
      rw [cnt_congr (p := fun j => p j || decide (j = i)) (q := p) (fun j hj => by simp; intro h; omega)]
      cases p i <;> simp
    · rw [ih (by omega)]
      have : decide (n = i) = false := by simp; omega
      simp only [this, Bool.or_false]
      omega
theorem wsum_congr {n : Nat} {f g : Nat → Int} {p q : Nat → Bool} (h : ∀ i, i < n → p i = q i) (hf : ∀ i, i < n → p i = true → f i = g i) : wsum n f p = wsum n g q := by
  induction n with
  | zero => rfl
  | succ n ih =>
    unfold wsum
    rw [ih (fun i hi => h i (by omega)) (fun i hi => hf i (by omega)), ← h n (by omega)]
    by_cases c : p n = true
    · rw [if_pos c, if_pos c, hf n (by omega) c]
    · rw [if_neg c, if_neg c]
theorem wsum_mono {n : Nat} {f : Nat → Int} {p q : Nat → Bool} (h : ∀ i, i < n → p i = true → q i = true) (hf : ∀ i, i < n → 0 ≤ f i) : wsum n f p ≤ wsum n f q := by
  induction n with
  | zero => exact Int.le_refl _
  | succ n ih =>
    unfold wsum
    have := ih (fun i hi => h i (by omega)) (fun i hi => hf i (by omega))
    have h0 := hf n (by omega)
    by_cases c : p n = true
    · rw [if_pos c, if_pos (h n (by omega) c)]; omega
    · rw [if_neg c]; split <;> omega
theorem wsum_bd {n : Nat} {f : Nat → Int} {m : Int} (p : Nat → Bool) (hm : 0 ≤ m) (hf : ∀ i, i < n → 0 ≤ f i ∧ f i ≤ m) : 0 ≤ wsum n f p ∧ wsum n f p ≤ n * m := by
  induction n with
  | zero => simp [wsum]
  | succ n ih =>
    unfold wsum
    have h1 := ih (fun i hi => hf i (by omega))
    have h2 := hf n (by omega)
    have : ((n + 1 : Nat) : Int) * m = n * m + m := by rw [Int.natCast_succ, Int.add_mul]; omega
    rw [this]
    split <;> omega
theorem sumTo_congr {m : Nat} {f g : Nat → Int} (h : ∀ c, c < m → f c = g c) : sumTo m f = sumTo m g := by
  induction m with
  | zero => rfl
  | succ m ih => unfold sumTo; rw [ih (fun c hc => h c (by omega)), h m (by omega)]
theorem sumTo_le {m : Nat} {f g : Nat → Int} (h : ∀ c, c < m → f c ≤ g c) : sumTo m f ≤ sumTo m g := by
  induction m with
  | zero => exact Int.le_refl _
  | succ m ih =>
    unfold sumTo
    have h1 := ih (fun c hc => h c (by omega))
    have h2 := h m (by omega)
    omega
theorem sumTo_add (m : Nat) (f g : Nat → Int) : sumTo m (fun c => f c + g c) = sumTo m f + sumTo m g := by
  induction m with
  | zero => rfl
  | succ m ih => simp only [sumTo]; rw [ih]; omega
theorem sumTo_zero (m : Nat) : sumTo m (fun _ => 0) = 0 := by
  induction m with
  | zero => rfl
  | succ m ih => unfold sumTo; rw [ih]; rfl
theorem sumTo_ind (m : Nat) (v : Int) (h : 0 ≤ v) : sumTo m (fun c => if (c : Int) + 1 ≤ v then 1 else 0) = min (m : Int) v := by
  induction m with
  | zero => simp only [sumTo]; omega
  | succ m ih => simp only [sumTo]; rw [ih]; split <;> omega
theorem wsum_layers {n m : Nat} {f : Nat → Int} {p : Nat → Bool} (hf : ∀ i, i < n → p i = true → 0 ≤ f i ∧ f i ≤ m) :
    wsum n f p = sumTo m (fun c => cnt n (fun i => p i && decide ((c : Int) + 1 ≤ f i))) := by
  induction n with
  | zero => simp only [wsum, cnt]; rw [sumTo_zero]
  | succ n ih =>
    simp only [wsum, cnt]
    rw [sumTo_add, ih (fun i hi => hf i (by omega))]
    congr 1
    by_cases c : p n = true
    · rw [if_pos c]
      have h := hf n (by omega) c
      rw [sumTo_congr (g := fun k => if (k : Int) + 1 ≤ f n then 1 else 0) (fun k hk => by simp [c]), sumTo_ind _ _ h.1]
      omega
    · rw [if_neg c]
      rw [sumTo_congr (g := fun _ => 0) (fun k hk => by simp [c]), sumTo_zero]
def Feas (n : Nat) (H : Int) (sp : Nat → Int) (A : Nat → Bool) : Prop := ∀ b : Nat, b ≤ 18 → cnt n (fun i => A i && decide (sp i ≤ (b : Int))) ≤ H * b
theorem Feas.sub {n : Nat} {H : Int} {sp : Nat → Int} {A B : Nat → Bool} (h : Feas n H sp A) (hs : ∀ i, i < n → B i = true → A i = true) : Feas n H sp B := fun b hb => by
  refine Int.le_trans (cnt_mono fun i hi hq => ?_) (h b hb)
  simp only [Bool.and_eq_true] at hq ⊢
  exact ⟨hs i hi hq.1, hq.2⟩
theorem Feas.empty {n : Nat} {H : Int} {sp : Nat → Int} (hH : 0 ≤ H) : Feas n H sp (fun _ => false) := fun b hb => by
  rw [cnt_zero (fun i hi => by simp)]
  exact Int.mul_nonneg hH (by omega)
def partN (n : Nat) (H : Int) (sp ch : Nat → Int) (c b : Int) : Int := H * b + cnt n (fun i => decide (c ≤ ch i) && decide (b < sp i))
theorem part_weak {n : Nat} {H : Int} {sp ch : Nat → Int} {A : Nat → Bool} (h : Feas n H sp A) (c : Int) {b : Nat} (hb : b ≤ 18) :
    cnt n (fun i => A i && decide (c ≤ ch i)) ≤ partN n H sp ch c b := by
  rw [cnt_split n (fun i => A i && decide (c ≤ ch i)) (fun i => decide (sp i ≤ (b : Int)))]
  unfold partN
  have h1 : cnt n (fun i => (A i && decide (c ≤ ch i)) && decide (sp i ≤ (b : Int))) ≤ H * b := by
    refine Int.le_trans (cnt_mono fun i hi hq => ?_) (h b hb)
    simp only [Bool.and_eq_true] at hq ⊢
    exact ⟨hq.1.1, hq.2⟩
  have h2 : cnt n (fun i => (A i && decide (c ≤ ch i)) && !decide (sp i ≤ (b : Int))) ≤ cnt n (fun i => decide (c ≤ ch i) && decide ((b : Int) < sp i)) := by
    refine cnt_mono fun i hi hq => ?_
    simp only [Bool.and_eq_true, Bool.not_eq_true', decide_eq_true_eq, decide_eq_false_iff_not] at hq ⊢
    exact ⟨hq.1.2, by omega⟩
  omega
theorem greatest_le {P : Nat → Prop} (m : Nat) (h0 : P 0) : ∃ b, b ≤ m ∧ P b ∧ ∀ b', b' ≤ m → P b' → b' ≤ b := by
  induction m with
  | zero => exact ⟨0, Nat.le_refl _, h0, fun b' hb _ => hb⟩
  | succ m ih =>
    by_cases c : P (m + 1)
    · exact ⟨m + 1, Nat.le_refl _, c, fun b' hb _ => hb⟩
    · obtain ⟨b, h1, h2, h3⟩ := ih
      refine ⟨b, by omega, h2, fun b' hb hp => ?_⟩
      by_cases e : b' = m + 1
      · subst e; exact absurd hp c
      · exact h3 b' (by omega) hp
theorem tight_bound {n : Nat} {H : Int} {sp : Nat → Int} {E K : Nat → Bool} (hF : Feas n H sp K) (hsub : ∀ i, i < n → K i = true → E i = true)
    (hmax : ∀ i, i < n → E i = true → K i = false → ¬ Feas n H sp (fun j => K j || decide (j = i))) :
    ∃ b : Nat, b ≤ 18 ∧ cnt n K = H * b + cnt n (fun i => E i && decide ((b : Int) < sp i)) := by
  obtain ⟨b, hb, hP, hG⟩ := greatest_le (P := fun b => cnt n (fun i => K i && decide (sp i ≤ (b : Int))) = H * b) 18 (by
    have h1 := hF 0 (by omega)
    have h2 := cnt_nonneg n (fun i => K i && decide (sp i ≤ ((0 : Nat) : Int)))
    show cnt n (fun i => K i && decide (sp i ≤ ((0 : Nat) : Int))) = H * ((0 : Nat) : Int)
    rw [show ((0 : Nat) : Int) = 0 from rfl, Int.mul_zero] at *
    omega)
  refine ⟨b, hb, ?_⟩
  have hall : ∀ i, i < n → E i = true → (b : Int) < sp i → K i = true := fun i hi hE hs => by
    cases hK : K i with
    | true => rfl
    | false =>
      exfalso
      refine hmax i hi hE hK fun b' hb' => ?_
      have hF' := hF b' hb'
      have e : cnt n (fun j => (K j || decide (j = i)) && decide (sp j ≤ (b' : Int))) ≤ cnt n (fun j => K j && decide (sp j ≤ (b' : Int))) + if sp i ≤ (b' : Int) then 1 else 0 := by
        by_cases c : sp i ≤ (b' : Int)
        · rw [if_pos c]
          have := cnt_or_one (fun j => K j && decide (sp j ≤ (b' : Int))) hi
          rw [hK] at this
          simp only [Bool.false_and, Bool.false_eq_true, if_false] at this
          rw [← this]
          refine cnt_mono fun j hj hq => ?_
          simp only [Bool.and_eq_true, Bool.or_eq_true] at hq ⊢
          rcases hq.1 with q | q
          · exact .inl ⟨q, hq.2⟩
          · exact .inr q
        · rw [if_neg c, Int.add_zero]
          refine cnt_mono fun j hj hq => ?_
          simp only [Bool.and_eq_true, Bool.or_eq_true, decide_eq_true_eq] at hq ⊢
          rcases hq.1 with q | q
          · exact ⟨q, hq.2⟩
          · rw [q] at hq; exact absurd hq.2 c
      show cnt n (fun j => (K j || decide (j = i)) && decide (sp j ≤ (b' : Int))) ≤ H * b'
      by_cases c : sp i ≤ (b' : Int)
      · rw [if_pos c] at e
        by_cases t : cnt n (fun j => K j && decide (sp j ≤ (b' : Int))) = H * b'
        · have := hG b' hb' t
          omega
        · omega
      · rw [if_neg c] at e
        omega
  rw [cnt_split n K (fun i => decide (sp i ≤ (b : Int))), hP]
  congr 1
  refine cnt_congr fun i hi => ?_
  by_cases c : (b : Int) < sp i
  · have c' : ¬ sp i ≤ (b : Int) := by omega
    cases hE : E i with
    | true => rw [hall i hi hE c]; simp [c, c']
    | false =>
      have : K i = false := by
        cases hK : K i with
        | false => rfl
        | true => rw [hsub i hi hK] at hE; cases hE
      rw [this]; simp
  · have c' : sp i ≤ (b : Int) := by omega
    simp [c, c']
end Go.Proofs
namespace Go.Proofs
open Go.Fs
set_option linter.unusedVariables false
def insJ (key : Int → Int) (P : List Int) (x : Int) : Nat → List Int
  | 0 => x :: P
  | j + 1 => if key x < key (at_ P j) then insJ key P x j else P.take (j + 1) ++ x :: P.drop (j + 1)
def insS (key : Int → Int) (P : List Int) (x : Int) : List Int := insJ key P x P.length
def sortS (key : Int → Int) (l : List Int) : List Int := l.foldl (insS key) []
theorem at_mem {α : Type} [Inhabited α] {l : List α} {i : Nat} (h : i < l.length) : at_ l i ∈ l := by rw [at_get h]; exact List.getElem_mem h
theorem mem_at {α : Type} [Inhabited α] {l : List α} {x : α} (h : x ∈ l) : ∃ i, i < l.length ∧ at_ l i = x := by
  obtain ⟨i, hi, rfl⟩ := List.mem_iff_getElem.1 h
  exact ⟨i, hi, at_get hi⟩
theorem insJ_perm (key : Int → Int) (P : List Int) (x : Int) : ∀ j, (insJ key P x j).Perm (x :: P)
  | 0 => List.Perm.refl _
  | j + 1 => by
    unfold insJ
    split
    · exact insJ_perm key P x j
    · have := List.perm_middle (a := x) (l₁ := P.take (j + 1)) (l₂ := P.drop (j + 1))
      rwa [List.take_append_drop] at this
theorem insS_perm (key : Int → Int) (P : List Int) (x : Int) : (insS key P x).Perm (x :: P) := insJ_perm key P x _
theorem sortS_snoc (key : Int → Int) (l : List Int) (x : Int) : sortS key (l ++ [x]) = insS key (sortS key l) x := by
  simp [sortS, List.foldl_append]
theorem sortS_perm (key : Int → Int) (l : List Int) : (sortS key l).Perm l := by
  have key2 : ∀ (l : List Int) (P : List Int), (l.foldl (insS key) P).Perm (P ++ l) := by
    intro l
    induction l with
    | nil => intro P; simp
    | cons x l ih =>
      intro P
      refine (ih _).trans ?_
      refine ((insS_perm key P x).append_right l).trans ?_
      simpa using (List.perm_middle (a := x) (l₁ := P) (l₂ := l)).symm
  have h := key2 l []
  rw [List.nil_append] at h
  exact h
theorem sortS_len (key : Int → Int) (l : List Int) : (sortS key l).length = l.length := (sortS_perm key l).length_eq
theorem sortS_mem (key : Int → Int) (l : List Int) (x : Int) : x ∈ sortS key l ↔ x ∈ l := (sortS_perm key l).mem_iff
theorem sortS_nodup {key : Int → Int} {l : List Int} (h : l.Nodup) : (sortS key l).Nodup := (sortS_perm key l).nodup_iff.2 h
def Sorted (key : Int → Int) (l : List Int) : Prop := l.Pairwise fun a b => key a ≤ key b
theorem Sorted.at_le {key : Int → Int} {l : List Int} (h : Sorted key l) {i j : Nat} (hij : i ≤ j) (hj : j < l.length) : key (at_ l i) ≤ key (at_ l j) := by
  rw [at_get (show i < l.length by omega), at_get hj]
  by_cases e : i = j
  · subst e; exact Int.le_refl _
  · exact List.pairwise_iff_getElem.1 h i j _ _ (by omega)
theorem insJ_sorted {key : Int → Int} {P : List Int} {x : Int} (hP : Sorted key P) : ∀ j, j ≤ P.length → (∀ y ∈ P.drop j, key x < key y) → Sorted key (insJ key P x j)
  | 0, _, h => by
    unfold insJ
    refine List.pairwise_cons.2 ⟨fun y hy => ?_, hP⟩
    have := h y (by simpa using hy)
    omega
  | j + 1, hj, h => by
    unfold insJ
    split
    · rename_i c
      refine insJ_sorted hP j (by omega) fun y hy => ?_
      rw [List.drop_eq_getElem_cons (by omega)] at hy
      rcases List.mem_cons.1 hy with q | q
      · rw [q, ← at_get (show j < P.length by omega)]; exact c
      · exact h y q
    · rename_i c
      have hs : Sorted key (P.take (j + 1) ++ P.drop (j + 1)) := by rw [List.take_append_drop]; exact hP
      obtain ⟨h1, h2, h3⟩ := List.pairwise_append.1 hs
      have h4 : ∀ a ∈ P.take (j + 1), key a ≤ key x := fun a ha => by
        obtain ⟨i, hi, rfl⟩ := List.mem_iff_getElem.1 ha
        have hi' : i ≤ j ∧ i < P.length := by simp at hi; omega
        have := hP.at_le hi'.1 (by omega)
        rw [List.getElem_take, ← at_get hi'.2]
        omega
      refine List.pairwise_append.2 ⟨h1, List.pairwise_cons.2 ⟨fun y hy => by have := h y hy; omega, h2⟩, fun a ha b hb => ?_⟩
      rcases List.mem_cons.1 hb with q | q
      · rw [q]; exact h4 a ha
      · exact h3 a ha b q
theorem sortS_sorted (key : Int → Int) (l : List Int) : Sorted key (sortS key l) := by
  have key2 : ∀ (l : List Int) (P : List Int), Sorted key P → Sorted key (l.foldl (insS key) P) := by
    intro l
    induction l with
    | nil => intro P h; exact h
    | cons x l ih => intro P h; exact ih _ (insJ_sorted h _ (Nat.le_refl _) (fun y hy => by simp at hy))
  exact key2 l [] List.Pairwise.nil
def fitsB (H : Int) (sp : Int → Int) (o : List Int) : Bool := (List.range o.length).all fun k => decide (H ≠ 0) && decide ((k : Int) / H < sp (at_ o k))
def memB (l : List Int) (i : Nat) : Bool := decide ((i : Int) ∈ l)
theorem memB_iff (l : List Int) (i : Nat) : memB l i = true ↔ (i : Int) ∈ l := by simp [memB]
theorem cnt_and_or {n i : Nat} {p q : Nat → Bool} (hi : i < n) (hp : p i = false) : cnt n (fun j => (p j || decide (j = i)) && q j) = cnt n (fun j => p j && q j) + if q i = true then 1 else 0 := by
  cases hq : q i with
  | true =>
    have := cnt_or_one (fun j => p j && q j) hi
    rw [hp] at this
    simp only [Bool.false_and, Bool.false_eq_true, if_false] at this
    rw [if_pos rfl, ← this]
    refine cnt_congr fun j hj => ?_
    by_cases e : j = i
    · subst e; simp [hq]
    · simp [e]
  | false =>
    rw [if_neg (by simp), Int.add_zero]
    refine cnt_congr fun j hj => ?_
    by_cases e : j = i
    · subst e; simp [hq]
    · simp [e]
theorem cnt_list {n : Nat} (q : Int → Bool) : ∀ {l : List Int}, l.Nodup → (∀ x ∈ l, 0 ≤ x ∧ x < n) → cnt n (fun i => memB l i && q i) = (l.filter q).length
  | [], _, _ => by
    rw [cnt_zero (fun i _ => by simp [memB])]; rfl
  | x :: l, hd, hr => by
    obtain ⟨h1, h2⟩ := List.nodup_cons.1 hd
    obtain ⟨hx0, hx1⟩ := hr x (by simp)
    obtain ⟨k, rfl⟩ := Int.eq_ofNat_of_zero_le hx0
    have ih := cnt_list q h2 (fun y hy => hr y (by simp [hy]))
    have e := cnt_and_or (n := n) (i := k) (p := memB l) (q := fun i => q i) (by omega) (by simp [memB]; exact h1)
    rw [ih] at e
    have e2 : cnt n (fun i => memB ((k : Int) :: l) i && q i) = cnt n (fun j => (memB l j || decide (j = k)) && q j) := by
      refine cnt_congr fun j hj => ?_
      have : memB ((k : Int) :: l) j = (memB l j || decide (j = k)) := by
        simp only [memB, List.mem_cons]
        by_cases a : (j : Int) ∈ l <;> by_cases b : j = k <;> simp [a, b]
        omega
      rw [this]
    rw [e2, e, List.filter_cons]
    cases q k <;> simp
theorem fits_feas {n : Nat} {H : Int} {sp : Int → Int} (hH : 0 ≤ H) {l : List Int} (hd : l.Nodup) (hr : ∀ x ∈ l, 0 ≤ x ∧ x < n) (hs : ∀ x ∈ l, 0 ≤ sp x ∧ sp x ≤ 18) :
    fitsB H sp (sortS sp l) = true ↔ Feas n H (fun i => sp i) (memB l) := by
  have hso := sortS_sorted sp l
  have hdo := sortS_nodup (key := sp) hd
  have hmo := sortS_mem sp l
  have hc : ∀ b : Nat, cnt n (fun i => memB l i && decide (sp i ≤ (b : Int))) = ((sortS sp l).filter fun x => decide (sp x ≤ (b : Int))).length := fun b => by
    rw [← cnt_list (n := n) (fun x => decide (sp x ≤ (b : Int))) hdo (fun x hx => hr x ((hmo x).1 hx))]
    refine cnt_congr fun i hi => ?_
    have : memB l i = memB (sortS sp l) i := by simp [memB, hmo]
    rw [this]
  have hso' : ∀ x ∈ sortS sp l, 0 ≤ sp x ∧ sp x ≤ 18 := fun x hx => hs x ((hmo x).1 hx)
  generalize sortS sp l = o at hso hc hso'
  unfold fitsB
  rw [List.all_eq_true]
  constructor
  · intro h b hb
    rw [hc b]
    rcases Nat.eq_zero_or_pos (o.filter fun x => decide (sp x ≤ (b : Int))).length with h0 | h0
    · rw [h0]; exact Int.mul_nonneg hH (by omega)
    · have hle := List.length_filter_le (fun x => decide (sp x ≤ (b : Int))) o
      obtain ⟨m, hm⟩ : ∃ m, (o.filter fun x => decide (sp x ≤ (b : Int))).length = m + 1 := ⟨_, (Nat.succ_pred_eq_of_pos h0).symm⟩
      have hml : m < o.length := by omega
      have hsb : sp (at_ o m) ≤ b := by
        by_cases c : sp (at_ o m) ≤ b
        · exact c
        · exfalso
          have e : o.filter (fun x => decide (sp x ≤ (b : Int))) = (o.take m).filter fun x => decide (sp x ≤ (b : Int)) := by
            conv => lhs; rw [← List.take_append_drop m o, List.filter_append]
            have : (o.drop m).filter (fun x => decide (sp x ≤ (b : Int))) = [] := by
              rw [List.filter_eq_nil_iff]
              intro y hy
              obtain ⟨i, hi, rfl⟩ := List.mem_iff_getElem.1 hy
              have hi2 : m + i < o.length := by simp at hi; omega
              have := hso.at_le (show m ≤ m + i by omega) hi2
              rw [List.getElem_drop, ← at_get hi2]
              simp only [decide_eq_true_eq]
              omega
            rw [this, List.append_nil]
          have h3 := List.length_filter_le (fun x => decide (sp x ≤ (b : Int))) (o.take m)
          rw [← e, hm, List.length_take] at h3
          omega
      have hk := h m (List.mem_range.2 hml)
      simp only [Bool.and_eq_true, decide_eq_true_eq] at hk
      have hHp : 0 < H := by omega
      have h4 := (Int.ediv_lt_iff_lt_mul hHp).1 (show (m : Int) / H < b by omega)
      rw [hm, Int.mul_comm]
      omega
  · intro h k hk
    have hk := List.mem_range.1 hk
    obtain ⟨b0, b1⟩ := hso' _ (at_mem hk)
    obtain ⟨b, hb⟩ := Int.eq_ofNat_of_zero_le b0
    have h1 := h b (by omega)
    rw [hc b] at h1
    have h2 : k + 1 ≤ (o.filter fun x => decide (sp x ≤ (b : Int))).length := by
      have e : ((o.take (k + 1)).filter fun x => decide (sp x ≤ (b : Int))) = o.take (k + 1) := by
        rw [List.filter_eq_self]
        intro y hy
        obtain ⟨i, hi, rfl⟩ := List.mem_iff_getElem.1 hy
        have hi2 : i ≤ k ∧ i < o.length := by simp at hi; omega
        have := hso.at_le hi2.1 hk
        rw [List.getElem_take, ← at_get hi2.2]
        simp only [decide_eq_true_eq]
        omega
      have h3 : (o.filter fun x => decide (sp x ≤ (b : Int))).length = ((o.take (k + 1)).filter fun x => decide (sp x ≤ (b : Int))).length + ((o.drop (k + 1)).filter fun x => decide (sp x ≤ (b : Int))).length := by
        rw [← List.length_append, ← List.filter_append, List.take_append_drop]
      rw [h3, e, List.length_take]
      omega
    have hH0 : H ≠ 0 := fun e => by
      rw [e, Int.zero_mul] at h1
      omega
    have hHp : 0 < H := by omega
    have h4 := (Int.ediv_lt_iff_lt_mul (a := (k : Int)) (b := (b : Int)) hHp).2 (by rw [Int.mul_comm]; omega)
    simp only [Bool.and_eq_true, decide_eq_true_eq]
    exact ⟨hH0, by rw [hb]; exact h4⟩
def greedyL (H : Int) (sp ch : Int → Int) : List Int → List Int → List Int
  | [], K => K
  | i :: r, K => if ch i = 0 then K else greedyL H sp ch r (if fitsB H sp (sortS sp (K ++ [i])) = true then K ++ [i] else K)
structure Gr (n : Nat) (H : Int) (sp ch : Int → Int) (hv done K : List Int) : Prop where
  sub : ∀ x ∈ K, x ∈ done
  nodup : K.Nodup
  feas : Feas n H (fun i => sp i) (memB K)
  max : ∀ i ∈ done, i ∉ K → ∃ B : Nat → Bool, (∀ j : Nat, B j = true → (j : Int) ∈ K ∧ ch i ≤ ch j) ∧ ¬ Feas n H (fun i => sp i) (fun j => B j || decide ((j : Int) = i))
theorem greedy_gr {n : Nat} {H : Int} {sp ch : Int → Int} (hH : 0 ≤ H) {hv : List Int} (hd : hv.Nodup) (hr : ∀ x ∈ hv, 0 ≤ x ∧ x < n) (hs : ∀ x ∈ hv, 0 ≤ sp x ∧ sp x ≤ 18) (hso : Sorted (fun x => -ch x) hv) (hc : ∀ x ∈ hv, 0 ≤ ch x) :
    ∀ (r done K : List Int), done ++ r = hv → Gr n H sp ch hv done K → ∃ done', (∀ x ∈ done', x ∈ hv) ∧ (∀ x ∈ hv, x ∈ done' ∨ ch x = 0) ∧ Gr n H sp ch hv done' (greedyL H sp ch r K)
  | [], done, K, he, h => ⟨done, fun x hx => by rw [← he]; simp [hx], fun x hx => .inl (by rw [← he] at hx; simpa using hx), h⟩
  | i :: r, done, K, he, h => by
    have hi : i ∈ hv := by rw [← he]; simp
    have hid : i ∉ done := fun q => by
      rw [← he] at hd
      exact (List.nodup_append.1 hd).2.2 i q i (by simp) rfl
    have hge : ∀ x ∈ done, ch i ≤ ch x := fun x hx => by
      unfold Sorted at hso
      rw [← he] at hso
      have h9 : -ch x ≤ -ch i := (List.pairwise_append.1 hso).2.2 x hx i (by simp)
      omega
    have hle : ∀ x ∈ r, ch x ≤ ch i := fun x hx => by
      unfold Sorted at hso
      rw [← he] at hso
      have h9 : -ch i ≤ -ch x := (List.pairwise_cons.1 (List.pairwise_append.1 hso).2.1).1 x hx
      omega
    have hdone : ∀ x ∈ done, x ∈ hv := fun x hx => by rw [← he]; simp [hx]
    unfold greedyL
    by_cases c0 : ch i = 0
    · rw [if_pos c0]
      refine ⟨done, hdone, fun x hx => ?_, h⟩
      rw [← he] at hx
      rcases List.mem_append.1 hx with q | q
      · exact .inl q
      · right
        rcases List.mem_cons.1 q with q | q
        · rw [q]; exact c0
        · have h1 := hle x q
          have h2 := hc x (by rw [← he]; simp [q])
          omega
    · rw [if_neg c0]
      have hiK : i ∉ K := fun q => hid (h.sub i q)
      have hKd : (K ++ [i]).Nodup := by
        rw [List.nodup_append]
        exact ⟨h.nodup, by simp, fun a ha b hb => by simp at hb; rw [hb]; exact fun e => hiK (e ▸ ha)⟩
      have hKr : ∀ x ∈ K ++ [i], x ∈ hv := fun x hx => by
        rcases List.mem_append.1 hx with q | q
        · exact hdone x (h.sub x q)
        · simp at q; rw [q]; exact hi
      have hfit := fits_feas (n := n) (sp := sp) hH hKd (fun x hx => hr x (hKr x hx)) (fun x hx => hs x (hKr x hx))
      have hmem : ∀ j : Nat, memB (K ++ [i]) j = (memB K j || decide ((j : Int) = i)) := fun j => by
        simp only [memB, List.mem_append, List.mem_singleton]
        by_cases a : (j : Int) ∈ K <;> by_cases b : (j : Int) = i <;> simp [a, b]
      have he' : (done ++ [i]) ++ r = hv := by rw [← he]; simp
      by_cases cf : fitsB H sp (sortS sp (K ++ [i])) = true
      · rw [if_pos cf]
        refine greedy_gr hH hd hr hs hso hc r (done ++ [i]) (K ++ [i]) he' ⟨fun x hx => ?_, hKd, hfit.1 cf, fun x hx hxK => ?_⟩
        · rcases List.mem_append.1 hx with q | q
          · exact List.mem_append.2 (.inl (h.sub x q))
          · exact List.mem_append.2 (.inr q)
        · have hxd : x ∈ done := by
            rcases List.mem_append.1 hx with q | q
            · exact q
            · exact absurd (List.mem_append.2 (.inr q)) hxK
          obtain ⟨B, h1, h2⟩ := h.max x hxd (fun q => hxK (List.mem_append.2 (.inl q)))
          exact ⟨B, fun j hj => ⟨List.mem_append.2 (.inl (h1 j hj).1), (h1 j hj).2⟩, h2⟩
      · rw [if_neg cf]
        refine greedy_gr hH hd hr hs hso hc r (done ++ [i]) K he' ⟨fun x hx => List.mem_append.2 (.inl (h.sub x hx)), h.nodup, h.feas, fun x hx hxK => ?_⟩
        rcases List.mem_append.1 hx with q | q
        · exact h.max x q hxK
        · simp at q
          subst q
          refine ⟨memB K, fun j hj => ⟨(memB_iff _ _).1 hj, hge _ (h.sub _ ((memB_iff _ _).1 hj))⟩, fun hF => cf (hfit.2 fun b hb => ?_)⟩
          have := hF b hb
          rw [cnt_congr (q := fun j => (memB K j || decide ((j : Int) = x)) && decide (sp j ≤ (b : Int))) (fun j hj => by rw [hmem])]
          exact this
theorem greedy_best {n : Nat} {H : Int} {sp ch : Int → Int} (hH : 0 ≤ H) {hv : List Int} (hd : hv.Nodup) (hr : ∀ x : Int, x ∈ hv ↔ 0 ≤ x ∧ x < n) (hs : ∀ x ∈ hv, 0 ≤ sp x ∧ sp x ≤ 18) (hso : Sorted (fun x => -ch x) hv) (hc : ∀ x ∈ hv, 0 ≤ ch x) :
    (greedyL H sp ch hv []).Nodup ∧ (∀ x ∈ greedyL H sp ch hv [], x ∈ hv) ∧ Feas n H (fun i => sp i) (memB (greedyL H sp ch hv [])) ∧
    ∀ c : Int, 1 ≤ c → ∃ b : Nat, b ≤ 18 ∧ cnt n (fun i => memB (greedyL H sp ch hv []) i && decide (c ≤ ch i)) = partN n H (fun i => sp i) (fun i => ch i) c b := by
  obtain ⟨done, h0, h1, h2⟩ := greedy_gr (n := n) (ch := ch) hH hd (fun x hx => (hr x).1 hx) hs hso hc hv [] [] rfl ⟨fun x hx => (by cases hx), List.nodup_nil, fun b hb => (by
    rw [cnt_zero (fun i _ => by simp [memB])]
    exact Int.mul_nonneg hH (by omega)), fun i hi => (by cases hi)⟩
  generalize greedyL H sp ch hv [] = K at h2
  have hKv : ∀ x ∈ K, x ∈ hv := fun x hx => h0 x (h2.sub x hx)
  refine ⟨h2.nodup, hKv, h2.feas, fun c h1c => ?_⟩
  obtain ⟨b, hb, he⟩ := tight_bound (n := n) (H := H) (sp := fun i => sp i) (E := fun i => decide (c ≤ ch i)) (K := fun i => memB K i && decide (c ≤ ch i))
    (h2.feas.sub fun i _ hq => by simp only [Bool.and_eq_true] at hq; exact hq.1) (fun i _ hq => by simp only [Bool.and_eq_true] at hq; exact hq.2) (fun i hi hE hK => by
      simp only [decide_eq_true_eq] at hE
      have hiK : (i : Int) ∉ K := fun q => by
        rw [(memB_iff K i).2 q] at hK
        simp at hK
        omega
      have hiv : (i : Int) ∈ hv := (hr _).2 ⟨by omega, by omega⟩
      rcases h1 _ hiv with q | q
      · obtain ⟨B, g1, g2⟩ := h2.max _ q hiK
        intro hF
        apply g2
        refine hF.sub fun j hj hq => ?_
        simp only [Bool.or_eq_true, decide_eq_true_eq, Bool.and_eq_true] at hq ⊢
        rcases hq with hq | hq
        · have := g1 j hq
          exact .inl ⟨(memB_iff _ _).2 this.1, by omega⟩
        · exact .inr (by omega)
      · omega)
  exact ⟨b, hb, by rw [he]; rfl⟩
end Go.Proofs
namespace Go.Fs
structure Rg where
  lo : Int
  hi : Int
instance : Inhabited Rg := ⟨⟨0, 0⟩⟩
structure Sk where
  chairs : Int
  leak : Rg
instance : Inhabited Sk := ⟨⟨0, default⟩⟩
structure Sh where
  stacks : List Sk
  hands : Int
  rain : Rg
structure Tr where
  rain : Int
  leaks : List Int
structure Sp where
  chairs : Int
  before : Int
instance : Inhabited Sp := ⟨⟨0, 0⟩⟩
instance : Enc Rg where
  enc r := .agg [.int .i64 r.lo, .int .i64 r.hi]
  dec
    | .agg [.int .i64 a, .int .i64 b] => some ⟨a, b⟩
    | _ => none
  law v x h := by
    split at h
    · cases h; rfl
    · cases h
  dep := 2
  ok x := by simp [pureN]
instance : Enc Sk where
  enc m := .agg [.int .i64 m.chairs, .int .i64 m.leak.lo, .int .i64 m.leak.hi]
  dec
    | .agg [.int .i64 a, .int .i64 b, .int .i64 c] => some ⟨a, ⟨b, c⟩⟩
    | _ => none
  law v x h := by
    split at h
    · cases h; rfl
    · cases h
  dep := 2
  ok x := by simp [pureN]
instance : EncE Sk where
  cs m := [.int .i64 m.chairs, .int .i64 m.leak.lo, .int .i64 m.leak.hi]
  dcs
    | [.int .i64 a, .int .i64 b, .int .i64 c] => some ⟨a, ⟨b, c⟩⟩
    | _ => none
  law v x h := by
    split at h
    · cases h; rfl
    · cases h
  inv _ := rfl
  dep := 1
  sz := 3
  len _ := rfl
  ok x := by simp [pureN]
instance : Enc Sp where
  enc m := .agg [.int .i64 m.chairs, .int .i64 m.before]
  dec
    | .agg [.int .i64 a, .int .i64 b] => some ⟨a, b⟩
    | _ => none
  law v x h := by
    split at h
    · cases h; rfl
    · cases h
  dep := 2
  ok x := by simp [pureN]
instance : EncE Sp where
  cs m := [.int .i64 m.chairs, .int .i64 m.before]
  dcs
    | [.int .i64 a, .int .i64 b] => some ⟨a, b⟩
    | _ => none
  law v x h := by
    split at h
    · cases h; rfl
    · cases h
  inv _ := rfl
  dep := 1
  sz := 2
  len _ := rfl
  ok x := by simp [pureN]
instance : Enc Sh where
  enc t := .agg [.sl (t.stacks.map EncE.cs) .no, .int .i64 t.hands, .int .i64 t.rain.lo, .int .i64 t.rain.hi]
  dec
    | .agg [.sl b .no, .int .i64 a, .int .i64 c, .int .i64 d] =>
      match (decL b : Option (List Sk)) with
      | some b => some ⟨b, a, ⟨c, d⟩⟩
      | _ => none
    | _ => none
  law v x h := by
    split at h
    · split at h
      · rename_i h1
        cases h
        rw [decL_law _ _ h1]
      · cases h
    · cases h
  dep := 3
  ok x := by
    simp only [pureN, List.mem_cons, List.not_mem_nil, or_false, forall_eq_or_imp, forall_eq, true_and, and_true, List.mem_map, forall_exists_index, and_imp, forall_apply_eq_imp_iff₂]
    exact fun a _ => EncE.ok a
instance : Enc Tr where
  enc t := .agg [.int .i64 t.rain, .sl (t.leaks.map EncE.cs) .no]
  dec
    | .agg [.int .i64 a, .sl b .no] =>
      match (decL b : Option (List Int)) with
      | some b => some ⟨a, b⟩
      | _ => none
    | _ => none
  law v x h := by
    split at h
    · split at h
      · rename_i h1
        cases h
        rw [decL_law _ _ h1]
      · cases h
    · cases h
  dep := 3
  ok x := by
    simp only [pureN, List.mem_cons, List.not_mem_nil, or_false, forall_eq_or_imp, forall_eq, true_and, and_true, List.mem_map, forall_exists_index, and_imp, forall_apply_eq_imp_iff₂]
    exact fun a _ => EncE.ok a
theorem enc_rg (r : Rg) : Enc.enc r = .agg [.int .i64 r.lo, .int .i64 r.hi] := rfl
theorem dec_rg (a b : Int) : (Enc.dec (.agg [.int .i64 a, .int .i64 b]) : Option Rg) = some ⟨a, b⟩ := rfl
theorem eta_rg (r : Rg) : (⟨r.lo, r.hi⟩ : Rg) = r := rfl
theorem enc_sk (m : Sk) : Enc.enc m = .agg [.int .i64 m.chairs, .int .i64 m.leak.lo, .int .i64 m.leak.hi] := rfl
theorem cs_sk (m : Sk) : EncE.cs m = [.int .i64 m.chairs, .int .i64 m.leak.lo, .int .i64 m.leak.hi] := rfl
theorem dec_sk (a b c : Int) : (Enc.dec (.agg [.int .i64 a, .int .i64 b, .int .i64 c]) : Option Sk) = some ⟨a, ⟨b, c⟩⟩ := rfl
theorem dcs_sk (a b c : Int) : (EncE.dcs [.int .i64 a, .int .i64 b, .int .i64 c] : Option Sk) = some ⟨a, ⟨b, c⟩⟩ := rfl
theorem dep_sk : EncE.dep Sk = 1 := rfl
theorem sz_sk : EncE.sz Sk = 3 := rfl
theorem eta_sk (r : Sk) : (⟨r.chairs, r.leak⟩ : Sk) = r := rfl
theorem enc_sp (m : Sp) : Enc.enc m = .agg [.int .i64 m.chairs, .int .i64 m.before] := rfl
theorem cs_sp (m : Sp) : EncE.cs m = [.int .i64 m.chairs, .int .i64 m.before] := rfl
theorem dec_sp (a b : Int) : (Enc.dec (.agg [.int .i64 a, .int .i64 b]) : Option Sp) = some ⟨a, b⟩ := rfl
theorem dcs_sp (a b : Int) : (EncE.dcs [.int .i64 a, .int .i64 b] : Option Sp) = some ⟨a, b⟩ := rfl
theorem dep_sp : EncE.dep Sp = 1 := rfl
theorem sz_sp : EncE.sz Sp = 2 := rfl
theorem eta_sp (r : Sp) : (⟨r.chairs, r.before⟩ : Sp) = r := rfl
theorem enc_sh (t : Sh) : Enc.enc t = .agg [.sl (t.stacks.map EncE.cs) .no, .int .i64 t.hands, .int .i64 t.rain.lo, .int .i64 t.rain.hi] := rfl
theorem dec_sh (b : List (List AV)) (a c d : Int) : (Enc.dec (.agg [.sl b .no, .int .i64 a, .int .i64 c, .int .i64 d]) : Option Sh) =
    match (decL b : Option (List Sk)) with
      | some b => some ⟨b, a, ⟨c, d⟩⟩
      | _ => none := rfl
theorem eta_sh (t : Sh) : (⟨t.stacks, t.hands, t.rain⟩ : Sh) = t := rfl
theorem enc_tr (t : Tr) : Enc.enc t = .agg [.int .i64 t.rain, .sl (t.leaks.map EncE.cs) .no] := rfl
theorem dec_tr (a : Int) (b : List (List AV)) : (Enc.dec (.agg [.int .i64 a, .sl b .no]) : Option Tr) =
    match (decL b : Option (List Int)) with
      | some b => some ⟨a, b⟩
      | _ => none := rfl
theorem eta_tr (t : Tr) : (⟨t.rain, t.leaks⟩ : Tr) = t := rfl
structure RefS where
  x : Sh
structure FnS (g : Nat) where
  x : Sh
def shC (s : Sh) : List AV := [.sl (s.stacks.map EncE.cs) .no, .int .i64 s.hands, .int .i64 s.rain.lo, .int .i64 s.rain.hi]
instance : Enc RefS where
  enc f := .ref [.sl (f.x.stacks.map EncE.cs) .no, .int .i64 f.x.hands, .int .i64 f.x.rain.lo, .int .i64 f.x.rain.hi] 0
  dec
    | .ref [.sl b .no, .int .i64 a, .int .i64 c, .int .i64 d] 0 =>
      match (decL b : Option (List Sk)) with
      | some b => some ⟨⟨b, a, ⟨c, d⟩⟩⟩
      | _ => none
    | _ => none
  law v x h := by
    split at h
    · split at h
      · rename_i h1
        cases h
        rw [decL_law _ _ h1]
      · cases h
    · cases h
  dep := 3
  ok x := by
    simp only [pureN, List.mem_cons, List.not_mem_nil, or_false, forall_eq_or_imp, forall_eq, true_and, and_true, List.mem_map, forall_exists_index, and_imp, forall_apply_eq_imp_iff₂]
    exact fun a _ => EncE.ok a
instance {g : Nat} : Enc (FnS g) where
  enc f := .fn (.func g) [] [.ref [.sl (f.x.stacks.map EncE.cs) .no, .int .i64 f.x.hands, .int .i64 f.x.rain.lo, .int .i64 f.x.rain.hi] 0]
  dec
    | .fn (.func h) [] [.ref [.sl b .no, .int .i64 a, .int .i64 c, .int .i64 d] 0] =>
      if h = g then match (decL b : Option (List Sk)) with
      | some b => some ⟨⟨b, a, ⟨c, d⟩⟩⟩
      | _ => none else none
    | _ => none
  law v x h := by
    split at h
    · split at h
      · split at h
        · rename_i e _ _ h1
          cases h
          rw [e, decL_law _ _ h1]
        · cases h
      · cases h
    · cases h
  dep := 4
  ok x := by
    simp only [pureN, List.mem_cons, List.not_mem_nil, or_false, forall_eq_or_imp, forall_eq, true_and, and_true, List.mem_map, forall_exists_index, and_imp, forall_apply_eq_imp_iff₂, false_implies, implies_true]
    exact fun a _ => EncE.ok a
theorem enc_refs (f : RefS) : Enc.enc f = .ref [.sl (f.x.stacks.map EncE.cs) .no, .int .i64 f.x.hands, .int .i64 f.x.rain.lo, .int .i64 f.x.rain.hi] 0 := rfl
theorem dec_refs (b : List (List AV)) (a c d : Int) : (Enc.dec (.ref [.sl b .no, .int .i64 a, .int .i64 c, .int .i64 d] 0) : Option RefS) =
    match (decL b : Option (List Sk)) with
      | some b => some ⟨⟨b, a, ⟨c, d⟩⟩⟩
      | _ => none := rfl
theorem eta_refs (f : RefS) : (⟨f.x⟩ : RefS) = f := rfl
theorem enc_fns {g : Nat} (f : FnS g) : Enc.enc f = .fn (.func g) [] [.ref [.sl (f.x.stacks.map EncE.cs) .no, .int .i64 f.x.hands, .int .i64 f.x.rain.lo, .int .i64 f.x.rain.hi] 0] := rfl
theorem dec_fns {g : Nat} (b : List (List AV)) (a c d : Int) : (Enc.dec (.fn (.func g) [] [.ref [.sl b .no, .int .i64 a, .int .i64 c, .int .i64 d] 0]) : Option (FnS g)) =
    match (decL b : Option (List Sk)) with
      | some b => some ⟨⟨b, a, ⟨c, d⟩⟩⟩
      | _ => none := by
  show (if g = g then _ else none) = _
  rw [if_pos rfl]
theorem eta_fns {g : Nat} (f : FnS g) : (⟨f.x⟩ : FnS g) = f := rfl
theorem pure_mono : ∀ n m (v : AV), pureN n v → n ≤ m → pureN m v := by
  intro n
  induction n with
  | zero => intro m v h; simp [pureN] at h
  | succ n ih =>
    intro m v h hm
    obtain ⟨m, rfl⟩ : ∃ k, m = k + 1 := ⟨m - 1, by omega⟩
    cases v <;> simp only [pureN] at h ⊢
    · exact fun c hc => ih m c (h c hc) (by omega)
    · exact fun c hc => ih m c (h c hc) (by omega)
    · exact ⟨h.1, fun e he c hc => ih m c (h.2 e he c hc) (by omega)⟩
    · exact fun c hc => ih m c (h c hc) (by omega)
    · exact ⟨fun c hc => ih m c (h.1 c hc) (by omega), fun c hc => ih m c (h.2 c hc) (by omega)⟩
    · exact fun c hc => ih m c (h c hc) (by omega)
instance {α β : Type} [Enc α] [Enc β] : Enc (α × β) where
  enc p := .tup [Enc.enc p.1, Enc.enc p.2]
  dec
    | .tup [a, b] => match (Enc.dec a : Option α), (Enc.dec b : Option β) with
      | some a, some b => some (a, b)
      | _, _ => none
    | _ => none
  law v x h := by
    split at h
    · split at h
      · rename_i h1 h2
        cases h
        rw [Enc.law _ _ h1, Enc.law _ _ h2]
      · cases h
    · cases h
  dep := max (Enc.dep α) (Enc.dep β) + 1
  ok x := by
    simp only [pureN, List.mem_cons, List.not_mem_nil, or_false, forall_eq_or_imp, forall_eq]
    exact ⟨pure_mono _ _ _ (Enc.ok x.1) (by omega), pure_mono _ _ _ (Enc.ok x.2) (by omega)⟩
theorem enc_pair {α β : Type} [Enc α] [Enc β] (p : α × β) : Enc.enc p = .tup [Enc.enc p.1, Enc.enc p.2] := rfl
structure Tri (α β γ : Type) where
  a : α
  b : β
  c : γ
instance {α β γ : Type} [Enc α] [Enc β] [Enc γ] : Enc (Tri α β γ) where
  enc p := .tup [Enc.enc p.a, Enc.enc p.b, Enc.enc p.c]
  dec
    | .tup [a, b, c] => match (Enc.dec a : Option α), (Enc.dec b : Option β), (Enc.dec c : Option γ) with
      | some a, some b, some c => some ⟨a, b, c⟩
      | _, _, _ => none
    | _ => none
  law v x h := by
    split at h
    · split at h
      · rename_i h1 h2 h3
        cases h
        rw [Enc.law _ _ h1, Enc.law _ _ h2, Enc.law _ _ h3]
      · cases h
    · cases h
  dep := max (Enc.dep α) (max (Enc.dep β) (Enc.dep γ)) + 1
  ok x := by
    simp only [pureN, List.mem_cons, List.not_mem_nil, or_false, forall_eq_or_imp, forall_eq]
    exact ⟨pure_mono _ _ _ (Enc.ok x.a) (by omega), pure_mono _ _ _ (Enc.ok x.b) (by omega), pure_mono _ _ _ (Enc.ok x.c) (by omega)⟩
theorem enc_tri {α β γ : Type} [Enc α] [Enc β] [Enc γ] (p : Tri α β γ) : Enc.enc p = .tup [Enc.enc p.a, Enc.enc p.b, Enc.enc p.c] := rfl
structure WkS where
  s : Sh
  ks : List (List Int)
  vs : List Int
def decI : List AV → Option (List Int)
  | [] => some []
  | .int .i64 n :: r => (decI r).map fun l => n :: l
  | _ => none
theorem decI_map : ∀ l : List Int, decI (l.map (AV.int .i64)) = some l
  | [] => rfl
  | x :: l => by simp [decI, decI_map l]
theorem decI_law : ∀ (vs : List AV) (l : List Int), decI vs = some l → vs = l.map (AV.int .i64)
  | [], l, h => by simp [decI] at h; subst h; rfl
  | v :: r, l, h => by
    unfold decI at h
    split at h
    · rename_i e; cases e
    · rename_i n r' e
      cases e
      simp only [Option.map_eq_some_iff] at h
      obtain ⟨l', h1, rfl⟩ := h
      rw [decI_law _ _ h1]; rfl
    · cases h
def wkC (w : WkS) : List AV := [.sl (w.s.stacks.map EncE.cs) .no, .int .i64 w.s.hands, .int .i64 w.s.rain.lo, .int .i64 w.s.rain.hi, .mpr w.ks (w.vs.map (AV.int .i64))]
instance : Enc WkS where
  enc w := .ref [.sl (w.s.stacks.map EncE.cs) .no, .int .i64 w.s.hands, .int .i64 w.s.rain.lo, .int .i64 w.s.rain.hi, .mpr w.ks (w.vs.map (AV.int .i64))] 0
  dec
    | .ref [.sl b .no, .int .i64 a, .int .i64 c, .int .i64 d, .mpr ks vs] 0 =>
      match (decL b : Option (List Sk)), decI vs with
      | some b, some vs => some ⟨⟨b, a, ⟨c, d⟩⟩, ks, vs⟩
      | _, _ => none
    | _ => none
  law v x h := by
    split at h
    · split at h
      · rename_i h1 h2
        cases h
        rw [decL_law _ _ h1, decI_law _ _ h2]
      · cases h
    · cases h
  dep := 3
  ok x := by
    simp only [pureN, List.mem_cons, List.not_mem_nil, or_false, forall_eq_or_imp, forall_eq, true_and, and_true, List.mem_map, forall_exists_index, and_imp, forall_apply_eq_imp_iff₂, implies_true]
    exact fun a _ => EncE.ok a
theorem enc_wks (w : WkS) : Enc.enc w = .ref [.sl (w.s.stacks.map EncE.cs) .no, .int .i64 w.s.hands, .int .i64 w.s.rain.lo, .int .i64 w.s.rain.hi, .mpr w.ks (w.vs.map (AV.int .i64))] 0 := rfl
theorem dec_wks (b : List (List AV)) (a c d : Int) (ks : List (List Int)) (vs : List AV) : (Enc.dec (.ref [.sl b .no, .int .i64 a, .int .i64 c, .int .i64 d, .mpr ks vs] 0) : Option WkS) =
    match (decL b : Option (List Sk)), decI vs with
      | some b, some vs => some ⟨⟨b, a, ⟨c, d⟩⟩, ks, vs⟩
      | _, _ => none := rfl
theorem eta_wks (w : WkS) : (⟨w.s, w.ks, w.vs⟩ : WkS) = w := rfl
attribute [go_sem] vc_skip vc_label vc_seq vc_cond vc_block vc_loop vc_exit vc_ret vc_region vc_draw stepA semC sem guardA semV evT lk thenA blkA St.put putT AV.un AV.av keepTk Op.operands andAll pickA binA dstOk retA doneA resV tupA AV.strip Tk.strip ofV ofV1 List.map_nil List.toList_toArray Option.getD_some Option.getD_none List.length_nil Nat.reduceAdd Nat.reduceSub if_true if_false Nat.reduceEqDiff true_and and_true Bool.false_eq_true Nat.reduceLT forall_const Option.map_some reduceCtorEq implies_true loadA partA fldAddrA idxAddrA effA AV.solid AV.cells' AV.cells List.nil_append List.cons_append List.append_nil argsA avsA callV scal List.mem_cons List.not_mem_nil or_false or_true false_or forall_eq_or_imp forall_eq callLen Call.operands Array.toList_append List.length_map sliceA bndA List.getD_cons_zero List.getD_cons_succ List.getD_nil addSpec_app spec0 spec1 spec2 spec3 spec4 spec5 enc_int enc_bool enc_list dec_int dec_bool dec_list cs_int cs_bool cs_list dcs_int dcs_list decL_map decL_nil decL_cons decL_append dep_int dep_bool dep_list sz_int sz_bool sz_list snap_map imm_map len_map headSt Nat.reduceLeDiff minA maxA true_implies Nat.succ_ne_zero List.drop_succ_cons List.drop_zero List.take_succ_cons List.take_zero List.getElem?_cons_zero List.getElem?_cons_succ not_true_eq_false not_false_eq_true tokz_nil tokz_cons tokz1 snap_undef snap_int snap_boolv snap_nilp snap_nilf snap_agg snap_tup snap_ref snap_fn snap_mpr snap_sl_nil snap_sl_cons snap_ptr snap_arr snap_mp imm_undef imm_int imm_boolv imm_nilp imm_nilf imm_agg imm_tup imm_ref imm_fn imm_mpr imm_sl_nil imm_sl_cons imm_ptr imm_arr imm_mp Int.lt_irrefl decide_false decide_true false_implies Nat.lt_irrefl Int.toNat_natCast Nat.reduceMul Nat.zero_add Nat.zero_le Bool.true_eq_false vcDr planOp planEff planFl restr applyE newCount effOp storeOp opTmps List.filterMap_cons List.filterMap_nil List.replicate List.set_cons_zero List.set_cons_succ Bool.not_true Bool.not_false Bool.and_true Bool.and_false Bool.true_and Bool.false_and Nat.add_zero and_self imp_self appA buildA buildSlA fillA repCells chunks Option.map_none List.getElem?_nil mapIn lookupA entryA eqA Bool.not_eq_true List.singleton_append Option.isSome_some Option.isSome_none snap_sl_app imm_sl_app ite_or ite_and Bool.not_eq_true' vcOps_nil vcOps_cons if_prop if_tr if_prop' if_tr' ite_self cast0 cast1 Int.reduceToNat Int.reduceLT Int.reduceLE Int.reduceEq eq_self Int.le_refl Nat.le_refl enc_fnl enc_fnb enc_fnc enc_refc dec_fnl dec_fnb dec_fnc dec_refc enc_arr cs_arr dec_arr dcs_arr decArr_map dep_arr sz_arr take_arr strip_ints strip1_ints soft_ints snap_ints imm_ints scal_ints one_ints drop_ints optArr_some optArr_none Nat.mul_one callN frA AV.frsh effB newB frOp List.any_cons List.any_nil specF1 Bool.or_false Bool.false_or Bool.or_true Bool.true_or beq_self_eq_true Nat.reduceBEq vc_scope scpA snapF_undef snapF_int snapF_boolv snapF_nilp snapF_nilf snapF_agg snapF_tup snapF_ref snapF_fn snapF_mpr snapF_sl snapF_ptr snapF_arr snapF_mp snapF_yld snapF_vec snapF_vp vecA flagOf_none snapG_agg snapG_undef snapG_int snapG_boolv snapG_nilp snapG_nilf snapG_tup snapG_ref snapG_fn snapG_mpr snapG_sl snapG_ptr snapG_arr snapG_mp snapG_yld snapG_vec snapG_vp snapA partS AV.strip1 AV.soft picR_one picR_nil picR_two snapF_ints snap_vec snap_vp imm_vec imm_vp all_map picS_sl picS_arr picS_vec all_flat_int callOp frzSt vecIn fzV frzN litB enc_sk cs_sk dec_sk dcs_sk dep_sk sz_sk eta_sk enc_sp cs_sp dec_sp dcs_sp dep_sp sz_sp eta_sp enc_rg dec_rg eta_rg enc_sh dec_sh eta_sh enc_tr dec_tr eta_tr enc_refs dec_refs eta_refs enc_fns dec_fns eta_fns enc_wks dec_wks eta_wks enc_pair enc_tri decI_map
end Go.Fs
namespace Go.Proofs
open Go.Fs
set_option linter.unusedVariables false
def chS (s : Sh) (i : Int) : Int := (at_ s.stacks i.toNat).chairs
def spS (s : Sh) (i : Int) : Int := s.rain.lo + (at_ s.stacks i.toNat).leak.lo
def rangeI (n : Nat) : List Int := (List.range n).map fun i : Nat => (i : Int)
def heavyS (s : Sh) : List Int := sortS (fun i => -chS s i) (rangeI s.stacks.length)
def keptS (s : Sh) : List Int := greedyL s.hands (spS s) (chS s) (heavyS s) []
def FeasS (s : Sh) (A : Nat → Bool) : Prop := Feas s.stacks.length s.hands (fun i => spS s i) A
def weightS (s : Sh) (A : Nat → Bool) : Int := wsum s.stacks.length (fun i => chS s i) A
def mostS (s : Sh) : Int := weightS s (memB (keptS s))
def partS (s : Sh) (c b : Int) : Int := partN s.stacks.length s.hands (fun i => spS s i) (fun i => chS s i) c b
structure ShOk (s : Sh) : Prop where
  len : s.stacks.length ≤ 8
  h0 : 0 ≤ s.hands
  h3 : s.hands ≤ 3
  r : 0 ≤ s.rain.lo ∧ s.rain.lo ≤ s.rain.hi ∧ s.rain.hi ≤ 9
  st : ∀ x ∈ s.stacks, (0 ≤ x.chairs ∧ x.chairs ≤ 99) ∧ 0 ≤ x.leak.lo ∧ x.leak.lo ≤ x.leak.hi ∧ x.leak.hi ≤ 9
theorem ShOk.ch {s : Sh} (h : ShOk s) {i : Nat} (hi : i < s.stacks.length) : 0 ≤ chS s i ∧ chS s i ≤ 99 := by
  unfold chS
  rw [Int.toNat_natCast]
  exact (h.st _ (at_mem hi)).1
theorem ShOk.sp {s : Sh} (h : ShOk s) {i : Nat} (hi : i < s.stacks.length) : 0 ≤ spS s i ∧ spS s i ≤ 18 := by
  unfold spS
  rw [Int.toNat_natCast]
  have h1 := (h.st _ (at_mem hi)).2
  have h2 := h.r
  omega
theorem mem_rangeI (n : Nat) (x : Int) : x ∈ rangeI n ↔ 0 ≤ x ∧ x < n := by
  simp only [rangeI, List.mem_map, List.mem_range]
  constructor
  · rintro ⟨i, hi, rfl⟩; omega
  · intro h; exact ⟨x.toNat, by omega, by omega⟩
theorem rangeI_nodup (n : Nat) : (rangeI n).Nodup := by
  unfold rangeI List.Nodup
  rw [List.pairwise_map]
  exact List.nodup_range.imp fun h e => h (by omega)
theorem mem_heavy (s : Sh) (x : Int) : x ∈ heavyS s ↔ 0 ≤ x ∧ x < s.stacks.length := by
  unfold heavyS
  rw [sortS_mem, mem_rangeI]
theorem ShOk.nat {s : Sh} (h : ShOk s) {x : Int} (hx : 0 ≤ x ∧ x < s.stacks.length) : (0 ≤ spS s x ∧ spS s x ≤ 18) ∧ 0 ≤ chS s x ∧ chS s x ≤ 99 := by
  obtain ⟨k, rfl⟩ := Int.eq_ofNat_of_zero_le hx.1
  exact ⟨h.sp (by omega), h.ch (by omega)⟩
theorem kept_spec {s : Sh} (h : ShOk s) : (keptS s).Nodup ∧ (∀ x ∈ keptS s, 0 ≤ x ∧ x < s.stacks.length) ∧ FeasS s (memB (keptS s)) ∧
    ∀ c : Int, 1 ≤ c → ∃ b : Nat, b ≤ 18 ∧ cnt s.stacks.length (fun i => memB (keptS s) i && decide (c ≤ chS s i)) = partS s c b := by
  obtain ⟨h1, h2, h3, h4⟩ := greedy_best (n := s.stacks.length) (H := s.hands) (sp := spS s) (ch := chS s) h.h0 (hv := heavyS s) (sortS_nodup (rangeI_nodup _)) (fun x => mem_heavy s x)
    (fun x hx => (h.nat ((mem_heavy s x).1 hx)).1) (sortS_sorted _ _) (fun x hx => (h.nat ((mem_heavy s x).1 hx)).2.1)
  exact ⟨h1, fun x hx => (mem_heavy s x).1 (h2 x hx), h3, h4⟩
theorem feas_le {s : Sh} (h : ShOk s) {A : Nat → Bool} (hA : FeasS s A) : weightS s A ≤ mostS s := by
  obtain ⟨_, _, _, h4⟩ := kept_spec h
  unfold mostS weightS
  rw [wsum_layers (m := 99) (fun i hi _ => h.ch hi), wsum_layers (m := 99) (p := memB (keptS s)) (fun i hi _ => h.ch hi)]
  refine sumTo_le fun c hc => ?_
  obtain ⟨b, hb, he⟩ := h4 ((c : Int) + 1) (by omega)
  rw [he]
  exact part_weak hA _ hb
theorem most_nonneg {s : Sh} (h : ShOk s) : 0 ≤ mostS s := (wsum_bd _ (m := 99) (by omega) (fun i hi => h.ch hi)).1
def greatS (l : List Sk) : Int := l.foldl (fun m x => max m x.chairs) 0
theorem great_snoc (l : List Sk) (x : Sk) : greatS (l ++ [x]) = max (greatS l) x.chairs := by simp [greatS, List.foldl_append]
theorem great_spec (l : List Sk) (h : ∀ x ∈ l, 0 ≤ x.chairs ∧ x.chairs ≤ 99) : 0 ≤ greatS l ∧ greatS l ≤ 99 ∧ (∀ x ∈ l, x.chairs ≤ greatS l) := by
  have key : ∀ (l : List Sk) (m : Int), 0 ≤ m → m ≤ 99 → (∀ x ∈ l, 0 ≤ x.chairs ∧ x.chairs ≤ 99) → 0 ≤ l.foldl (fun m x => max m x.chairs) m ∧ l.foldl (fun m x => max m x.chairs) m ≤ 99 ∧ m ≤ l.foldl (fun m x => max m x.chairs) m ∧ ∀ x ∈ l, x.chairs ≤ l.foldl (fun m x => max m x.chairs) m := by
    intro l
    induction l with
    | nil => intro m h0 h1 _; exact ⟨h0, h1, Int.le_refl _, fun x hx => by cases hx⟩
    | cons y l ih =>
      intro m h0 h1 h
      have hy := h y (by simp)
      obtain ⟨g1, g2, g3, g4⟩ := ih (max m y.chairs) (by omega) (by omega) (fun x hx => h x (by simp [hx]))
      simp only [List.foldl_cons]
      refine ⟨g1, g2, by omega, fun x hx => ?_⟩
      rcases List.mem_cons.1 hx with q | q
      · subst q; omega
      · exact g4 x q
  obtain ⟨h1, h2, _, h4⟩ := key l 0 (by omega) (by omega) h
  exact ⟨h1, h2, h4⟩
def stepL : List Sp → Int → Sp
  | [], _ => default
  | [x], _ => x
  | x :: y :: r, c => if c ≤ x.chairs then x else stepL (y :: r) c
theorem stepL_mem : ∀ (l : List Sp) (c : Int), l ≠ [] → stepL l c ∈ l
  | [], _, h => absurd rfl h
  | [x], _, _ => by simp [stepL]
  | x :: y :: r, c, _ => by
    unfold stepL
    split
    · simp
    · exact List.mem_cons_of_mem _ (stepL_mem (y :: r) c (by simp))
def boundL (s : Sh) (p : List Sp) : Int := sumTo (greatS s.stacks).toNat fun c => partS s ((c : Int) + 1) (stepL p ((c : Int) + 1)).before
def risingB : List Sp → Bool
  | x :: y :: r => decide (x.chairs < y.chairs) && risingB (y :: r)
  | _ => true
def spOk (x : Sp) : Bool := (decide (1 ≤ x.chairs) && decide (x.chairs ≤ 99)) && (decide (0 ≤ x.before) && decide (x.before ≤ 18))
def proofB (p : List Sp) : Bool := (decide (0 < p.length) && p.all spOk) && risingB p
theorem kept_layers {s : Sh} (h : ShOk s) : mostS s = sumTo (greatS s.stacks).toNat fun c => cnt s.stacks.length (fun i => memB (keptS s) i && decide ((c : Int) + 1 ≤ chS s i)) := by
  obtain ⟨g0, g1, g2⟩ := great_spec s.stacks (fun x hx => (h.st x hx).1)
  unfold mostS weightS
  refine wsum_layers fun i hi _ => ⟨(h.ch hi).1, ?_⟩
  have := g2 _ (at_mem hi)
  have e : chS s i = (at_ s.stacks i).chairs := by simp [chS]
  rw [e]
  omega
theorem most_le_bound {s : Sh} (h : ShOk s) {p : List Sp} (hp : proofB p = true) : mostS s ≤ boundL s p := by
  obtain ⟨_, _, hF, _⟩ := kept_spec h
  rw [kept_layers h]
  unfold boundL
  unfold proofB at hp
  simp only [Bool.and_eq_true, decide_eq_true_eq, List.all_eq_true] at hp
  refine sumTo_le fun c hc => ?_
  have hm := stepL_mem p ((c : Int) + 1) (fun e => by rw [e] at hp; simp at hp)
  have hs := hp.1.2 _ hm
  unfold spOk at hs
  simp only [Bool.and_eq_true, decide_eq_true_eq] at hs
  obtain ⟨b, hb⟩ := Int.eq_ofNat_of_zero_le hs.2.1
  rw [hb]
  exact part_weak hF _ (by omega)
theorem bound_eq {s : Sh} (h : ShOk s) {p : List Sp} (hp : proofB p = true)
    (hm : ∀ c : Int, 1 ≤ c → c ≤ greatS s.stacks → ∀ b : Int, 0 ≤ b → b ≤ 18 → partS s c (stepL p c).before ≤ partS s c b) : boundL s p = mostS s := by
  refine Int.le_antisymm ?_ (most_le_bound h hp)
  obtain ⟨g0, g1, g2⟩ := great_spec s.stacks (fun x hx => (h.st x hx).1)
  obtain ⟨_, _, _, h4⟩ := kept_spec h
  rw [kept_layers h]
  unfold boundL
  refine sumTo_le fun c hc => ?_
  obtain ⟨b, hb, he⟩ := h4 ((c : Int) + 1) (by omega)
  rw [he]
  exact hm _ (by omega) (by omega) _ (by omega) (by omega)
theorem most_parts {s : Sh} (h : ShOk s) (m : Nat) (hm : greatS s.stacks ≤ m) (f : Nat → Int) (hf : ∀ c : Nat, c < m → (∃ b : Nat, b ≤ 18 ∧ f c = partS s ((c : Int) + 1) b) ∧ ∀ b : Nat, b ≤ 18 → f c ≤ partS s ((c : Int) + 1) b) :
    mostS s = sumTo m f := by
  obtain ⟨g0, g1, g2⟩ := great_spec s.stacks (fun x hx => (h.st x hx).1)
  obtain ⟨_, _, hF, h4⟩ := kept_spec h
  have e : mostS s = sumTo m fun c => cnt s.stacks.length (fun i => memB (keptS s) i && decide ((c : Int) + 1 ≤ chS s i)) := by
    unfold mostS weightS
    refine wsum_layers fun i hi _ => ⟨(h.ch hi).1, ?_⟩
    have := g2 _ (at_mem hi)
    have e : chS s i = (at_ s.stacks i).chairs := by simp [chS]
    rw [e]
    omega
  rw [e]
  refine sumTo_congr fun c hc => ?_
  obtain ⟨⟨b, hb, hb2⟩, hle⟩ := hf c hc
  obtain ⟨b', hb', he'⟩ := h4 ((c : Int) + 1) (by omega)
  have h1 := part_weak (ch := fun i => chS s i) hF ((c : Int) + 1) hb
  have h2 := hle b' hb'
  unfold partS at *
  omega
end Go.Proofs
namespace Go.Proofs
open Go.Fs
theorem mixed : Try.prog.follows .mixedOrders = true := by kernel_rfl
theorem sz_0 : szOf Try.prog 0 = some (1) := by kernel_rfl
theorem ag_0 : aggOf Try.prog 0 = some (false) := by kernel_rfl
theorem by_0 : bytesOf? Try.prog 0 = some (0) := by kernel_rfl
theorem bo_0 : boolTy Try.prog 0 = false := by kernel_rfl
theorem sl_0 : slOf Try.prog 0 = none := by kernel_rfl
theorem ar_0 : arrOf Try.prog 0 = none := by kernel_rfl
theorem ae_0 : arrEl Try.prog 0 = none := by kernel_rfl
theorem in_0 : intOf? Try.prog 0 = none := by kernel_rfl
theorem ek_0 : eqKind Try.prog 0 = none := by kernel_rfl
theorem e2_0 : eqKind2 Try.prog 0 = none := by kernel_rfl
theorem ma_0 : mapOf? Try.prog 0 = none := by kernel_rfl
theorem sp_0 : strPlaces Try.prog 0 = none := by kernel_rfl
theorem ze_0 : zeroOf Try.prog 0 = some ([.undef]) := by kernel_rfl
theorem za_0 : zeroA Try.prog 0 = some (.undef) := by kernel_rfl
theorem bn_0 : boolN Try.prog 0 = none := by kernel_rfl
theorem sz_1 : szOf Try.prog 1 = some (1) := by kernel_rfl
theorem ag_1 : aggOf Try.prog 1 = some (false) := by kernel_rfl
theorem by_1 : bytesOf? Try.prog 1 = some (8) := by kernel_rfl
theorem bo_1 : boolTy Try.prog 1 = false := by kernel_rfl
theorem sl_1 : slOf Try.prog 1 = none := by kernel_rfl
theorem ar_1 : arrOf Try.prog 1 = none := by kernel_rfl
theorem ae_1 : arrEl Try.prog 1 = none := by kernel_rfl
theorem in_1 : intOf? Try.prog 1 = none := by kernel_rfl
theorem ek_1 : eqKind Try.prog 1 = none := by kernel_rfl
theorem e2_1 : eqKind2 Try.prog 1 = none := by kernel_rfl
theorem ma_1 : mapOf? Try.prog 1 = none := by kernel_rfl
theorem sp_1 : strPlaces Try.prog 1 = none := by kernel_rfl
theorem ze_1 : zeroOf Try.prog 1 = some ([.nilf]) := by kernel_rfl
theorem za_1 : zeroA Try.prog 1 = some (.nilf) := by kernel_rfl
theorem bn_1 : boolN Try.prog 1 = none := by kernel_rfl
theorem sz_2 : szOf Try.prog 2 = some (1) := by kernel_rfl
theorem ag_2 : aggOf Try.prog 2 = some (false) := by kernel_rfl
theorem by_2 : bytesOf? Try.prog 2 = some (8) := by kernel_rfl
theorem bo_2 : boolTy Try.prog 2 = false := by kernel_rfl
theorem sl_2 : slOf Try.prog 2 = none := by kernel_rfl
theorem ar_2 : arrOf Try.prog 2 = none := by kernel_rfl
theorem ae_2 : arrEl Try.prog 2 = none := by kernel_rfl
theorem in_2 : intOf? Try.prog 2 = some (.i64) := by kernel_rfl
theorem ek_2 : eqKind Try.prog 2 = none := by kernel_rfl
theorem e2_2 : eqKind2 Try.prog 2 = none := by kernel_rfl
theorem ma_2 : mapOf? Try.prog 2 = none := by kernel_rfl
theorem sp_2 : strPlaces Try.prog 2 = none := by kernel_rfl
theorem ze_2 : zeroOf Try.prog 2 = some ([(.int .i64 0)]) := by kernel_rfl
theorem za_2 : zeroA Try.prog 2 = some ((.int .i64 0)) := by kernel_rfl
theorem bn_2 : boolN Try.prog 2 = none := by kernel_rfl
theorem sz_3 : szOf Try.prog 3 = some (1) := by kernel_rfl
theorem ag_3 : aggOf Try.prog 3 = some (false) := by kernel_rfl
theorem by_3 : bytesOf? Try.prog 3 = some (8) := by kernel_rfl
theorem bo_3 : boolTy Try.prog 3 = false := by kernel_rfl
theorem sl_3 : slOf Try.prog 3 = none := by kernel_rfl
theorem ar_3 : arrOf Try.prog 3 = none := by kernel_rfl
theorem ae_3 : arrEl Try.prog 3 = none := by kernel_rfl
theorem in_3 : intOf? Try.prog 3 = some (.i64) := by kernel_rfl
theorem ek_3 : eqKind Try.prog 3 = none := by kernel_rfl
theorem e2_3 : eqKind2 Try.prog 3 = none := by kernel_rfl
theorem ma_3 : mapOf? Try.prog 3 = none := by kernel_rfl
theorem sp_3 : strPlaces Try.prog 3 = none := by kernel_rfl
theorem ze_3 : zeroOf Try.prog 3 = some ([(.int .i64 0)]) := by kernel_rfl
theorem za_3 : zeroA Try.prog 3 = some ((.int .i64 0)) := by kernel_rfl
theorem bn_3 : boolN Try.prog 3 = none := by kernel_rfl
theorem sz_4 : szOf Try.prog 4 = some (1) := by kernel_rfl
theorem ag_4 : aggOf Try.prog 4 = some (false) := by kernel_rfl
theorem by_4 : bytesOf? Try.prog 4 = some (1) := by kernel_rfl
theorem bo_4 : boolTy Try.prog 4 = true := by kernel_rfl
theorem sl_4 : slOf Try.prog 4 = none := by kernel_rfl
theorem ar_4 : arrOf Try.prog 4 = none := by kernel_rfl
theorem ae_4 : arrEl Try.prog 4 = none := by kernel_rfl
theorem in_4 : intOf? Try.prog 4 = none := by kernel_rfl
theorem ek_4 : eqKind Try.prog 4 = none := by kernel_rfl
theorem e2_4 : eqKind2 Try.prog 4 = none := by kernel_rfl
theorem ma_4 : mapOf? Try.prog 4 = none := by kernel_rfl
theorem sp_4 : strPlaces Try.prog 4 = none := by kernel_rfl
theorem ze_4 : zeroOf Try.prog 4 = some ([(.bool false)]) := by kernel_rfl
theorem za_4 : zeroA Try.prog 4 = some ((.bool false)) := by kernel_rfl
theorem bn_4 : boolN Try.prog 4 = none := by kernel_rfl
theorem sz_5 : szOf Try.prog 5 = some (1) := by kernel_rfl
theorem ag_5 : aggOf Try.prog 5 = some (false) := by kernel_rfl
theorem by_5 : bytesOf? Try.prog 5 = some (1) := by kernel_rfl
theorem bo_5 : boolTy Try.prog 5 = false := by kernel_rfl
theorem sl_5 : slOf Try.prog 5 = none := by kernel_rfl
theorem ar_5 : arrOf Try.prog 5 = none := by kernel_rfl
theorem ae_5 : arrEl Try.prog 5 = none := by kernel_rfl
theorem in_5 : intOf? Try.prog 5 = some (.u8) := by kernel_rfl
theorem ek_5 : eqKind Try.prog 5 = none := by kernel_rfl
theorem e2_5 : eqKind2 Try.prog 5 = none := by kernel_rfl
theorem ma_5 : mapOf? Try.prog 5 = none := by kernel_rfl
theorem sp_5 : strPlaces Try.prog 5 = none := by kernel_rfl
theorem ze_5 : zeroOf Try.prog 5 = some ([(.int .u8 0)]) := by kernel_rfl
theorem za_5 : zeroA Try.prog 5 = some ((.int .u8 0)) := by kernel_rfl
theorem bn_5 : boolN Try.prog 5 = none := by kernel_rfl
theorem sz_9 : szOf Try.prog 9 = some (1) := by kernel_rfl
theorem ag_9 : aggOf Try.prog 9 = some (false) := by kernel_rfl
theorem by_9 : bytesOf? Try.prog 9 = some (16) := by kernel_rfl
theorem bo_9 : boolTy Try.prog 9 = false := by kernel_rfl
theorem sl_9 : slOf Try.prog 9 = none := by kernel_rfl
theorem ar_9 : arrOf Try.prog 9 = none := by kernel_rfl
theorem ae_9 : arrEl Try.prog 9 = none := by kernel_rfl
theorem in_9 : intOf? Try.prog 9 = none := by kernel_rfl
theorem ek_9 : eqKind Try.prog 9 = none := by kernel_rfl
theorem e2_9 : eqKind2 Try.prog 9 = none := by kernel_rfl
theorem ma_9 : mapOf? Try.prog 9 = none := by kernel_rfl
theorem sp_9 : strPlaces Try.prog 9 = none := by kernel_rfl
theorem ze_9 : zeroOf Try.prog 9 = some ([.undef]) := by kernel_rfl
theorem za_9 : zeroA Try.prog 9 = some (.undef) := by kernel_rfl
theorem bn_9 : boolN Try.prog 9 = none := by kernel_rfl
theorem sz_22 : szOf Try.prog 22 = some (1) := by kernel_rfl
theorem ag_22 : aggOf Try.prog 22 = some (false) := by kernel_rfl
theorem by_22 : bytesOf? Try.prog 22 = some (24) := by kernel_rfl
theorem bo_22 : boolTy Try.prog 22 = false := by kernel_rfl
theorem sl_22 : slOf Try.prog 22 = some ((34, 3)) := by kernel_rfl
theorem ar_22 : arrOf Try.prog 22 = none := by kernel_rfl
theorem ae_22 : arrEl Try.prog 22 = none := by kernel_rfl
theorem in_22 : intOf? Try.prog 22 = none := by kernel_rfl
theorem ek_22 : eqKind Try.prog 22 = none := by kernel_rfl
theorem e2_22 : eqKind2 Try.prog 22 = none := by kernel_rfl
theorem ma_22 : mapOf? Try.prog 22 = none := by kernel_rfl
theorem sp_22 : strPlaces Try.prog 22 = none := by kernel_rfl
theorem ze_22 : zeroOf Try.prog 22 = some ([(.sl [] .full)]) := by kernel_rfl
theorem za_22 : zeroA Try.prog 22 = some ((.sl [] .full)) := by kernel_rfl
theorem bn_22 : boolN Try.prog 22 = none := by kernel_rfl
theorem sz_24 : szOf Try.prog 24 = some (2) := by kernel_rfl
theorem ag_24 : aggOf Try.prog 24 = some (true) := by kernel_rfl
theorem by_24 : bytesOf? Try.prog 24 = some (16) := by kernel_rfl
theorem bo_24 : boolTy Try.prog 24 = false := by kernel_rfl
theorem sl_24 : slOf Try.prog 24 = none := by kernel_rfl
theorem ar_24 : arrOf Try.prog 24 = none := by kernel_rfl
theorem ae_24 : arrEl Try.prog 24 = none := by kernel_rfl
theorem in_24 : intOf? Try.prog 24 = none := by kernel_rfl
theorem ek_24 : eqKind Try.prog 24 = some (2) := by kernel_rfl
theorem e2_24 : eqKind2 Try.prog 24 = some (2) := by kernel_rfl
theorem ma_24 : mapOf? Try.prog 24 = none := by kernel_rfl
theorem sp_24 : strPlaces Try.prog 24 = some ([(0, 1), (1, 1)]) := by kernel_rfl
theorem ze_24 : zeroOf Try.prog 24 = some ([(.int .i64 0), (.int .i64 0)]) := by kernel_rfl
theorem za_24 : zeroA Try.prog 24 = some ((.agg [(.int .i64 0), (.int .i64 0)])) := by kernel_rfl
theorem bn_24 : boolN Try.prog 24 = none := by kernel_rfl
theorem fl_24_0 : fldOf Try.prog 24 0 = some ((0, 3)) := by kernel_rfl
theorem of_24_0 : offOf Try.prog 24 0 = some (0) := by kernel_rfl
theorem fl_24_1 : fldOf Try.prog 24 1 = some ((1, 3)) := by kernel_rfl
theorem of_24_1 : offOf Try.prog 24 1 = some (1) := by kernel_rfl
theorem sz_26 : szOf Try.prog 26 = some (4) := by kernel_rfl
theorem ag_26 : aggOf Try.prog 26 = some (true) := by kernel_rfl
theorem by_26 : bytesOf? Try.prog 26 = some (48) := by kernel_rfl
theorem bo_26 : boolTy Try.prog 26 = false := by kernel_rfl
theorem sl_26 : slOf Try.prog 26 = none := by kernel_rfl
theorem ar_26 : arrOf Try.prog 26 = none := by kernel_rfl
theorem ae_26 : arrEl Try.prog 26 = none := by kernel_rfl
theorem in_26 : intOf? Try.prog 26 = none := by kernel_rfl
theorem ek_26 : eqKind Try.prog 26 = none := by kernel_rfl
theorem e2_26 : eqKind2 Try.prog 26 = none := by kernel_rfl
theorem ma_26 : mapOf? Try.prog 26 = none := by kernel_rfl
theorem sp_26 : strPlaces Try.prog 26 = some ([(0, 1), (1, 1), (2, 2)]) := by kernel_rfl
theorem ze_26 : zeroOf Try.prog 26 = some ([(.sl [] .full), (.int .i64 0), (.int .i64 0), (.int .i64 0)]) := by kernel_rfl
theorem za_26 : zeroA Try.prog 26 = some ((.agg [(.sl [] .full), (.int .i64 0), (.int .i64 0), (.int .i64 0)])) := by kernel_rfl
theorem bn_26 : boolN Try.prog 26 = none := by kernel_rfl
theorem fl_26_0 : fldOf Try.prog 26 0 = some ((0, 22)) := by kernel_rfl
theorem of_26_0 : offOf Try.prog 26 0 = some (0) := by kernel_rfl
theorem fl_26_1 : fldOf Try.prog 26 1 = some ((1, 3)) := by kernel_rfl
theorem of_26_1 : offOf Try.prog 26 1 = some (1) := by kernel_rfl
theorem fl_26_2 : fldOf Try.prog 26 2 = some ((2, 24)) := by kernel_rfl
theorem of_26_2 : offOf Try.prog 26 2 = some (2) := by kernel_rfl
theorem sz_27 : szOf Try.prog 27 = some (1) := by kernel_rfl
theorem ag_27 : aggOf Try.prog 27 = some (false) := by kernel_rfl
theorem by_27 : bytesOf? Try.prog 27 = some (24) := by kernel_rfl
theorem bo_27 : boolTy Try.prog 27 = false := by kernel_rfl
theorem sl_27 : slOf Try.prog 27 = some ((108, 1)) := by kernel_rfl
theorem ar_27 : arrOf Try.prog 27 = none := by kernel_rfl
theorem ae_27 : arrEl Try.prog 27 = none := by kernel_rfl
theorem in_27 : intOf? Try.prog 27 = none := by kernel_rfl
theorem ek_27 : eqKind Try.prog 27 = none := by kernel_rfl
theorem e2_27 : eqKind2 Try.prog 27 = none := by kernel_rfl
theorem ma_27 : mapOf? Try.prog 27 = none := by kernel_rfl
theorem sp_27 : strPlaces Try.prog 27 = none := by kernel_rfl
theorem ze_27 : zeroOf Try.prog 27 = some ([(.sl [] .full)]) := by kernel_rfl
theorem za_27 : zeroA Try.prog 27 = some ((.sl [] .full)) := by kernel_rfl
theorem bn_27 : boolN Try.prog 27 = none := by kernel_rfl
theorem sz_30 : szOf Try.prog 30 = some (1) := by kernel_rfl
theorem ag_30 : aggOf Try.prog 30 = some (false) := by kernel_rfl
theorem by_30 : bytesOf? Try.prog 30 = some (24) := by kernel_rfl
theorem bo_30 : boolTy Try.prog 30 = false := by kernel_rfl
theorem sl_30 : slOf Try.prog 30 = some ((3, 1)) := by kernel_rfl
theorem ar_30 : arrOf Try.prog 30 = none := by kernel_rfl
theorem ae_30 : arrEl Try.prog 30 = none := by kernel_rfl
theorem in_30 : intOf? Try.prog 30 = none := by kernel_rfl
theorem ek_30 : eqKind Try.prog 30 = none := by kernel_rfl
theorem e2_30 : eqKind2 Try.prog 30 = none := by kernel_rfl
theorem ma_30 : mapOf? Try.prog 30 = none := by kernel_rfl
theorem sp_30 : strPlaces Try.prog 30 = none := by kernel_rfl
theorem ze_30 : zeroOf Try.prog 30 = some ([(.sl [] .full)]) := by kernel_rfl
theorem za_30 : zeroA Try.prog 30 = some ((.sl [] .full)) := by kernel_rfl
theorem bn_30 : boolN Try.prog 30 = none := by kernel_rfl
theorem sz_34 : szOf Try.prog 34 = some (3) := by kernel_rfl
theorem ag_34 : aggOf Try.prog 34 = some (true) := by kernel_rfl
theorem by_34 : bytesOf? Try.prog 34 = some (24) := by kernel_rfl
theorem bo_34 : boolTy Try.prog 34 = false := by kernel_rfl
theorem sl_34 : slOf Try.prog 34 = none := by kernel_rfl
theorem ar_34 : arrOf Try.prog 34 = none := by kernel_rfl
theorem ae_34 : arrEl Try.prog 34 = none := by kernel_rfl
theorem in_34 : intOf? Try.prog 34 = none := by kernel_rfl
theorem ek_34 : eqKind Try.prog 34 = none := by kernel_rfl
theorem e2_34 : eqKind2 Try.prog 34 = some (3) := by kernel_rfl
theorem ma_34 : mapOf? Try.prog 34 = none := by kernel_rfl
theorem sp_34 : strPlaces Try.prog 34 = some ([(0, 1), (1, 2)]) := by kernel_rfl
theorem ze_34 : zeroOf Try.prog 34 = some ([(.int .i64 0), (.int .i64 0), (.int .i64 0)]) := by kernel_rfl
theorem za_34 : zeroA Try.prog 34 = some ((.agg [(.int .i64 0), (.int .i64 0), (.int .i64 0)])) := by kernel_rfl
theorem bn_34 : boolN Try.prog 34 = none := by kernel_rfl
theorem fl_34_0 : fldOf Try.prog 34 0 = some ((0, 3)) := by kernel_rfl
theorem of_34_0 : offOf Try.prog 34 0 = some (0) := by kernel_rfl
theorem fl_34_1 : fldOf Try.prog 34 1 = some ((1, 24)) := by kernel_rfl
theorem of_34_1 : offOf Try.prog 34 1 = some (1) := by kernel_rfl
theorem sz_35 : szOf Try.prog 35 = some (1) := by kernel_rfl
theorem ag_35 : aggOf Try.prog 35 = some (false) := by kernel_rfl
theorem by_35 : bytesOf? Try.prog 35 = some (8) := by kernel_rfl
theorem bo_35 : boolTy Try.prog 35 = false := by kernel_rfl
theorem sl_35 : slOf Try.prog 35 = none := by kernel_rfl
theorem ar_35 : arrOf Try.prog 35 = none := by kernel_rfl
theorem ae_35 : arrEl Try.prog 35 = none := by kernel_rfl
theorem in_35 : intOf? Try.prog 35 = some (.i64) := by kernel_rfl
theorem ek_35 : eqKind Try.prog 35 = none := by kernel_rfl
theorem e2_35 : eqKind2 Try.prog 35 = none := by kernel_rfl
theorem ma_35 : mapOf? Try.prog 35 = none := by kernel_rfl
theorem sp_35 : strPlaces Try.prog 35 = none := by kernel_rfl
theorem ze_35 : zeroOf Try.prog 35 = some ([(.int .i64 0)]) := by kernel_rfl
theorem za_35 : zeroA Try.prog 35 = some ((.int .i64 0)) := by kernel_rfl
theorem bn_35 : boolN Try.prog 35 = none := by kernel_rfl
theorem sz_38 : szOf Try.prog 38 = some (1) := by kernel_rfl
theorem ag_38 : aggOf Try.prog 38 = some (false) := by kernel_rfl
theorem by_38 : bytesOf? Try.prog 38 = some (24) := by kernel_rfl
theorem bo_38 : boolTy Try.prog 38 = false := by kernel_rfl
theorem sl_38 : slOf Try.prog 38 = some ((56, 3)) := by kernel_rfl
theorem ar_38 : arrOf Try.prog 38 = none := by kernel_rfl
theorem ae_38 : arrEl Try.prog 38 = none := by kernel_rfl
theorem in_38 : intOf? Try.prog 38 = none := by kernel_rfl
theorem ek_38 : eqKind Try.prog 38 = none := by kernel_rfl
theorem e2_38 : eqKind2 Try.prog 38 = none := by kernel_rfl
theorem ma_38 : mapOf? Try.prog 38 = none := by kernel_rfl
theorem sp_38 : strPlaces Try.prog 38 = none := by kernel_rfl
theorem ze_38 : zeroOf Try.prog 38 = some ([(.sl [] .full)]) := by kernel_rfl
theorem za_38 : zeroA Try.prog 38 = some ((.sl [] .full)) := by kernel_rfl
theorem bn_38 : boolN Try.prog 38 = none := by kernel_rfl
theorem sz_39 : szOf Try.prog 39 = some (2) := by kernel_rfl
theorem ag_39 : aggOf Try.prog 39 = some (true) := by kernel_rfl
theorem by_39 : bytesOf? Try.prog 39 = some (16) := by kernel_rfl
theorem bo_39 : boolTy Try.prog 39 = false := by kernel_rfl
theorem sl_39 : slOf Try.prog 39 = none := by kernel_rfl
theorem ar_39 : arrOf Try.prog 39 = none := by kernel_rfl
theorem ae_39 : arrEl Try.prog 39 = none := by kernel_rfl
theorem in_39 : intOf? Try.prog 39 = none := by kernel_rfl
theorem ek_39 : eqKind Try.prog 39 = some (2) := by kernel_rfl
theorem e2_39 : eqKind2 Try.prog 39 = some (2) := by kernel_rfl
theorem ma_39 : mapOf? Try.prog 39 = none := by kernel_rfl
theorem sp_39 : strPlaces Try.prog 39 = some ([(0, 1), (1, 1)]) := by kernel_rfl
theorem ze_39 : zeroOf Try.prog 39 = some ([(.int .i64 0), (.int .i64 0)]) := by kernel_rfl
theorem za_39 : zeroA Try.prog 39 = some ((.agg [(.int .i64 0), (.int .i64 0)])) := by kernel_rfl
theorem bn_39 : boolN Try.prog 39 = none := by kernel_rfl
theorem fl_39_0 : fldOf Try.prog 39 0 = some ((0, 3)) := by kernel_rfl
theorem of_39_0 : offOf Try.prog 39 0 = some (0) := by kernel_rfl
theorem fl_39_1 : fldOf Try.prog 39 1 = some ((1, 3)) := by kernel_rfl
theorem of_39_1 : offOf Try.prog 39 1 = some (1) := by kernel_rfl
theorem sz_41 : szOf Try.prog 41 = some (4) := by kernel_rfl
theorem ag_41 : aggOf Try.prog 41 = some (true) := by kernel_rfl
theorem by_41 : bytesOf? Try.prog 41 = some (48) := by kernel_rfl
theorem bo_41 : boolTy Try.prog 41 = false := by kernel_rfl
theorem sl_41 : slOf Try.prog 41 = none := by kernel_rfl
theorem ar_41 : arrOf Try.prog 41 = none := by kernel_rfl
theorem ae_41 : arrEl Try.prog 41 = none := by kernel_rfl
theorem in_41 : intOf? Try.prog 41 = none := by kernel_rfl
theorem ek_41 : eqKind Try.prog 41 = none := by kernel_rfl
theorem e2_41 : eqKind2 Try.prog 41 = none := by kernel_rfl
theorem ma_41 : mapOf? Try.prog 41 = none := by kernel_rfl
theorem sp_41 : strPlaces Try.prog 41 = some ([(0, 1), (1, 1), (2, 2)]) := by kernel_rfl
theorem ze_41 : zeroOf Try.prog 41 = some ([(.sl [] .full), (.int .i64 0), (.int .i64 0), (.int .i64 0)]) := by kernel_rfl
theorem za_41 : zeroA Try.prog 41 = some ((.agg [(.sl [] .full), (.int .i64 0), (.int .i64 0), (.int .i64 0)])) := by kernel_rfl
theorem bn_41 : boolN Try.prog 41 = none := by kernel_rfl
theorem fl_41_0 : fldOf Try.prog 41 0 = some ((0, 38)) := by kernel_rfl
theorem of_41_0 : offOf Try.prog 41 0 = some (0) := by kernel_rfl
theorem fl_41_1 : fldOf Try.prog 41 1 = some ((1, 3)) := by kernel_rfl
theorem of_41_1 : offOf Try.prog 41 1 = some (1) := by kernel_rfl
theorem fl_41_2 : fldOf Try.prog 41 2 = some ((2, 39)) := by kernel_rfl
theorem of_41_2 : offOf Try.prog 41 2 = some (2) := by kernel_rfl
theorem sz_53 : szOf Try.prog 53 = some (4) := by kernel_rfl
theorem ag_53 : aggOf Try.prog 53 = some (true) := by kernel_rfl
theorem by_53 : bytesOf? Try.prog 53 = some (32) := by kernel_rfl
theorem bo_53 : boolTy Try.prog 53 = false := by kernel_rfl
theorem sl_53 : slOf Try.prog 53 = none := by kernel_rfl
theorem ar_53 : arrOf Try.prog 53 = some ((4, 1)) := by kernel_rfl
theorem ae_53 : arrEl Try.prog 53 = some (3) := by kernel_rfl
theorem in_53 : intOf? Try.prog 53 = none := by kernel_rfl
theorem ek_53 : eqKind Try.prog 53 = some (4) := by kernel_rfl
theorem e2_53 : eqKind2 Try.prog 53 = some (4) := by kernel_rfl
theorem ma_53 : mapOf? Try.prog 53 = none := by kernel_rfl
theorem sp_53 : strPlaces Try.prog 53 = none := by kernel_rfl
theorem ze_53 : zeroOf Try.prog 53 = some ([(.int .i64 0), (.int .i64 0), (.int .i64 0), (.int .i64 0)]) := by kernel_rfl
theorem za_53 : zeroA Try.prog 53 = some ((.agg [(.int .i64 0), (.int .i64 0), (.int .i64 0), (.int .i64 0)])) := by kernel_rfl
theorem bn_53 : boolN Try.prog 53 = none := by kernel_rfl
theorem sz_56 : szOf Try.prog 56 = some (3) := by kernel_rfl
theorem ag_56 : aggOf Try.prog 56 = some (true) := by kernel_rfl
theorem by_56 : bytesOf? Try.prog 56 = some (24) := by kernel_rfl
theorem bo_56 : boolTy Try.prog 56 = false := by kernel_rfl
theorem sl_56 : slOf Try.prog 56 = none := by kernel_rfl
theorem ar_56 : arrOf Try.prog 56 = none := by kernel_rfl
theorem ae_56 : arrEl Try.prog 56 = none := by kernel_rfl
theorem in_56 : intOf? Try.prog 56 = none := by kernel_rfl
theorem ek_56 : eqKind Try.prog 56 = none := by kernel_rfl
theorem e2_56 : eqKind2 Try.prog 56 = some (3) := by kernel_rfl
theorem ma_56 : mapOf? Try.prog 56 = none := by kernel_rfl
theorem sp_56 : strPlaces Try.prog 56 = some ([(0, 1), (1, 2)]) := by kernel_rfl
theorem ze_56 : zeroOf Try.prog 56 = some ([(.int .i64 0), (.int .i64 0), (.int .i64 0)]) := by kernel_rfl
theorem za_56 : zeroA Try.prog 56 = some ((.agg [(.int .i64 0), (.int .i64 0), (.int .i64 0)])) := by kernel_rfl
theorem bn_56 : boolN Try.prog 56 = none := by kernel_rfl
theorem fl_56_0 : fldOf Try.prog 56 0 = some ((0, 3)) := by kernel_rfl
theorem of_56_0 : offOf Try.prog 56 0 = some (0) := by kernel_rfl
theorem fl_56_1 : fldOf Try.prog 56 1 = some ((1, 39)) := by kernel_rfl
theorem of_56_1 : offOf Try.prog 56 1 = some (1) := by kernel_rfl
theorem sz_59 : szOf Try.prog 59 = some (2) := by kernel_rfl
theorem ag_59 : aggOf Try.prog 59 = some (true) := by kernel_rfl
theorem by_59 : bytesOf? Try.prog 59 = some (16) := by kernel_rfl
theorem bo_59 : boolTy Try.prog 59 = false := by kernel_rfl
theorem sl_59 : slOf Try.prog 59 = none := by kernel_rfl
theorem ar_59 : arrOf Try.prog 59 = none := by kernel_rfl
theorem ae_59 : arrEl Try.prog 59 = none := by kernel_rfl
theorem in_59 : intOf? Try.prog 59 = none := by kernel_rfl
theorem ek_59 : eqKind Try.prog 59 = some (2) := by kernel_rfl
theorem e2_59 : eqKind2 Try.prog 59 = some (2) := by kernel_rfl
theorem ma_59 : mapOf? Try.prog 59 = none := by kernel_rfl
theorem sp_59 : strPlaces Try.prog 59 = some ([(0, 1), (1, 1)]) := by kernel_rfl
theorem ze_59 : zeroOf Try.prog 59 = some ([(.int .i64 0), (.int .i64 0)]) := by kernel_rfl
theorem za_59 : zeroA Try.prog 59 = some ((.agg [(.int .i64 0), (.int .i64 0)])) := by kernel_rfl
theorem bn_59 : boolN Try.prog 59 = none := by kernel_rfl
theorem fl_59_0 : fldOf Try.prog 59 0 = some ((0, 3)) := by kernel_rfl
theorem of_59_0 : offOf Try.prog 59 0 = some (0) := by kernel_rfl
theorem fl_59_1 : fldOf Try.prog 59 1 = some ((1, 3)) := by kernel_rfl
theorem of_59_1 : offOf Try.prog 59 1 = some (1) := by kernel_rfl
theorem sz_60 : szOf Try.prog 60 = some (1) := by kernel_rfl
theorem ag_60 : aggOf Try.prog 60 = some (false) := by kernel_rfl
theorem by_60 : bytesOf? Try.prog 60 = some (24) := by kernel_rfl
theorem bo_60 : boolTy Try.prog 60 = false := by kernel_rfl
theorem sl_60 : slOf Try.prog 60 = some ((59, 2)) := by kernel_rfl
theorem ar_60 : arrOf Try.prog 60 = none := by kernel_rfl
theorem ae_60 : arrEl Try.prog 60 = none := by kernel_rfl
theorem in_60 : intOf? Try.prog 60 = none := by kernel_rfl
theorem ek_60 : eqKind Try.prog 60 = none := by kernel_rfl
theorem e2_60 : eqKind2 Try.prog 60 = none := by kernel_rfl
theorem ma_60 : mapOf? Try.prog 60 = none := by kernel_rfl
theorem sp_60 : strPlaces Try.prog 60 = none := by kernel_rfl
theorem ze_60 : zeroOf Try.prog 60 = some ([(.sl [] .full)]) := by kernel_rfl
theorem za_60 : zeroA Try.prog 60 = some ((.sl [] .full)) := by kernel_rfl
theorem bn_60 : boolN Try.prog 60 = none := by kernel_rfl
theorem sz_64 : szOf Try.prog 64 = some (1) := by kernel_rfl
theorem ag_64 : aggOf Try.prog 64 = some (false) := by kernel_rfl
theorem by_64 : bytesOf? Try.prog 64 = some (24) := by kernel_rfl
theorem bo_64 : boolTy Try.prog 64 = false := by kernel_rfl
theorem sl_64 : slOf Try.prog 64 = some ((4, 1)) := by kernel_rfl
theorem ar_64 : arrOf Try.prog 64 = none := by kernel_rfl
theorem ae_64 : arrEl Try.prog 64 = none := by kernel_rfl
theorem in_64 : intOf? Try.prog 64 = none := by kernel_rfl
theorem ek_64 : eqKind Try.prog 64 = none := by kernel_rfl
theorem e2_64 : eqKind2 Try.prog 64 = none := by kernel_rfl
theorem ma_64 : mapOf? Try.prog 64 = none := by kernel_rfl
theorem sp_64 : strPlaces Try.prog 64 = none := by kernel_rfl
theorem ze_64 : zeroOf Try.prog 64 = some ([(.sl [] .full)]) := by kernel_rfl
theorem za_64 : zeroA Try.prog 64 = some ((.sl [] .full)) := by kernel_rfl
theorem bn_64 : boolN Try.prog 64 = none := by kernel_rfl
theorem sz_68 : szOf Try.prog 68 = some (2) := by kernel_rfl
theorem ag_68 : aggOf Try.prog 68 = some (true) := by kernel_rfl
theorem by_68 : bytesOf? Try.prog 68 = some (32) := by kernel_rfl
theorem bo_68 : boolTy Try.prog 68 = false := by kernel_rfl
theorem sl_68 : slOf Try.prog 68 = none := by kernel_rfl
theorem ar_68 : arrOf Try.prog 68 = none := by kernel_rfl
theorem ae_68 : arrEl Try.prog 68 = none := by kernel_rfl
theorem in_68 : intOf? Try.prog 68 = none := by kernel_rfl
theorem ek_68 : eqKind Try.prog 68 = none := by kernel_rfl
theorem e2_68 : eqKind2 Try.prog 68 = none := by kernel_rfl
theorem ma_68 : mapOf? Try.prog 68 = none := by kernel_rfl
theorem sp_68 : strPlaces Try.prog 68 = some ([(0, 1), (1, 1)]) := by kernel_rfl
theorem ze_68 : zeroOf Try.prog 68 = some ([(.int .i64 0), (.sl [] .full)]) := by kernel_rfl
theorem za_68 : zeroA Try.prog 68 = some ((.agg [(.int .i64 0), (.sl [] .full)])) := by kernel_rfl
theorem bn_68 : boolN Try.prog 68 = none := by kernel_rfl
theorem fl_68_0 : fldOf Try.prog 68 0 = some ((0, 3)) := by kernel_rfl
theorem of_68_0 : offOf Try.prog 68 0 = some (0) := by kernel_rfl
theorem fl_68_1 : fldOf Try.prog 68 1 = some ((1, 30)) := by kernel_rfl
theorem of_68_1 : offOf Try.prog 68 1 = some (1) := by kernel_rfl
theorem sz_80 : szOf Try.prog 80 = some (1) := by kernel_rfl
theorem ag_80 : aggOf Try.prog 80 = some (false) := by kernel_rfl
theorem by_80 : bytesOf? Try.prog 80 = some (8) := by kernel_rfl
theorem bo_80 : boolTy Try.prog 80 = false := by kernel_rfl
theorem sl_80 : slOf Try.prog 80 = none := by kernel_rfl
theorem ar_80 : arrOf Try.prog 80 = none := by kernel_rfl
theorem ae_80 : arrEl Try.prog 80 = none := by kernel_rfl
theorem in_80 : intOf? Try.prog 80 = none := by kernel_rfl
theorem ek_80 : eqKind Try.prog 80 = none := by kernel_rfl
theorem e2_80 : eqKind2 Try.prog 80 = none := by kernel_rfl
theorem ma_80 : mapOf? Try.prog 80 = none := by kernel_rfl
theorem sp_80 : strPlaces Try.prog 80 = none := by kernel_rfl
theorem ze_80 : zeroOf Try.prog 80 = some ([.nilp]) := by kernel_rfl
theorem za_80 : zeroA Try.prog 80 = some (.nilp) := by kernel_rfl
theorem bn_80 : boolN Try.prog 80 = none := by kernel_rfl
theorem sz_92 : szOf Try.prog 92 = some (1) := by kernel_rfl
theorem ag_92 : aggOf Try.prog 92 = some (false) := by kernel_rfl
theorem by_92 : bytesOf? Try.prog 92 = some (8) := by kernel_rfl
theorem bo_92 : boolTy Try.prog 92 = false := by kernel_rfl
theorem sl_92 : slOf Try.prog 92 = none := by kernel_rfl
theorem ar_92 : arrOf Try.prog 92 = none := by kernel_rfl
theorem ae_92 : arrEl Try.prog 92 = none := by kernel_rfl
theorem in_92 : intOf? Try.prog 92 = none := by kernel_rfl
theorem ek_92 : eqKind Try.prog 92 = none := by kernel_rfl
theorem e2_92 : eqKind2 Try.prog 92 = none := by kernel_rfl
theorem ma_92 : mapOf? Try.prog 92 = none := by kernel_rfl
theorem sp_92 : strPlaces Try.prog 92 = none := by kernel_rfl
theorem ze_92 : zeroOf Try.prog 92 = some ([.nilf]) := by kernel_rfl
theorem za_92 : zeroA Try.prog 92 = some (.nilf) := by kernel_rfl
theorem bn_92 : boolN Try.prog 92 = none := by kernel_rfl
theorem sz_96 : szOf Try.prog 96 = some (18) := by kernel_rfl
theorem ag_96 : aggOf Try.prog 96 = some (true) := by kernel_rfl
theorem by_96 : bytesOf? Try.prog 96 = some (144) := by kernel_rfl
theorem bo_96 : boolTy Try.prog 96 = false := by kernel_rfl
theorem sl_96 : slOf Try.prog 96 = none := by kernel_rfl
theorem ar_96 : arrOf Try.prog 96 = some ((18, 1)) := by kernel_rfl
theorem ae_96 : arrEl Try.prog 96 = some (3) := by kernel_rfl
theorem in_96 : intOf? Try.prog 96 = none := by kernel_rfl
theorem ek_96 : eqKind Try.prog 96 = some (18) := by kernel_rfl
theorem e2_96 : eqKind2 Try.prog 96 = some (18) := by kernel_rfl
theorem ma_96 : mapOf? Try.prog 96 = none := by kernel_rfl
theorem sp_96 : strPlaces Try.prog 96 = none := by kernel_rfl
theorem ze_96 : zeroOf Try.prog 96 = some ([(.int .i64 0), (.int .i64 0), (.int .i64 0), (.int .i64 0), (.int .i64 0), (.int .i64 0), (.int .i64 0), (.int .i64 0), (.int .i64 0), (.int .i64 0), (.int .i64 0), (.int .i64 0), (.int .i64 0), (.int .i64 0), (.int .i64 0), (.int .i64 0), (.int .i64 0), (.int .i64 0)]) := by kernel_rfl
theorem za_96 : zeroA Try.prog 96 = some ((.agg [(.int .i64 0), (.int .i64 0), (.int .i64 0), (.int .i64 0), (.int .i64 0), (.int .i64 0), (.int .i64 0), (.int .i64 0), (.int .i64 0), (.int .i64 0), (.int .i64 0), (.int .i64 0), (.int .i64 0), (.int .i64 0), (.int .i64 0), (.int .i64 0), (.int .i64 0), (.int .i64 0)])) := by kernel_rfl
theorem bn_96 : boolN Try.prog 96 = none := by kernel_rfl
theorem sz_100 : szOf Try.prog 100 = some (1) := by kernel_rfl
theorem ag_100 : aggOf Try.prog 100 = some (false) := by kernel_rfl
theorem by_100 : bytesOf? Try.prog 100 = some (8) := by kernel_rfl
theorem bo_100 : boolTy Try.prog 100 = false := by kernel_rfl
theorem sl_100 : slOf Try.prog 100 = none := by kernel_rfl
theorem ar_100 : arrOf Try.prog 100 = none := by kernel_rfl
theorem ae_100 : arrEl Try.prog 100 = none := by kernel_rfl
theorem in_100 : intOf? Try.prog 100 = none := by kernel_rfl
theorem ek_100 : eqKind Try.prog 100 = none := by kernel_rfl
theorem e2_100 : eqKind2 Try.prog 100 = none := by kernel_rfl
theorem ma_100 : mapOf? Try.prog 100 = none := by kernel_rfl
theorem sp_100 : strPlaces Try.prog 100 = none := by kernel_rfl
theorem ze_100 : zeroOf Try.prog 100 = some ([.nilf]) := by kernel_rfl
theorem za_100 : zeroA Try.prog 100 = some (.nilf) := by kernel_rfl
theorem bn_100 : boolN Try.prog 100 = none := by kernel_rfl
theorem sz_102 : szOf Try.prog 102 = some (1) := by kernel_rfl
theorem ag_102 : aggOf Try.prog 102 = some (false) := by kernel_rfl
theorem by_102 : bytesOf? Try.prog 102 = some (8) := by kernel_rfl
theorem bo_102 : boolTy Try.prog 102 = false := by kernel_rfl
theorem sl_102 : slOf Try.prog 102 = none := by kernel_rfl
theorem ar_102 : arrOf Try.prog 102 = none := by kernel_rfl
theorem ae_102 : arrEl Try.prog 102 = none := by kernel_rfl
theorem in_102 : intOf? Try.prog 102 = none := by kernel_rfl
theorem ek_102 : eqKind Try.prog 102 = none := by kernel_rfl
theorem e2_102 : eqKind2 Try.prog 102 = none := by kernel_rfl
theorem ma_102 : mapOf? Try.prog 102 = none := by kernel_rfl
theorem sp_102 : strPlaces Try.prog 102 = none := by kernel_rfl
theorem ze_102 : zeroOf Try.prog 102 = some ([.nilf]) := by kernel_rfl
theorem za_102 : zeroA Try.prog 102 = some (.nilf) := by kernel_rfl
theorem bn_102 : boolN Try.prog 102 = none := by kernel_rfl
theorem sz_107 : szOf Try.prog 107 = some (2) := by kernel_rfl
theorem ag_107 : aggOf Try.prog 107 = some (true) := by kernel_rfl
theorem by_107 : bytesOf? Try.prog 107 = some (16) := by kernel_rfl
theorem bo_107 : boolTy Try.prog 107 = false := by kernel_rfl
theorem sl_107 : slOf Try.prog 107 = none := by kernel_rfl
theorem ar_107 : arrOf Try.prog 107 = none := by kernel_rfl
theorem ae_107 : arrEl Try.prog 107 = none := by kernel_rfl
theorem in_107 : intOf? Try.prog 107 = none := by kernel_rfl
theorem ek_107 : eqKind Try.prog 107 = some (2) := by kernel_rfl
theorem e2_107 : eqKind2 Try.prog 107 = some (2) := by kernel_rfl
theorem ma_107 : mapOf? Try.prog 107 = none := by kernel_rfl
theorem sp_107 : strPlaces Try.prog 107 = some ([(0, 1), (1, 1)]) := by kernel_rfl
theorem ze_107 : zeroOf Try.prog 107 = some ([(.int .i64 0), (.int .i64 0)]) := by kernel_rfl
theorem za_107 : zeroA Try.prog 107 = some ((.agg [(.int .i64 0), (.int .i64 0)])) := by kernel_rfl
theorem bn_107 : boolN Try.prog 107 = none := by kernel_rfl
theorem fl_107_0 : fldOf Try.prog 107 0 = some ((0, 3)) := by kernel_rfl
theorem of_107_0 : offOf Try.prog 107 0 = some (0) := by kernel_rfl
theorem fl_107_1 : fldOf Try.prog 107 1 = some ((1, 3)) := by kernel_rfl
theorem of_107_1 : offOf Try.prog 107 1 = some (1) := by kernel_rfl
theorem sz_108 : szOf Try.prog 108 = some (1) := by kernel_rfl
theorem ag_108 : aggOf Try.prog 108 = some (false) := by kernel_rfl
theorem by_108 : bytesOf? Try.prog 108 = some (2) := by kernel_rfl
theorem bo_108 : boolTy Try.prog 108 = false := by kernel_rfl
theorem sl_108 : slOf Try.prog 108 = none := by kernel_rfl
theorem ar_108 : arrOf Try.prog 108 = none := by kernel_rfl
theorem ae_108 : arrEl Try.prog 108 = none := by kernel_rfl
theorem in_108 : intOf? Try.prog 108 = some (.u16) := by kernel_rfl
theorem ek_108 : eqKind Try.prog 108 = none := by kernel_rfl
theorem e2_108 : eqKind2 Try.prog 108 = none := by kernel_rfl
theorem ma_108 : mapOf? Try.prog 108 = none := by kernel_rfl
theorem sp_108 : strPlaces Try.prog 108 = none := by kernel_rfl
theorem ze_108 : zeroOf Try.prog 108 = some ([(.int .u16 0)]) := by kernel_rfl
theorem za_108 : zeroA Try.prog 108 = some ((.int .u16 0)) := by kernel_rfl
theorem bn_108 : boolN Try.prog 108 = none := by kernel_rfl
theorem sz_109 : szOf Try.prog 109 = some (1) := by kernel_rfl
theorem ag_109 : aggOf Try.prog 109 = some (false) := by kernel_rfl
theorem by_109 : bytesOf? Try.prog 109 = some (8) := by kernel_rfl
theorem bo_109 : boolTy Try.prog 109 = false := by kernel_rfl
theorem sl_109 : slOf Try.prog 109 = none := by kernel_rfl
theorem ar_109 : arrOf Try.prog 109 = none := by kernel_rfl
theorem ae_109 : arrEl Try.prog 109 = none := by kernel_rfl
theorem in_109 : intOf? Try.prog 109 = none := by kernel_rfl
theorem ek_109 : eqKind Try.prog 109 = none := by kernel_rfl
theorem e2_109 : eqKind2 Try.prog 109 = none := by kernel_rfl
theorem ma_109 : mapOf? Try.prog 109 = some ((107, 3)) := by kernel_rfl
theorem sp_109 : strPlaces Try.prog 109 = none := by kernel_rfl
theorem ze_109 : zeroOf Try.prog 109 = some ([.undef]) := by kernel_rfl
theorem za_109 : zeroA Try.prog 109 = some (.undef) := by kernel_rfl
theorem bn_109 : boolN Try.prog 109 = none := by kernel_rfl
theorem sz_111 : szOf Try.prog 111 = some (5) := by kernel_rfl
theorem ag_111 : aggOf Try.prog 111 = some (true) := by kernel_rfl
theorem by_111 : bytesOf? Try.prog 111 = some (56) := by kernel_rfl
theorem bo_111 : boolTy Try.prog 111 = false := by kernel_rfl
theorem sl_111 : slOf Try.prog 111 = none := by kernel_rfl
theorem ar_111 : arrOf Try.prog 111 = none := by kernel_rfl
theorem ae_111 : arrEl Try.prog 111 = none := by kernel_rfl
theorem in_111 : intOf? Try.prog 111 = none := by kernel_rfl
theorem ek_111 : eqKind Try.prog 111 = none := by kernel_rfl
theorem e2_111 : eqKind2 Try.prog 111 = none := by kernel_rfl
theorem ma_111 : mapOf? Try.prog 111 = none := by kernel_rfl
theorem sp_111 : strPlaces Try.prog 111 = some ([(0, 4), (4, 1)]) := by kernel_rfl
theorem ze_111 : zeroOf Try.prog 111 = some ([(.sl [] .full), (.int .i64 0), (.int .i64 0), (.int .i64 0), .undef]) := by kernel_rfl
theorem za_111 : zeroA Try.prog 111 = some ((.agg [(.sl [] .full), (.int .i64 0), (.int .i64 0), (.int .i64 0), .undef])) := by kernel_rfl
theorem bn_111 : boolN Try.prog 111 = none := by kernel_rfl
theorem fl_111_0 : fldOf Try.prog 111 0 = some ((0, 41)) := by kernel_rfl
theorem of_111_0 : offOf Try.prog 111 0 = some (0) := by kernel_rfl
theorem fl_111_1 : fldOf Try.prog 111 1 = some ((4, 109)) := by kernel_rfl
theorem of_111_1 : offOf Try.prog 111 1 = some (4) := by kernel_rfl
theorem sz_118 : szOf Try.prog 118 = some (1) := by kernel_rfl
theorem ag_118 : aggOf Try.prog 118 = some (false) := by kernel_rfl
theorem by_118 : bytesOf? Try.prog 118 = some (8) := by kernel_rfl
theorem bo_118 : boolTy Try.prog 118 = false := by kernel_rfl
theorem sl_118 : slOf Try.prog 118 = none := by kernel_rfl
theorem ar_118 : arrOf Try.prog 118 = none := by kernel_rfl
theorem ae_118 : arrEl Try.prog 118 = none := by kernel_rfl
theorem in_118 : intOf? Try.prog 118 = some (.u64) := by kernel_rfl
theorem ek_118 : eqKind Try.prog 118 = none := by kernel_rfl
theorem e2_118 : eqKind2 Try.prog 118 = none := by kernel_rfl
theorem ma_118 : mapOf? Try.prog 118 = none := by kernel_rfl
theorem sp_118 : strPlaces Try.prog 118 = none := by kernel_rfl
theorem ze_118 : zeroOf Try.prog 118 = some ([(.int .u64 0)]) := by kernel_rfl
theorem za_118 : zeroA Try.prog 118 = some ((.int .u64 0)) := by kernel_rfl
theorem bn_118 : boolN Try.prog 118 = none := by kernel_rfl
theorem sz_119 : szOf Try.prog 119 = some (1) := by kernel_rfl
theorem ag_119 : aggOf Try.prog 119 = some (false) := by kernel_rfl
theorem by_119 : bytesOf? Try.prog 119 = some (8) := by kernel_rfl
theorem bo_119 : boolTy Try.prog 119 = false := by kernel_rfl
theorem sl_119 : slOf Try.prog 119 = none := by kernel_rfl
theorem ar_119 : arrOf Try.prog 119 = none := by kernel_rfl
theorem ae_119 : arrEl Try.prog 119 = none := by kernel_rfl
theorem in_119 : intOf? Try.prog 119 = none := by kernel_rfl
theorem ek_119 : eqKind Try.prog 119 = none := by kernel_rfl
theorem e2_119 : eqKind2 Try.prog 119 = none := by kernel_rfl
theorem ma_119 : mapOf? Try.prog 119 = none := by kernel_rfl
theorem sp_119 : strPlaces Try.prog 119 = none := by kernel_rfl
theorem ze_119 : zeroOf Try.prog 119 = some ([.nilf]) := by kernel_rfl
theorem za_119 : zeroA Try.prog 119 = some (.nilf) := by kernel_rfl
theorem bn_119 : boolN Try.prog 119 = none := by kernel_rfl
theorem sz_121 : szOf Try.prog 121 = some (1) := by kernel_rfl
theorem ag_121 : aggOf Try.prog 121 = some (true) := by kernel_rfl
theorem by_121 : bytesOf? Try.prog 121 = some (8) := by kernel_rfl
theorem bo_121 : boolTy Try.prog 121 = false := by kernel_rfl
theorem sl_121 : slOf Try.prog 121 = none := by kernel_rfl
theorem ar_121 : arrOf Try.prog 121 = none := by kernel_rfl
theorem ae_121 : arrEl Try.prog 121 = none := by kernel_rfl
theorem in_121 : intOf? Try.prog 121 = none := by kernel_rfl
theorem ek_121 : eqKind Try.prog 121 = none := by kernel_rfl
theorem e2_121 : eqKind2 Try.prog 121 = none := by kernel_rfl
theorem ma_121 : mapOf? Try.prog 121 = none := by kernel_rfl
theorem sp_121 : strPlaces Try.prog 121 = some ([(0, 1)]) := by kernel_rfl
theorem ze_121 : zeroOf Try.prog 121 = some ([.nilf]) := by kernel_rfl
theorem za_121 : zeroA Try.prog 121 = some ((.agg [.nilf])) := by kernel_rfl
theorem bn_121 : boolN Try.prog 121 = none := by kernel_rfl
theorem fl_121_0 : fldOf Try.prog 121 0 = some ((0, 119)) := by kernel_rfl
theorem of_121_0 : offOf Try.prog 121 0 = some (0) := by kernel_rfl
theorem sz_123 : szOf Try.prog 123 = some (1) := by kernel_rfl
theorem ag_123 : aggOf Try.prog 123 = some (false) := by kernel_rfl
theorem by_123 : bytesOf? Try.prog 123 = some (8) := by kernel_rfl
theorem bo_123 : boolTy Try.prog 123 = false := by kernel_rfl
theorem sl_123 : slOf Try.prog 123 = none := by kernel_rfl
theorem ar_123 : arrOf Try.prog 123 = none := by kernel_rfl
theorem ae_123 : arrEl Try.prog 123 = none := by kernel_rfl
theorem in_123 : intOf? Try.prog 123 = none := by kernel_rfl
theorem ek_123 : eqKind Try.prog 123 = none := by kernel_rfl
theorem e2_123 : eqKind2 Try.prog 123 = none := by kernel_rfl
theorem ma_123 : mapOf? Try.prog 123 = none := by kernel_rfl
theorem sp_123 : strPlaces Try.prog 123 = none := by kernel_rfl
theorem ze_123 : zeroOf Try.prog 123 = some ([.nilf]) := by kernel_rfl
theorem za_123 : zeroA Try.prog 123 = some (.nilf) := by kernel_rfl
theorem bn_123 : boolN Try.prog 123 = none := by kernel_rfl
theorem sz_127 : szOf Try.prog 127 = some (1) := by kernel_rfl
theorem ag_127 : aggOf Try.prog 127 = some (false) := by kernel_rfl
theorem by_127 : bytesOf? Try.prog 127 = some (8) := by kernel_rfl
theorem bo_127 : boolTy Try.prog 127 = false := by kernel_rfl
theorem sl_127 : slOf Try.prog 127 = none := by kernel_rfl
theorem ar_127 : arrOf Try.prog 127 = none := by kernel_rfl
theorem ae_127 : arrEl Try.prog 127 = none := by kernel_rfl
theorem in_127 : intOf? Try.prog 127 = some (.i64) := by kernel_rfl
theorem ek_127 : eqKind Try.prog 127 = none := by kernel_rfl
theorem e2_127 : eqKind2 Try.prog 127 = none := by kernel_rfl
theorem ma_127 : mapOf? Try.prog 127 = none := by kernel_rfl
theorem sp_127 : strPlaces Try.prog 127 = none := by kernel_rfl
theorem ze_127 : zeroOf Try.prog 127 = some ([(.int .i64 0)]) := by kernel_rfl
theorem za_127 : zeroA Try.prog 127 = some ((.int .i64 0)) := by kernel_rfl
theorem bn_127 : boolN Try.prog 127 = none := by kernel_rfl
theorem sz_135 : szOf Try.prog 135 = some (1) := by kernel_rfl
theorem ag_135 : aggOf Try.prog 135 = some (false) := by kernel_rfl
theorem by_135 : bytesOf? Try.prog 135 = some (4) := by kernel_rfl
theorem bo_135 : boolTy Try.prog 135 = false := by kernel_rfl
theorem sl_135 : slOf Try.prog 135 = none := by kernel_rfl
theorem ar_135 : arrOf Try.prog 135 = none := by kernel_rfl
theorem ae_135 : arrEl Try.prog 135 = none := by kernel_rfl
theorem in_135 : intOf? Try.prog 135 = some (.u32) := by kernel_rfl
theorem ek_135 : eqKind Try.prog 135 = none := by kernel_rfl
theorem e2_135 : eqKind2 Try.prog 135 = none := by kernel_rfl
theorem ma_135 : mapOf? Try.prog 135 = none := by kernel_rfl
theorem sp_135 : strPlaces Try.prog 135 = none := by kernel_rfl
theorem ze_135 : zeroOf Try.prog 135 = some ([(.int .u32 0)]) := by kernel_rfl
theorem za_135 : zeroA Try.prog 135 = some ((.int .u32 0)) := by kernel_rfl
theorem bn_135 : boolN Try.prog 135 = none := by kernel_rfl
theorem sz_137 : szOf Try.prog 137 = some (1) := by kernel_rfl
theorem ag_137 : aggOf Try.prog 137 = some (false) := by kernel_rfl
theorem by_137 : bytesOf? Try.prog 137 = some (8) := by kernel_rfl
theorem bo_137 : boolTy Try.prog 137 = false := by kernel_rfl
theorem sl_137 : slOf Try.prog 137 = none := by kernel_rfl
theorem ar_137 : arrOf Try.prog 137 = none := by kernel_rfl
theorem ae_137 : arrEl Try.prog 137 = none := by kernel_rfl
theorem in_137 : intOf? Try.prog 137 = some (.u64) := by kernel_rfl
theorem ek_137 : eqKind Try.prog 137 = none := by kernel_rfl
theorem e2_137 : eqKind2 Try.prog 137 = none := by kernel_rfl
theorem ma_137 : mapOf? Try.prog 137 = none := by kernel_rfl
theorem sp_137 : strPlaces Try.prog 137 = none := by kernel_rfl
theorem ze_137 : zeroOf Try.prog 137 = some ([(.int .u64 0)]) := by kernel_rfl
theorem za_137 : zeroA Try.prog 137 = some ((.int .u64 0)) := by kernel_rfl
theorem bn_137 : boolN Try.prog 137 = none := by kernel_rfl
theorem sz_140 : szOf Try.prog 140 = some (1) := by kernel_rfl
theorem ag_140 : aggOf Try.prog 140 = some (false) := by kernel_rfl
theorem by_140 : bytesOf? Try.prog 140 = some (8) := by kernel_rfl
theorem bo_140 : boolTy Try.prog 140 = false := by kernel_rfl
theorem sl_140 : slOf Try.prog 140 = none := by kernel_rfl
theorem ar_140 : arrOf Try.prog 140 = none := by kernel_rfl
theorem ae_140 : arrEl Try.prog 140 = none := by kernel_rfl
theorem in_140 : intOf? Try.prog 140 = some (.u64) := by kernel_rfl
theorem ek_140 : eqKind Try.prog 140 = none := by kernel_rfl
theorem e2_140 : eqKind2 Try.prog 140 = none := by kernel_rfl
theorem ma_140 : mapOf? Try.prog 140 = none := by kernel_rfl
theorem sp_140 : strPlaces Try.prog 140 = none := by kernel_rfl
theorem ze_140 : zeroOf Try.prog 140 = some ([(.int .u64 0)]) := by kernel_rfl
theorem za_140 : zeroA Try.prog 140 = some ((.int .u64 0)) := by kernel_rfl
theorem bn_140 : boolN Try.prog 140 = none := by kernel_rfl
theorem sz_144 : szOf Try.prog 144 = some (1) := by kernel_rfl
theorem ag_144 : aggOf Try.prog 144 = some (false) := by kernel_rfl
theorem by_144 : bytesOf? Try.prog 144 = some (8) := by kernel_rfl
theorem bo_144 : boolTy Try.prog 144 = false := by kernel_rfl
theorem sl_144 : slOf Try.prog 144 = none := by kernel_rfl
theorem ar_144 : arrOf Try.prog 144 = none := by kernel_rfl
theorem ae_144 : arrEl Try.prog 144 = none := by kernel_rfl
theorem in_144 : intOf? Try.prog 144 = none := by kernel_rfl
theorem ek_144 : eqKind Try.prog 144 = none := by kernel_rfl
theorem e2_144 : eqKind2 Try.prog 144 = none := by kernel_rfl
theorem ma_144 : mapOf? Try.prog 144 = none := by kernel_rfl
theorem sp_144 : strPlaces Try.prog 144 = none := by kernel_rfl
theorem ze_144 : zeroOf Try.prog 144 = some ([.nilp]) := by kernel_rfl
theorem za_144 : zeroA Try.prog 144 = some (.nilp) := by kernel_rfl
theorem bn_144 : boolN Try.prog 144 = none := by kernel_rfl
attribute [go_sem] sz_0 ag_0 by_0 bo_0 sl_0 ar_0 ae_0 in_0 ek_0 e2_0 ma_0 sp_0 ze_0 za_0 bn_0 sz_1 ag_1 by_1 bo_1 sl_1 ar_1 ae_1 in_1 ek_1 e2_1 ma_1 sp_1 ze_1 za_1 bn_1 sz_2 ag_2 by_2 bo_2 sl_2 ar_2 ae_2 in_2 ek_2 e2_2 ma_2 sp_2 ze_2 za_2 bn_2 sz_3 ag_3 by_3 bo_3 sl_3 ar_3 ae_3 in_3 ek_3 e2_3 ma_3 sp_3 ze_3 za_3 bn_3 sz_4 ag_4 by_4 bo_4 sl_4 ar_4 ae_4 in_4 ek_4 e2_4 ma_4 sp_4 ze_4 za_4 bn_4 sz_5 ag_5 by_5 bo_5 sl_5 ar_5 ae_5 in_5 ek_5 e2_5 ma_5 sp_5 ze_5 za_5 bn_5 sz_9 ag_9 by_9 bo_9 sl_9 ar_9 ae_9 in_9 ek_9 e2_9 ma_9 sp_9 ze_9 za_9 bn_9 sz_22 ag_22 by_22 bo_22 sl_22 ar_22 ae_22 in_22 ek_22 e2_22 ma_22 sp_22 ze_22 za_22 bn_22 sz_24 ag_24 by_24 bo_24 sl_24 ar_24 ae_24 in_24 ek_24 e2_24 ma_24 sp_24 ze_24 za_24 bn_24 fl_24_0 of_24_0 fl_24_1 of_24_1 sz_26 ag_26 by_26 bo_26 sl_26 ar_26 ae_26 in_26 ek_26 e2_26 ma_26 sp_26 ze_26 za_26 bn_26 fl_26_0 of_26_0 fl_26_1 of_26_1 fl_26_2 of_26_2 sz_27 ag_27 by_27 bo_27 sl_27 ar_27 ae_27 in_27 ek_27 e2_27 ma_27 sp_27 ze_27 za_27 bn_27 sz_30 ag_30 by_30 bo_30 sl_30 ar_30 ae_30 in_30 ek_30 e2_30 ma_30 sp_30 ze_30 za_30 bn_30 sz_34 ag_34 by_34 bo_34 sl_34 ar_34 ae_34 in_34 ek_34 e2_34 ma_34 sp_34 ze_34 za_34 bn_34 fl_34_0 of_34_0 fl_34_1 of_34_1 sz_35 ag_35 by_35 bo_35 sl_35 ar_35 ae_35 in_35 ek_35 e2_35 ma_35 sp_35 ze_35 za_35 bn_35 sz_38 ag_38 by_38 bo_38 sl_38 ar_38 ae_38 in_38 ek_38 e2_38 ma_38 sp_38 ze_38 za_38 bn_38 sz_39 ag_39 by_39 bo_39 sl_39 ar_39 ae_39 in_39 ek_39 e2_39 ma_39 sp_39 ze_39 za_39 bn_39 fl_39_0 of_39_0 fl_39_1 of_39_1 sz_41 ag_41 by_41 bo_41 sl_41 ar_41 ae_41 in_41 ek_41 e2_41 ma_41 sp_41 ze_41 za_41 bn_41 fl_41_0 of_41_0 fl_41_1 of_41_1 fl_41_2 of_41_2 sz_53 ag_53 by_53 bo_53 sl_53 ar_53 ae_53 in_53 ek_53 e2_53 ma_53 sp_53 ze_53 za_53 bn_53 sz_56 ag_56 by_56 bo_56 sl_56 ar_56 ae_56 in_56 ek_56 e2_56 ma_56 sp_56 ze_56 za_56 bn_56 fl_56_0 of_56_0 fl_56_1 of_56_1 sz_59 ag_59 by_59 bo_59 sl_59 ar_59 ae_59 in_59 ek_59 e2_59 ma_59 sp_59 ze_59 za_59 bn_59 fl_59_0 of_59_0 fl_59_1 of_59_1 sz_60 ag_60 by_60 bo_60 sl_60 ar_60 ae_60 in_60 ek_60 e2_60 ma_60 sp_60 ze_60 za_60 bn_60 sz_64 ag_64 by_64 bo_64 sl_64 ar_64 ae_64 in_64 ek_64 e2_64 ma_64 sp_64 ze_64 za_64 bn_64 sz_68 ag_68 by_68 bo_68 sl_68 ar_68 ae_68 in_68 ek_68 e2_68 ma_68 sp_68 ze_68 za_68 bn_68 fl_68_0 of_68_0 fl_68_1 of_68_1 sz_80 ag_80 by_80 bo_80 sl_80 ar_80 ae_80 in_80 ek_80 e2_80 ma_80 sp_80 ze_80 za_80 bn_80 sz_92 ag_92 by_92 bo_92 sl_92 ar_92 ae_92 in_92 ek_92 e2_92 ma_92 sp_92 ze_92 za_92 bn_92 sz_96 ag_96 by_96 bo_96 sl_96 ar_96 ae_96 in_96 ek_96 e2_96 ma_96 sp_96 ze_96 za_96 bn_96 sz_100 ag_100 by_100 bo_100 sl_100 ar_100 ae_100 in_100 ek_100 e2_100 ma_100 sp_100 ze_100 za_100 bn_100 sz_102 ag_102 by_102 bo_102 sl_102 ar_102 ae_102 in_102 ek_102 e2_102 ma_102 sp_102 ze_102 za_102 bn_102 sz_107 ag_107 by_107 bo_107 sl_107 ar_107 ae_107 in_107 ek_107 e2_107 ma_107 sp_107 ze_107 za_107 bn_107 fl_107_0 of_107_0 fl_107_1 of_107_1 sz_108 ag_108 by_108 bo_108 sl_108 ar_108 ae_108 in_108 ek_108 e2_108 ma_108 sp_108 ze_108 za_108 bn_108 sz_109 ag_109 by_109 bo_109 sl_109 ar_109 ae_109 in_109 ek_109 e2_109 ma_109 sp_109 ze_109 za_109 bn_109 sz_111 ag_111 by_111 bo_111 sl_111 ar_111 ae_111 in_111 ek_111 e2_111 ma_111 sp_111 ze_111 za_111 bn_111 fl_111_0 of_111_0 fl_111_1 of_111_1 sz_118 ag_118 by_118 bo_118 sl_118 ar_118 ae_118 in_118 ek_118 e2_118 ma_118 sp_118 ze_118 za_118 bn_118 sz_119 ag_119 by_119 bo_119 sl_119 ar_119 ae_119 in_119 ek_119 e2_119 ma_119 sp_119 ze_119 za_119 bn_119 sz_121 ag_121 by_121 bo_121 sl_121 ar_121 ae_121 in_121 ek_121 e2_121 ma_121 sp_121 ze_121 za_121 bn_121 fl_121_0 of_121_0 sz_123 ag_123 by_123 bo_123 sl_123 ar_123 ae_123 in_123 ek_123 e2_123 ma_123 sp_123 ze_123 za_123 bn_123 sz_127 ag_127 by_127 bo_127 sl_127 ar_127 ae_127 in_127 ek_127 e2_127 ma_127 sp_127 ze_127 za_127 bn_127 sz_135 ag_135 by_135 bo_135 sl_135 ar_135 ae_135 in_135 ek_135 e2_135 ma_135 sp_135 ze_135 za_135 bn_135 sz_137 ag_137 by_137 bo_137 sl_137 ar_137 ae_137 in_137 ek_137 e2_137 ma_137 sp_137 ze_137 za_137 bn_137 sz_140 ag_140 by_140 bo_140 sl_140 ar_140 ae_140 in_140 ek_140 e2_140 ma_140 sp_140 ze_140 za_140 bn_140 sz_144 ag_144 by_144 bo_144 sl_144 ar_144 ae_144 in_144 ek_144 e2_144 ma_144 sp_144 ze_144 za_144 bn_144
end Go.Proofs
namespace Go.Proofs
open Go.Fs
set_option linter.unusedSimpArgs false
set_option linter.unusedVariables false
set_option maxHeartbeats 4000000
set_option maxRecDepth 8000
def P0 : Specs := noSpecs
theorem P0_app (g : FuncId) : P0 g = none := rfl
theorem P0_ok : SpecsOk Try.prog P0 := noSpecs_ok _
theorem P0_flag (d : Option Nat) : flagOf P0 d = none := flagOf_noSpecs d
attribute [go_sem] P0_app P0_flag
theorem one_i (k : IntKind) (n : Int) : (AV.int k n).one = true := rfl
theorem one_b (b : Bool) : (AV.bool b).one = true := rfl
theorem one_sl (es : List (List AV)) (tk : Tk) : (AV.sl es tk).one = true := rfl
theorem one_ptr (l o : Nat) : (AV.ptr l o).one = true := rfl
theorem one_ref (es : List AV) (o : Nat) : (AV.ref es o).one = true := rfl
theorem one_nilp : AV.nilp.one = true := rfl
theorem one_nilf : AV.nilf.one = true := rfl
theorem one_mp (l : Nat) : (AV.mp l).one = true := rfl
theorem one_fn (f : Fn) (a b : List AV) : (AV.fn f a b).one = true := rfl
theorem zdrop : True = True := rfl
theorem snap_trues (l : List Bool) : True = True := rfl
theorem imm_trues (l : List Bool) : True = True := rfl
def inB (n lo hi : Int) : Bool := decide (lo ≤ n) && decide (n ≤ hi)
theorem inB_iff (n lo hi : Int) : inB n lo hi = true ↔ lo ≤ n ∧ n ≤ hi := by simp [inB]
theorem In_call (n lo hi : Int) : CallP Try.prog 52 [Enc.enc n, Enc.enc lo, Enc.enc hi] (· = Enc.enc (inB n lo hi)) := by
  simp only [enc_fnl, enc_fnb, enc_fnc, enc_refc, enc_arr, enc_int, enc_bool, enc_list, enc_sk, enc_sp, enc_rg, enc_sh, enc_tr, enc_refs, enc_fns, enc_wks]
  refine callP_of_vc (Φ := P0) Try.func52 rfl (by rfl) (by rw [Try.ntmps52]; simp) mixed P0_ok (by simp [AV.strip, AV.strip1, Tk.strip]) ?_
  rw [Try.ntmps52]
  simp only [Try.f52, startSt, tmFrom]
  simp (maxSteps := 4000000) only [go_sem, AV.one, drawV, intsOf, keyIdx, over, putO, memAt, List.map_cons, List.length_cons, ↓reduceIte, snap_trues, imm_trues, zdrop, one_i, one_b, one_sl, one_ptr, one_ref, one_nilp, one_mp, one_fn, one_nilf]
  grind [inB]
def hoursB (r : Rg) : Bool := decide (0 ≤ r.lo) && decide (r.lo ≤ r.hi) && decide (r.hi ≤ 9)
theorem isHours_call (r : Rg) : CallP Try.prog 53 [Enc.enc r] (· = Enc.enc (hoursB r)) := by
  simp only [enc_fnl, enc_fnb, enc_fnc, enc_refc, enc_arr, enc_int, enc_bool, enc_list, enc_sk, enc_sp, enc_rg, enc_sh, enc_tr, enc_refs, enc_fns, enc_wks]
  refine callP_of_vc (Φ := P0) Try.func53 rfl (by rfl) (by rw [Try.ntmps53]; simp) mixed P0_ok (by simp [AV.strip, AV.strip1, Tk.strip]) ?_
  rw [Try.ntmps53]
  simp only [Try.f53, startSt, tmFrom]
  simp (maxSteps := 4000000) only [go_sem, AV.one, drawV, intsOf, keyIdx, over, putO, memAt, List.map_cons, List.length_cons, ↓reduceIte, snap_trues, imm_trues, zdrop, one_i, one_b, one_sl, one_ptr, one_ref, one_nilp, one_mp, one_fn, one_nilf]
  grind [hoursB]
def P1 : Specs := addSpec 52 (spec3 (fun _ _ _ => True) inB) (addSpec 53 (spec1 (fun _ => True) hoursB) (P0))
theorem P1_app (g : FuncId) : P1 g = (addSpec 52 (spec3 (fun _ _ _ => True) inB) (addSpec 53 (spec1 (fun _ => True) hoursB) (P0))) g := rfl
theorem P1_ok : SpecsOk Try.prog P1 := addSpec_ok (spec3_ok fun a b c _ => In_call a b c) (addSpec_ok (spec1_ok fun a _ => isHours_call a) (P0_ok))
attribute [go_sem] P1_app
theorem P1_flag (d : Option Nat) : flagOf P1 d = none := (flagOf_add (by decide) d).trans ((flagOf_add (by decide) d).trans (P0_flag d))
attribute [go_sem] P1_flag
def stackB (x : Sk) : Bool := inB x.chairs 0 99 && hoursB x.leak
def faultS (s : Sh) : Int := if 8 < s.stacks.length then 3 else if (inB s.hands 0 3 && hoursB s.rain) = true then (if s.stacks.all stackB = true then 0 else 1) else 1
theorem take_all {α : Type} [Inhabited α] (p : α → Bool) (l : List α) {i : Nat} (hi : i < l.length) : (l.take (i + 1)).all p = ((l.take i).all p && p (at_ l i)) := by
  rw [take_succ_at hi, List.all_append]; simp
theorem all_false {α : Type} [Inhabited α] {p : α → Bool} {l : List α} {i : Nat} (hi : i < l.length) (h : p (at_ l i) = false) : l.all p = false := by
  rw [List.all_eq_false]
  exact ⟨_, at_mem hi, by rw [h]; simp⟩
theorem Fault_call (s : Sh) (h : s.stacks.length ≤ 4096) : CallP Try.prog 26 [Enc.enc s] (· = Enc.enc (faultS s)) := by
  unfold faultS
  cases c0 : decide (8 < (s.stacks.length : Int))
  · rw [if_neg (by simp at c0; omega)]
    cases c1 : inB s.hands 0 3 <;> cases c2 : hoursB s.rain
    · simp only [enc_fnl, enc_fnb, enc_fnc, enc_refc, enc_arr, enc_int, enc_bool, enc_list, enc_sk, enc_sp, enc_rg, enc_sh, enc_tr, enc_refs, enc_fns, enc_wks]
      refine callP_of_vc (Φ := P1) Try.func26 rfl (by rfl) (by rw [Try.ntmps26]; simp) mixed P1_ok (by simp [AV.strip, AV.strip1, Tk.strip]) ?_
      rw [Try.ntmps26]
      simp only [Try.f26, startSt, tmFrom]
      simp (maxSteps := 4000000) only [go_sem, AV.one, drawV, intsOf, keyIdx, over, putO, memAt, List.map_cons, List.length_cons, ↓reduceIte, snap_trues, imm_trues, zdrop, one_i, one_b, one_sl, one_ptr, one_ref, one_nilp, one_mp, one_fn, one_nilf, c0, c1, c2]
    · simp only [enc_fnl, enc_fnb, enc_fnc, enc_refc, enc_arr, enc_int, enc_bool, enc_list, enc_sk, enc_sp, enc_rg, enc_sh, enc_tr, enc_refs, enc_fns, enc_wks]
      refine callP_of_vc (Φ := P1) Try.func26 rfl (by rfl) (by rw [Try.ntmps26]; simp) mixed P1_ok (by simp [AV.strip, AV.strip1, Tk.strip]) ?_
      rw [Try.ntmps26]
      simp only [Try.f26, startSt, tmFrom]
      simp (maxSteps := 4000000) only [go_sem, AV.one, drawV, intsOf, keyIdx, over, putO, memAt, List.map_cons, List.length_cons, ↓reduceIte, snap_trues, imm_trues, zdrop, one_i, one_b, one_sl, one_ptr, one_ref, one_nilp, one_mp, one_fn, one_nilf, c0, c1, c2]
    · simp only [enc_fnl, enc_fnb, enc_fnc, enc_refc, enc_arr, enc_int, enc_bool, enc_list, enc_sk, enc_sp, enc_rg, enc_sh, enc_tr, enc_refs, enc_fns, enc_wks]
      refine callP_of_vc (Φ := P1) Try.func26 rfl (by rfl) (by rw [Try.ntmps26]; simp) mixed P1_ok (by simp [AV.strip, AV.strip1, Tk.strip]) ?_
      rw [Try.ntmps26]
      simp only [Try.f26, startSt, tmFrom]
      simp (maxSteps := 4000000) only [go_sem, AV.one, drawV, intsOf, keyIdx, over, putO, memAt, List.map_cons, List.length_cons, ↓reduceIte, snap_trues, imm_trues, zdrop, one_i, one_b, one_sl, one_ptr, one_ref, one_nilp, one_mp, one_fn, one_nilf, c0, c1, c2]
    · simp only [enc_fnl, enc_fnb, enc_fnc, enc_refc, enc_arr, enc_int, enc_bool, enc_list, enc_sk, enc_sp, enc_rg, enc_sh, enc_tr, enc_refs, enc_fns, enc_wks]
      refine callP_of_vc (Φ := P1) Try.func26 rfl (by rfl) (by rw [Try.ntmps26]; simp) mixed P1_ok (by simp [AV.strip, AV.strip1, Tk.strip]) ?_
      rw [Try.ntmps26]
      simp only [Try.f26, startSt, tmFrom]
      simp (maxSteps := 4000000) only [go_sem, AV.one, drawV, intsOf, keyIdx, over, putO, memAt, List.map_cons, List.length_cons, ↓reduceIte, snap_trues, imm_trues, zdrop, one_i, one_b, one_sl, one_ptr, one_ref, one_nilp, one_mp, one_fn, one_nilf, c0, c1, c2]
      refine loopN (s.stacks.length) [] [1, 2] (fun i => [(3, .int .i64 i)]) (fun _ m => m) (fun i => (s.stacks.take i).all stackB = true) ?_ ?_ ?_ ?_
      · rfl
      · simp [AV.bare, bel_ints, cs_arr, dep_arr, cs_int, cs_bool, cs_list, cs_sk, cs_sp, AtHead, Same, AllO, Begins, LtAll, headSt, tokz_nil, tokz_cons, tokz1, lk, dep_int, dep_bool, dep_list, dep_sk, dep_sp, memAt, bel_map, bel_mapF, bel_mapO, bel_undef, bel_int, bel_boolv, bel_nilp, bel_nilf, bel_ptr, bel_arr, bel_mp, bel_yld, bel_agg, bel_tup, bel_ref, bel_only, bel_mpr, bel_fn, bel_sl_nil, bel_sl_nilF, bel_sl_nilO, bel_sl_cons, bel_sl_app, belO_cells, belO_tok, belO_dead, belO_deferred, belO_map, belO_iter, belO_loop, bel_vec, bel_vp, belO_vecM, belO_vec]
      · intro i hi hI
        have hi' := Int.ofNat_lt.2 hi
        cases c3 : inB (at_ s.stacks i).chairs 0 99 <;> cases c4 : hoursB (at_ s.stacks i).leak <;>
          simp (maxSteps := 4000000) only [go_sem, AV.one, drawV, intsOf, keyIdx, over, putO, memAt, List.map_cons, List.length_cons, ↓reduceIte, snap_trues, imm_trues, zdrop, one_i, one_b, one_sl, one_ptr, one_ref, one_nilp, one_mp, one_fn, one_nilf, getD_mapA hi, hi', c3, c4]
        all_goals all_goals (repeat' (first | with_reducible rfl | with_reducible apply And.intro | ((with_reducible show drawOK _ _ = true); rfl))) <;> (try first | omega | (simp only [InR]; omega) | with_reducible assumption)
        · rw [if_neg (by rw [all_false hi (by simp [stackB, c3])]; simp)]
        · rw [if_neg (by rw [all_false hi (by simp [stackB, c3])]; simp)]
        · rw [if_neg (by rw [all_false hi (by simp [stackB, c4])]; simp)]
        · refine nxt hi (by rw [take_all _ _ hi, hI]; simp [stackB, c3, c4]) ?_
          simp [AV.bare, bel_ints, cs_arr, dep_arr, cs_int, cs_bool, cs_list, cs_sk, cs_sp, AtHead, Same, AllO, Begins, LtAll, headSt, tokz_nil, tokz_cons, tokz1, lk, dep_int, dep_bool, dep_list, dep_sk, dep_sp, memAt, bel_map, bel_mapF, bel_mapO, bel_undef, bel_int, bel_boolv, bel_nilp, bel_nilf, bel_ptr, bel_arr, bel_mp, bel_yld, bel_agg, bel_tup, bel_ref, bel_only, bel_mpr, bel_fn, bel_sl_nil, bel_sl_nilF, bel_sl_nilO, bel_sl_cons, bel_sl_app, belO_cells, belO_tok, belO_dead, belO_deferred, belO_map, belO_iter, belO_loop, bel_vec, bel_vp, belO_vecM, belO_vec]
      · intro hI
        rw [List.take_length] at hI
        simp (maxSteps := 4000000) only [go_sem, AV.one, drawV, intsOf, keyIdx, over, putO, memAt, List.map_cons, List.length_cons, ↓reduceIte, snap_trues, imm_trues, zdrop, one_i, one_b, one_sl, one_ptr, one_ref, one_nilp, one_mp, one_fn, one_nilf]
        simp [hI]
  · rw [if_pos (by simp at c0; omega)]
    simp only [enc_fnl, enc_fnb, enc_fnc, enc_refc, enc_arr, enc_int, enc_bool, enc_list, enc_sk, enc_sp, enc_rg, enc_sh, enc_tr, enc_refs, enc_fns, enc_wks]
    refine callP_of_vc (Φ := P1) Try.func26 rfl (by rfl) (by rw [Try.ntmps26]; simp) mixed P1_ok (by simp [AV.strip, AV.strip1, Tk.strip]) ?_
    rw [Try.ntmps26]
    simp only [Try.f26, startSt, tmFrom]
    simp (maxSteps := 4000000) only [go_sem, AV.one, drawV, intsOf, keyIdx, over, putO, memAt, List.map_cons, List.length_cons, ↓reduceIte, snap_trues, imm_trues, zdrop, one_i, one_b, one_sl, one_ptr, one_ref, one_nilp, one_mp, one_fn, one_nilf, c0]
theorem fault_ok {s : Sh} (h : faultS s = 0) : ShOk s := by
  unfold faultS at h
  split at h
  · cases h
  · split at h
    · rename_i h8 h1
      split at h
      · rename_i h2
        simp only [Bool.and_eq_true, inB_iff, hoursB, decide_eq_true_eq] at h1
        rw [List.all_eq_true] at h2
        refine ⟨by omega, h1.1.1, h1.1.2, ⟨h1.2.1.1, h1.2.1.2, h1.2.2⟩, fun x hx => ?_⟩
        have := h2 x hx
        simp only [stackB, Bool.and_eq_true, inB_iff, hoursB, decide_eq_true_eq] at this
        exact ⟨this.1, this.2.1.1, this.2.1.2, this.2.2⟩
      · cases h
    · cases h
theorem ok_fault {s : Sh} (h : ShOk s) : faultS s = 0 := by
  unfold faultS
  have h1 := h.len
  have h2 := h.r
  have h3 := h.h0
  have h4 := h.h3
  rw [if_neg (by omega), if_pos, if_pos]
  · rw [List.all_eq_true]
    intro x hx
    have := h.st x hx
    simp only [stackB, Bool.and_eq_true, inB_iff, hoursB, decide_eq_true_eq]
    exact ⟨this.1, ⟨this.2.1, this.2.2.1⟩, this.2.2.2⟩
  · simp only [Bool.and_eq_true, inB_iff, hoursB, decide_eq_true_eq]
    exact ⟨⟨h3, h4⟩, ⟨h2.1, h2.2.1⟩, h2.2.2⟩
end Go.Proofs
namespace Go.Proofs
open Go.Fs
set_option linter.unusedSimpArgs false
set_option linter.unusedVariables false
set_option maxHeartbeats 4000000
set_option maxRecDepth 8000
def P2 : Specs := addSpec 26 (spec1 (fun s : Sh => s.stacks.length ≤ 4096) faultS) (P1)
theorem P2_app (g : FuncId) : P2 g = (addSpec 26 (spec1 (fun s : Sh => s.stacks.length ≤ 4096) faultS) (P1)) g := rfl
theorem P2_ok : SpecsOk Try.prog P2 := addSpec_ok (spec1_ok fun s h => Fault_call s h) (P1_ok)
attribute [go_sem] P2_app
theorem P2_flag (d : Option Nat) : flagOf P2 d = none := (flagOf_add (by decide) d).trans (P1_flag d)
attribute [go_sem] P2_flag
def truthB (s : Sh) (t : Tr) : Bool := (inB t.rain s.rain.lo s.rain.hi && decide (t.leaks.length = s.stacks.length)) && (List.range t.leaks.length).all fun i => inB (at_ t.leaks i) (at_ s.stacks i).leak.lo (at_ s.stacks i).leak.hi
theorem range_all_succ (p : Nat → Bool) (i : Nat) : (List.range (i + 1)).all p = ((List.range i).all p && p i) := by
  rw [List.range_succ, List.all_append]; simp
theorem range_all_false {p : Nat → Bool} {n i : Nat} (hi : i < n) (h : p i = false) : (List.range n).all p = false := by
  rw [List.all_eq_false]
  exact ⟨i, List.mem_range.2 hi, by rw [h]; simp⟩
def savedB (p : List Int) (t : Tr) (i : Int) : Bool := decide (0 ≤ at_ p i.toNat) && decide (at_ p i.toNat < t.rain + at_ t.leaks i.toNat)
def manyL (plan : List Int) (p : Int) : Nat := plan.countP fun q => decide (0 ≤ q) && decide (q = p)
def planB (s : Sh) (plan : List Int) : Bool := decide (plan.length = s.stacks.length) && plan.all fun p => inB p (-1) 17 && decide ((manyL plan p : Int) ≤ s.hands)
theorem many_take (plan : List Int) (p : Int) {i : Nat} (hi : i < plan.length) : manyL (plan.take (i + 1)) p = manyL (plan.take i) p + if (decide (0 ≤ at_ plan i) && decide (at_ plan i = p)) = true then 1 else 0 := by
  unfold manyL
  rw [take_succ_at hi, List.countP_append, List.countP_singleton]
theorem many_le (plan : List Int) (p : Int) : manyL plan p ≤ plan.length := List.countP_le_length
theorem Span_call (s : Sh) (i : Int) (h : (0 ≤ i ∧ i < s.stacks.length) ∧ InR .i64 (spS s i)) : CallP Try.prog 29 [Enc.enc s, Enc.enc i] (· = Enc.enc (spS s i)) := by
  obtain ⟨⟨h0, h1⟩, h3⟩ := h
  obtain ⟨k, rfl⟩ := Int.eq_ofNat_of_zero_le h0
  have hk : k < s.stacks.length := by omega
  unfold spS at h3 ⊢
  rw [Int.toNat_natCast] at h3 ⊢
  simp only [enc_fnl, enc_fnb, enc_fnc, enc_refc, enc_arr, enc_int, enc_bool, enc_list, enc_sk, enc_sp, enc_rg, enc_sh, enc_tr, enc_refs, enc_fns, enc_wks]
  refine callP_of_vc (Φ := P2) Try.func29 rfl (by rfl) (by rw [Try.ntmps29]; simp) mixed P2_ok (by simp [AV.strip, AV.strip1, Tk.strip]) ?_
  rw [Try.ntmps29]
  simp only [Try.f29, startSt, tmFrom]
  simp (maxSteps := 4000000) only [go_sem, AV.one, drawV, intsOf, keyIdx, over, putO, memAt, List.map_cons, List.length_cons, ↓reduceIte, snap_trues, imm_trues, zdrop, one_i, one_b, one_sl, one_ptr, one_ref, one_nilp, one_mp, one_fn, one_nilf, getD_mapA hk]
  all_goals (repeat' (first | with_reducible rfl | with_reducible apply And.intro | ((with_reducible show drawOK _ _ = true); rfl))) <;> (try first | omega | (simp only [InR]; omega) | with_reducible assumption)
end Go.Proofs
namespace Go.Proofs
open Go.Fs
set_option linter.unusedSimpArgs false
set_option linter.unusedVariables false
set_option maxHeartbeats 4000000
set_option maxRecDepth 8000
def P3 : Specs := addSpec 29 (spec2 (fun (s : Sh) (i : Int) => (0 ≤ i ∧ i < s.stacks.length) ∧ InR .i64 (spS s i)) spS) (P2)
theorem P3_app (g : FuncId) : P3 g = (addSpec 29 (spec2 (fun (s : Sh) (i : Int) => (0 ≤ i ∧ i < s.stacks.length) ∧ InR .i64 (spS s i)) spS) (P2)) g := rfl
theorem P3_ok : SpecsOk Try.prog P3 := addSpec_ok (spec2_ok Span_call) (P2_ok)
attribute [go_sem] P3_app
theorem P3_flag (d : Option Nat) : flagOf P3 d = none := (flagOf_add (by decide) d).trans (P2_flag d)
attribute [go_sem] P3_flag
theorem within_call (n lo hi : Int) : CallP Try.prog 35 [Enc.enc n, Enc.enc lo, Enc.enc hi] (· = Enc.enc (inB n lo hi)) := by
  simp only [enc_fnl, enc_fnb, enc_fnc, enc_refc, enc_arr, enc_int, enc_bool, enc_list, enc_sk, enc_sp, enc_rg, enc_sh, enc_tr, enc_refs, enc_fns, enc_wks]
  refine callP_of_vc (Φ := P3) Try.func35 rfl (by rfl) (by rw [Try.ntmps35]; simp) mixed P3_ok (by simp [AV.strip, AV.strip1, Tk.strip]) ?_
  rw [Try.ntmps35]
  simp only [Try.f35, startSt, tmFrom]
  simp (maxSteps := 4000000) only [go_sem, AV.one, drawV, intsOf, keyIdx, over, putO, memAt, List.map_cons, List.length_cons, ↓reduceIte, snap_trues, imm_trues, zdrop, one_i, one_b, one_sl, one_ptr, one_ref, one_nilp, one_mp, one_fn, one_nilf]
  rfl
theorem hours_call (r : Rg) : CallP Try.prog 49 [Enc.enc r] (· = Enc.enc (hoursB r)) := by
  simp only [enc_fnl, enc_fnb, enc_fnc, enc_refc, enc_arr, enc_int, enc_bool, enc_list, enc_sk, enc_sp, enc_rg, enc_sh, enc_tr, enc_refs, enc_fns, enc_wks]
  refine callP_of_vc (Φ := P3) Try.func49 rfl (by rfl) (by rw [Try.ntmps49]; simp) mixed P3_ok (by simp [AV.strip, AV.strip1, Tk.strip]) ?_
  rw [Try.ntmps49]
  simp only [Try.f49, startSt, tmFrom]
  simp (maxSteps := 4000000) only [go_sem, AV.one, drawV, intsOf, keyIdx, over, putO, memAt, List.map_cons, List.length_cons, ↓reduceIte, snap_trues, imm_trues, zdrop, one_i, one_b, one_sl, one_ptr, one_ref, one_nilp, one_mp, one_fn, one_nilf]
  rfl
def savesB (closed water : Int) : Bool := decide (closed ≠ -1) && decide (closed < water)
theorem saves_call (a b : Int) : CallP Try.prog 39 [Enc.enc a, Enc.enc b] (· = Enc.enc (savesB a b)) := by
  simp only [enc_fnl, enc_fnb, enc_fnc, enc_refc, enc_arr, enc_int, enc_bool, enc_list, enc_sk, enc_sp, enc_rg, enc_sh, enc_tr, enc_refs, enc_fns, enc_wks]
  refine callP_of_vc (Φ := P3) Try.func39 rfl (by rfl) (by rw [Try.ntmps39]; simp) mixed P3_ok (by simp [AV.strip, AV.strip1, Tk.strip]) ?_
  rw [Try.ntmps39]
  simp only [Try.f39, startSt, tmFrom]
  simp (maxSteps := 4000000) only [go_sem, AV.one, drawV, intsOf, keyIdx, over, putO, memAt, List.map_cons, List.length_cons, ↓reduceIte, snap_trues, imm_trues, zdrop, one_i, one_b, one_sl, one_ptr, one_ref, one_nilp, one_mp, one_fn, one_nilf]
  simp [savesB]
theorem busy1_call (n : Int) (s : RefS) : CallP Try.prog 68 [Enc.enc n, Enc.enc s] (· = Enc.enc (decide (n ≤ s.x.hands))) := by
  simp only [enc_fnl, enc_fnb, enc_fnc, enc_refc, enc_arr, enc_int, enc_bool, enc_list, enc_sk, enc_sp, enc_rg, enc_sh, enc_tr, enc_refs, enc_fns, enc_wks]
  refine callP_of_vc (Φ := P3) Try.func68 rfl (by rfl) (by rw [Try.ntmps68]; simp) mixed P3_ok (by simp [AV.strip, AV.strip1, Tk.strip]) ?_
  rw [Try.ntmps68]
  simp only [Try.f68, startSt, tmFrom]
  simp (maxSteps := 4000000) only [go_sem, AV.one, drawV, intsOf, keyIdx, over, putO, memAt, List.map_cons, List.length_cons, ↓reduceIte, snap_trues, imm_trues, zdrop, one_i, one_b, one_sl, one_ptr, one_ref, one_nilp, one_mp, one_fn, one_nilf]
def P4 : Specs := addSpec 35 (spec3 (fun _ _ _ => True) inB) (addSpec 49 (spec1 (fun _ => True) hoursB) (addSpec 39 (spec2 (fun _ _ => True) savesB) (addSpec 68 (spec2 (fun _ _ => True) (fun (n : Int) (s : RefS) => decide (n ≤ s.x.hands))) (P3))))
theorem P4_app (g : FuncId) : P4 g = (addSpec 35 (spec3 (fun _ _ _ => True) inB) (addSpec 49 (spec1 (fun _ => True) hoursB) (addSpec 39 (spec2 (fun _ _ => True) savesB) (addSpec 68 (spec2 (fun _ _ => True) (fun (n : Int) (s : RefS) => decide (n ≤ s.x.hands))) (P3))))) g := rfl
theorem P4_ok : SpecsOk Try.prog P4 := addSpec_ok (spec3_ok fun a b c _ => within_call a b c) (addSpec_ok (spec1_ok fun a _ => hours_call a) (addSpec_ok (spec2_ok fun a b _ => saves_call a b) (addSpec_ok (spec2_ok fun a b _ => busy1_call a b) (P3_ok))))
attribute [go_sem] P4_app
theorem P4_flag (d : Option Nat) : flagOf P4 d = none := (flagOf_add (by decide) d).trans ((flagOf_add (by decide) d).trans ((flagOf_add (by decide) d).trans ((flagOf_add (by decide) d).trans (P3_flag d))))
attribute [go_sem] P4_flag
theorem has_call (r : Rg) (n : Int) : CallP Try.prog 48 [Enc.enc r, Enc.enc n] (· = Enc.enc (inB n r.lo r.hi)) := by
  simp only [enc_fnl, enc_fnb, enc_fnc, enc_refc, enc_arr, enc_int, enc_bool, enc_list, enc_sk, enc_sp, enc_rg, enc_sh, enc_tr, enc_refs, enc_fns, enc_wks]
  refine callP_of_vc (Φ := P4) Try.func48 rfl (by rfl) (by rw [Try.ntmps48]; simp) mixed P4_ok (by simp [AV.strip, AV.strip1, Tk.strip]) ?_
  rw [Try.ntmps48]
  simp only [Try.f48, startSt, tmFrom]
  simp (maxSteps := 4000000) only [go_sem, AV.one, drawV, intsOf, keyIdx, over, putO, memAt, List.map_cons, List.length_cons, ↓reduceIte, snap_trues, imm_trues, zdrop, one_i, one_b, one_sl, one_ptr, one_ref, one_nilp, one_mp, one_fn, one_nilf]
theorem valid_call (x : Sk) : CallP Try.prog 51 [Enc.enc x] (· = Enc.enc (stackB x)) := by
  have e : stackB x = (inB x.chairs 0 99 && hoursB x.leak) := rfl
  rw [e]
  cases c1 : inB x.chairs 0 99
  · simp only [enc_fnl, enc_fnb, enc_fnc, enc_refc, enc_arr, enc_int, enc_bool, enc_list, enc_sk, enc_sp, enc_rg, enc_sh, enc_tr, enc_refs, enc_fns, enc_wks]
    refine callP_of_vc (Φ := P4) Try.func51 rfl (by rfl) (by rw [Try.ntmps51]; simp) mixed P4_ok (by simp [AV.strip, AV.strip1, Tk.strip]) ?_
    rw [Try.ntmps51]
    simp only [Try.f51, startSt, tmFrom]
    simp (maxSteps := 4000000) only [go_sem, AV.one, drawV, intsOf, keyIdx, over, putO, memAt, List.map_cons, List.length_cons, ↓reduceIte, snap_trues, imm_trues, zdrop, one_i, one_b, one_sl, one_ptr, one_ref, one_nilp, one_mp, one_fn, one_nilf, c1]
  · simp only [enc_fnl, enc_fnb, enc_fnc, enc_refc, enc_arr, enc_int, enc_bool, enc_list, enc_sk, enc_sp, enc_rg, enc_sh, enc_tr, enc_refs, enc_fns, enc_wks]
    refine callP_of_vc (Φ := P4) Try.func51 rfl (by rfl) (by rw [Try.ntmps51]; simp) mixed P4_ok (by simp [AV.strip, AV.strip1, Tk.strip]) ?_
    rw [Try.ntmps51]
    simp only [Try.f51, startSt, tmFrom]
    simp (maxSteps := 4000000) only [go_sem, AV.one, drawV, intsOf, keyIdx, over, putO, memAt, List.map_cons, List.length_cons, ↓reduceIte, snap_trues, imm_trues, zdrop, one_i, one_b, one_sl, one_ptr, one_ref, one_nilp, one_mp, one_fn, one_nilf, c1]
def P5 : Specs := addSpec 48 (spec2 (fun (_ : Rg) (_ : Int) => True) (fun r n => inB n r.lo r.hi)) (addSpec 51 (spec1 (fun _ => True) stackB) (P4))
theorem P5_app (g : FuncId) : P5 g = (addSpec 48 (spec2 (fun (_ : Rg) (_ : Int) => True) (fun r n => inB n r.lo r.hi)) (addSpec 51 (spec1 (fun _ => True) stackB) (P4))) g := rfl
theorem P5_ok : SpecsOk Try.prog P5 := addSpec_ok (spec2_ok fun r n _ => has_call r n) (addSpec_ok (spec1_ok fun x _ => valid_call x) (P4_ok))
attribute [go_sem] P5_app
theorem P5_flag (d : Option Nat) : flagOf P5 d = none := (flagOf_add (by decide) d).trans ((flagOf_add (by decide) d).trans (P4_flag d))
attribute [go_sem] P5_flag
theorem step_call (s : Sh) (x : Sp) : CallP Try.prog 43 [Enc.enc s, Enc.enc x] (· = Enc.enc (spOk x)) := by
  have e : spOk x = (inB x.chairs 1 99 && inB x.before 0 18) := rfl
  rw [e]
  cases c1 : inB x.chairs 1 99
  · simp only [enc_fnl, enc_fnb, enc_fnc, enc_refc, enc_arr, enc_int, enc_bool, enc_list, enc_sk, enc_sp, enc_rg, enc_sh, enc_tr, enc_refs, enc_fns, enc_wks]
    refine callP_of_vc (Φ := P5) Try.func43 rfl (by rfl) (by rw [Try.ntmps43]; simp) mixed P5_ok (by simp [AV.strip, AV.strip1, Tk.strip]) ?_
    rw [Try.ntmps43]
    simp only [Try.f43, startSt, tmFrom]
    simp (maxSteps := 4000000) only [go_sem, AV.one, drawV, intsOf, keyIdx, over, putO, memAt, List.map_cons, List.length_cons, ↓reduceIte, snap_trues, imm_trues, zdrop, one_i, one_b, one_sl, one_ptr, one_ref, one_nilp, one_mp, one_fn, one_nilf, c1]
  · simp only [enc_fnl, enc_fnb, enc_fnc, enc_refc, enc_arr, enc_int, enc_bool, enc_list, enc_sk, enc_sp, enc_rg, enc_sh, enc_tr, enc_refs, enc_fns, enc_wks]
    refine callP_of_vc (Φ := P5) Try.func43 rfl (by rfl) (by rw [Try.ntmps43]; simp) mixed P5_ok (by simp [AV.strip, AV.strip1, Tk.strip]) ?_
    rw [Try.ntmps43]
    simp only [Try.f43, startSt, tmFrom]
    simp (maxSteps := 4000000) only [go_sem, AV.one, drawV, intsOf, keyIdx, over, putO, memAt, List.map_cons, List.length_cons, ↓reduceIte, snap_trues, imm_trues, zdrop, one_i, one_b, one_sl, one_ptr, one_ref, one_nilp, one_mp, one_fn, one_nilf, c1]
def P6 : Specs := addSpec 43 (spec2 (fun _ _ => True) (fun (_ : Sh) x => spOk x)) (P5)
theorem P6_app (g : FuncId) : P6 g = (addSpec 43 (spec2 (fun _ _ => True) (fun (_ : Sh) x => spOk x)) (P5)) g := rfl
theorem P6_ok : SpecsOk Try.prog P6 := addSpec_ok (spec2_ok fun s x _ => step_call s x) (P5_ok)
attribute [go_sem] P6_app
theorem P6_flag (d : Option Nat) : flagOf P6 d = none := (flagOf_add (by decide) d).trans (P5_flag d)
attribute [go_sem] P6_flag
def indexP {α : Type} [Inhabited α] (p : α → Bool) (l : List α) : Nat → Nat → Int
  | 0, _ => -1
  | f + 1, n => if p (at_ l n) then n else indexP p l f (n + 1)
theorem drop_at {α : Type} [Inhabited α] {l : List α} {i : Nat} (h : i < l.length) : l.drop i = at_ l i :: l.drop (i + 1) := by
  rw [at_get h]; exact List.drop_eq_getElem_cons h
theorem indexP_ge {α : Type} [Inhabited α] (p : α → Bool) (l : List α) : ∀ f n, f + n = l.length → decide (0 ≤ indexP p l f n) = (l.drop n).any p
  | 0, n, h => by rw [List.drop_eq_nil_of_le (by omega)]; rfl
  | f + 1, n, h => by
    rw [indexP, drop_at (show n < l.length by omega), List.any_cons]
    cases c : p (at_ l n)
    · rw [if_neg (by simp), indexP_ge p l f (n + 1) (by omega)]; rfl
    · rw [if_pos rfl]; simp
theorem any_not {α : Type} (p : α → Bool) (l : List α) : (!l.any fun x => !p x) = l.all p := by
  induction l with
  | nil => rfl
  | cons x l ih => rw [List.any_cons, List.all_cons, ← ih]; cases p x <;> rfl
theorem allS1_call (x : Sk) (f : FnL 51) : CallP Try.prog 70 [Enc.enc x, Enc.enc (RefC.mk f)] (· = Enc.enc (!stackB x)) := by
  simp only [enc_fnl, enc_fnb, enc_fnc, enc_refc, enc_arr, enc_int, enc_bool, enc_list, enc_sk, enc_sp, enc_rg, enc_sh, enc_tr, enc_refs, enc_fns, enc_wks]
  refine callP_of_vc (Φ := P6) Try.func70 rfl (by rfl) (by rw [Try.ntmps70]; simp) mixed P6_ok (by simp [AV.strip, AV.strip1, Tk.strip]) ?_
  rw [Try.ntmps70]
  simp only [Try.f70, startSt, tmFrom]
  simp (maxSteps := 4000000) only [go_sem, AV.one, drawV, intsOf, keyIdx, over, putO, memAt, List.map_cons, List.length_cons, ↓reduceIte, snap_trues, imm_trues, zdrop, one_i, one_b, one_sl, one_ptr, one_ref, one_nilp, one_mp, one_fn, one_nilf]
def P7 : Specs := addSpec 70 (spec2 (fun _ _ => True) (fun (x : Sk) (f : RefC (FnL 51)) => let f := f.x; !stackB x)) (P6)
theorem P7_app (g : FuncId) : P7 g = (addSpec 70 (spec2 (fun _ _ => True) (fun (x : Sk) (f : RefC (FnL 51)) => let f := f.x; !stackB x)) (P6)) g := rfl
theorem P7_ok : SpecsOk Try.prog P7 := addSpec_ok (spec2_ok fun x f _ => allS1_call x f.x) (P6_ok)
attribute [go_sem] P7_app
theorem P7_flag (d : Option Nat) : flagOf P7 d = none := (flagOf_add (by decide) d).trans (P6_flag d)
attribute [go_sem] P7_flag
theorem allSI_call (l : List (Sk)) (f : FnC 70 (FnL 51)) (h : l.length ≤ 4096) : CallP Try.prog 82 [Enc.enc l, Enc.enc f] (· = Enc.enc (let f := f.x; indexP (fun x => !stackB x) l l.length 0)) := by
  obtain ⟨f⟩ := f
  simp only [enc_fnl, enc_fnb, enc_fnc, enc_refc, enc_arr, enc_int, enc_bool, enc_list, enc_sk, enc_sp, enc_rg, enc_sh, enc_tr, enc_refs, enc_fns, enc_wks]
  refine callP_of_vc (Φ := P7) Try.func82 rfl (by rfl) (by rw [Try.ntmps82]; simp) mixed P7_ok (by simp [AV.strip, AV.strip1, Tk.strip]) ?_
  rw [Try.ntmps82]
  simp only [Try.f82, startSt, tmFrom]
  simp (maxSteps := 4000000) only [go_sem, AV.one, drawV, intsOf, keyIdx, over, putO, memAt, List.map_cons, List.length_cons, ↓reduceIte, snap_trues, imm_trues, zdrop, one_i, one_b, one_sl, one_ptr, one_ref, one_nilp, one_mp, one_fn, one_nilf]
  refine loopN (l.length) [] [0, 1, 4, 7] (fun i => [(8, .int .i64 i)]) (fun _ m => m) (fun i => indexP (fun x => !stackB x) l (l.length - i) i = indexP (fun x => !stackB x) l l.length 0) ?_ ?_ ?_ ?_
  · rfl
  · simp [AV.bare, bel_ints, cs_arr, dep_arr, cs_int, cs_bool, cs_list, cs_sk, cs_sp, AtHead, Same, AllO, Begins, LtAll, headSt, tokz_nil, tokz_cons, tokz1, lk, dep_int, dep_bool, dep_list, dep_sk, dep_sp, memAt, bel_map, bel_mapF, bel_mapO, bel_undef, bel_int, bel_boolv, bel_nilp, bel_nilf, bel_ptr, bel_arr, bel_mp, bel_yld, bel_agg, bel_tup, bel_ref, bel_only, bel_mpr, bel_fn, bel_sl_nil, bel_sl_nilF, bel_sl_nilO, bel_sl_cons, bel_sl_app, belO_cells, belO_tok, belO_dead, belO_deferred, belO_map, belO_iter, belO_loop, bel_vec, bel_vp, belO_vecM, belO_vec]
  · intro i hi hI
    rw [show l.length - i = (l.length - (i + 1)) + 1 by omega, indexP] at hI
    cases c : stackB (at_ l i) <;>
      simp (maxSteps := 4000000) only [go_sem, AV.one, drawV, intsOf, keyIdx, over, putO, memAt, List.map_cons, List.length_cons, ↓reduceIte, snap_trues, imm_trues, zdrop, one_i, one_b, one_sl, one_ptr, one_ref, one_nilp, one_mp, one_fn, one_nilf, getD_mapA hi, Int.ofNat_lt.2 hi, c]
    all_goals all_goals (repeat' (first | with_reducible rfl | with_reducible apply And.intro | ((with_reducible show drawOK _ _ = true); rfl))) <;> (try first | omega | (simp only [InR]; omega) | with_reducible assumption)
    · rw [c] at hI
      rw [← hI]; rfl
    · rw [c] at hI
      refine nxt hi hI ?_
      simp [AV.bare, bel_ints, cs_arr, dep_arr, cs_int, cs_bool, cs_list, cs_sk, cs_sp, AtHead, Same, AllO, Begins, LtAll, headSt, tokz_nil, tokz_cons, tokz1, lk, dep_int, dep_bool, dep_list, dep_sk, dep_sp, memAt, bel_map, bel_mapF, bel_mapO, bel_undef, bel_int, bel_boolv, bel_nilp, bel_nilf, bel_ptr, bel_arr, bel_mp, bel_yld, bel_agg, bel_tup, bel_ref, bel_only, bel_mpr, bel_fn, bel_sl_nil, bel_sl_nilF, bel_sl_nilO, bel_sl_cons, bel_sl_app, belO_cells, belO_tok, belO_dead, belO_deferred, belO_map, belO_iter, belO_loop, bel_vec, bel_vp, belO_vecM, belO_vec]
  · intro hI
    simp (maxSteps := 4000000) only [go_sem, AV.one, drawV, intsOf, keyIdx, over, putO, memAt, List.map_cons, List.length_cons, ↓reduceIte, snap_trues, imm_trues, zdrop, one_i, one_b, one_sl, one_ptr, one_ref, one_nilp, one_mp, one_fn, one_nilf]
    rw [← hI]; simp [indexP]
def P8 : Specs := addSpec 82 (spec2 (fun (l : List (Sk)) (_ : FnC 70 (FnL 51)) => l.length ≤ 4096) (fun l f => let f := f.x; indexP (fun x => !stackB x) l l.length 0)) (P7)
theorem P8_app (g : FuncId) : P8 g = (addSpec 82 (spec2 (fun (l : List (Sk)) (_ : FnC 70 (FnL 51)) => l.length ≤ 4096) (fun l f => let f := f.x; indexP (fun x => !stackB x) l l.length 0)) (P7)) g := rfl
theorem P8_ok : SpecsOk Try.prog P8 := addSpec_ok (spec2_ok allSI_call) (P7_ok)
attribute [go_sem] P8_app
theorem P8_flag (d : Option Nat) : flagOf P8 d = none := (flagOf_add (by decide) d).trans (P7_flag d)
attribute [go_sem] P8_flag
theorem allSC_call (l : List (Sk)) (f : FnC 70 (FnL 51)) (h : l.length ≤ 4096) : CallP Try.prog 69 [Enc.enc l, Enc.enc f] (· = Enc.enc (let f := f.x; l.any (fun x => !stackB x))) := by
  obtain ⟨f⟩ := f
  simp only [enc_fnl, enc_fnb, enc_fnc, enc_refc, enc_arr, enc_int, enc_bool, enc_list, enc_sk, enc_sp, enc_rg, enc_sh, enc_tr, enc_refs, enc_fns, enc_wks]
  refine callP_of_vc (Φ := P8) Try.func69 rfl (by rfl) (by rw [Try.ntmps69]; simp) mixed P8_ok (by simp [AV.strip, AV.strip1, Tk.strip]) ?_
  rw [Try.ntmps69]
  simp only [Try.f69, startSt, tmFrom]
  simp (maxSteps := 4000000) only [go_sem, AV.one, drawV, intsOf, keyIdx, over, putO, memAt, List.map_cons, List.length_cons, ↓reduceIte, snap_trues, imm_trues, zdrop, one_i, one_b, one_sl, one_ptr, one_ref, one_nilp, one_mp, one_fn, one_nilf]
  all_goals (repeat' (first | with_reducible rfl | with_reducible apply And.intro | ((with_reducible show drawOK _ _ = true); rfl))) <;> (try first | omega | (simp only [InR]; omega) | with_reducible assumption)
  congr 1
  exact indexP_ge (fun x => !stackB x) l l.length 0 (by omega)
def P9 : Specs := addSpec 69 (spec2 (fun (l : List (Sk)) (_ : FnC 70 (FnL 51)) => l.length ≤ 4096) (fun l f => let f := f.x; l.any (fun x => !stackB x))) (P8)
theorem P9_app (g : FuncId) : P9 g = (addSpec 69 (spec2 (fun (l : List (Sk)) (_ : FnC 70 (FnL 51)) => l.length ≤ 4096) (fun l f => let f := f.x; l.any (fun x => !stackB x))) (P8)) g := rfl
theorem P9_ok : SpecsOk Try.prog P9 := addSpec_ok (spec2_ok allSC_call) (P8_ok)
attribute [go_sem] P9_app
theorem P9_flag (d : Option Nat) : flagOf P9 d = none := (flagOf_add (by decide) d).trans (P8_flag d)
attribute [go_sem] P9_flag
theorem allSA_call (l : List (Sk)) (f : FnL 51) (h : l.length ≤ 4096) : CallP Try.prog 50 [Enc.enc l, Enc.enc f] (· = Enc.enc (l.all (fun x => stackB x))) := by
  simp only [enc_fnl, enc_fnb, enc_fnc, enc_refc, enc_arr, enc_int, enc_bool, enc_list, enc_sk, enc_sp, enc_rg, enc_sh, enc_tr, enc_refs, enc_fns, enc_wks]
  refine callP_of_vc (Φ := P9) Try.func50 rfl (by rfl) (by rw [Try.ntmps50]; simp) mixed P9_ok (by simp [AV.strip, AV.strip1, Tk.strip]) ?_
  rw [Try.ntmps50]
  simp only [Try.f50, startSt, tmFrom]
  simp (maxSteps := 4000000) only [go_sem, AV.one, drawV, intsOf, keyIdx, over, putO, memAt, List.map_cons, List.length_cons, ↓reduceIte, snap_trues, imm_trues, zdrop, one_i, one_b, one_sl, one_ptr, one_ref, one_nilp, one_mp, one_fn, one_nilf]
  all_goals (repeat' (first | with_reducible rfl | with_reducible apply And.intro | ((with_reducible show drawOK _ _ = true); rfl))) <;> (try first | omega | (simp only [InR]; omega) | with_reducible assumption)
  rw [any_not]
def P10 : Specs := addSpec 50 (spec2 (fun (l : List (Sk)) (_ : FnL 51) => l.length ≤ 4096) (fun l f => l.all (fun x => stackB x))) (P9)
theorem P10_app (g : FuncId) : P10 g = (addSpec 50 (spec2 (fun (l : List (Sk)) (_ : FnL 51) => l.length ≤ 4096) (fun l f => l.all (fun x => stackB x))) (P9)) g := rfl
theorem P10_ok : SpecsOk Try.prog P10 := addSpec_ok (spec2_ok allSA_call) (P9_ok)
attribute [go_sem] P10_app
theorem P10_flag (d : Option Nat) : flagOf P10 d = none := (flagOf_add (by decide) d).trans (P9_flag d)
attribute [go_sem] P10_flag
theorem allP1_call (x : Sp) (f : FnB 43 Sh) : CallP Try.prog 65 [Enc.enc x, Enc.enc (RefC.mk f)] (· = Enc.enc (!spOk x)) := by
  simp only [enc_fnl, enc_fnb, enc_fnc, enc_refc, enc_arr, enc_int, enc_bool, enc_list, enc_sk, enc_sp, enc_rg, enc_sh, enc_tr, enc_refs, enc_fns, enc_wks]
  refine callP_of_vc (Φ := P10) Try.func65 rfl (by rfl) (by rw [Try.ntmps65]; simp) mixed P10_ok (by simp [AV.strip, AV.strip1, Tk.strip]) ?_
  rw [Try.ntmps65]
  simp only [Try.f65, startSt, tmFrom]
  simp (maxSteps := 4000000) only [go_sem, AV.one, drawV, intsOf, keyIdx, over, putO, memAt, List.map_cons, List.length_cons, ↓reduceIte, snap_trues, imm_trues, zdrop, one_i, one_b, one_sl, one_ptr, one_ref, one_nilp, one_mp, one_fn, one_nilf]
def P11 : Specs := addSpec 65 (spec2 (fun _ _ => True) (fun (x : Sp) (f : RefC (FnB 43 Sh)) => let f := f.x; !spOk x)) (P10)
theorem P11_app (g : FuncId) : P11 g = (addSpec 65 (spec2 (fun _ _ => True) (fun (x : Sp) (f : RefC (FnB 43 Sh)) => let f := f.x; !spOk x)) (P10)) g := rfl
theorem P11_ok : SpecsOk Try.prog P11 := addSpec_ok (spec2_ok fun x f _ => allP1_call x f.x) (P10_ok)
attribute [go_sem] P11_app
theorem P11_flag (d : Option Nat) : flagOf P11 d = none := (flagOf_add (by decide) d).trans (P10_flag d)
attribute [go_sem] P11_flag
theorem allPI_call (l : List (Sp)) (f : FnC 65 (FnB 43 Sh)) (h : l.length ≤ 4096) : CallP Try.prog 79 [Enc.enc l, Enc.enc f] (· = Enc.enc (let f := f.x; indexP (fun x => !spOk x) l l.length 0)) := by
  obtain ⟨f⟩ := f
  simp only [enc_fnl, enc_fnb, enc_fnc, enc_refc, enc_arr, enc_int, enc_bool, enc_list, enc_sk, enc_sp, enc_rg, enc_sh, enc_tr, enc_refs, enc_fns, enc_wks]
  refine callP_of_vc (Φ := P11) Try.func79 rfl (by rfl) (by rw [Try.ntmps79]; simp) mixed P11_ok (by simp [AV.strip, AV.strip1, Tk.strip]) ?_
  rw [Try.ntmps79]
  simp only [Try.f79, startSt, tmFrom]
  simp (maxSteps := 4000000) only [go_sem, AV.one, drawV, intsOf, keyIdx, over, putO, memAt, List.map_cons, List.length_cons, ↓reduceIte, snap_trues, imm_trues, zdrop, one_i, one_b, one_sl, one_ptr, one_ref, one_nilp, one_mp, one_fn, one_nilf]
  refine loopN (l.length) [] [0, 1, 4, 7] (fun i => [(8, .int .i64 i)]) (fun _ m => m) (fun i => indexP (fun x => !spOk x) l (l.length - i) i = indexP (fun x => !spOk x) l l.length 0) ?_ ?_ ?_ ?_
  · rfl
  · simp [AV.bare, bel_ints, cs_arr, dep_arr, cs_int, cs_bool, cs_list, cs_sk, cs_sp, AtHead, Same, AllO, Begins, LtAll, headSt, tokz_nil, tokz_cons, tokz1, lk, dep_int, dep_bool, dep_list, dep_sk, dep_sp, memAt, bel_map, bel_mapF, bel_mapO, bel_undef, bel_int, bel_boolv, bel_nilp, bel_nilf, bel_ptr, bel_arr, bel_mp, bel_yld, bel_agg, bel_tup, bel_ref, bel_only, bel_mpr, bel_fn, bel_sl_nil, bel_sl_nilF, bel_sl_nilO, bel_sl_cons, bel_sl_app, belO_cells, belO_tok, belO_dead, belO_deferred, belO_map, belO_iter, belO_loop, bel_vec, bel_vp, belO_vecM, belO_vec]
  · intro i hi hI
    rw [show l.length - i = (l.length - (i + 1)) + 1 by omega, indexP] at hI
    cases c : spOk (at_ l i) <;>
      simp (maxSteps := 4000000) only [go_sem, AV.one, drawV, intsOf, keyIdx, over, putO, memAt, List.map_cons, List.length_cons, ↓reduceIte, snap_trues, imm_trues, zdrop, one_i, one_b, one_sl, one_ptr, one_ref, one_nilp, one_mp, one_fn, one_nilf, getD_mapA hi, Int.ofNat_lt.2 hi, c]
    all_goals all_goals (repeat' (first | with_reducible rfl | with_reducible apply And.intro | ((with_reducible show drawOK _ _ = true); rfl))) <;> (try first | omega | (simp only [InR]; omega) | with_reducible assumption)
    · rw [c] at hI
      rw [← hI]; rfl
    · rw [c] at hI
      refine nxt hi hI ?_
      simp [AV.bare, bel_ints, cs_arr, dep_arr, cs_int, cs_bool, cs_list, cs_sk, cs_sp, AtHead, Same, AllO, Begins, LtAll, headSt, tokz_nil, tokz_cons, tokz1, lk, dep_int, dep_bool, dep_list, dep_sk, dep_sp, memAt, bel_map, bel_mapF, bel_mapO, bel_undef, bel_int, bel_boolv, bel_nilp, bel_nilf, bel_ptr, bel_arr, bel_mp, bel_yld, bel_agg, bel_tup, bel_ref, bel_only, bel_mpr, bel_fn, bel_sl_nil, bel_sl_nilF, bel_sl_nilO, bel_sl_cons, bel_sl_app, belO_cells, belO_tok, belO_dead, belO_deferred, belO_map, belO_iter, belO_loop, bel_vec, bel_vp, belO_vecM, belO_vec]
  · intro hI
    simp (maxSteps := 4000000) only [go_sem, AV.one, drawV, intsOf, keyIdx, over, putO, memAt, List.map_cons, List.length_cons, ↓reduceIte, snap_trues, imm_trues, zdrop, one_i, one_b, one_sl, one_ptr, one_ref, one_nilp, one_mp, one_fn, one_nilf]
    rw [← hI]; simp [indexP]
def P12 : Specs := addSpec 79 (spec2 (fun (l : List (Sp)) (_ : FnC 65 (FnB 43 Sh)) => l.length ≤ 4096) (fun l f => let f := f.x; indexP (fun x => !spOk x) l l.length 0)) (P11)
theorem P12_app (g : FuncId) : P12 g = (addSpec 79 (spec2 (fun (l : List (Sp)) (_ : FnC 65 (FnB 43 Sh)) => l.length ≤ 4096) (fun l f => let f := f.x; indexP (fun x => !spOk x) l l.length 0)) (P11)) g := rfl
theorem P12_ok : SpecsOk Try.prog P12 := addSpec_ok (spec2_ok allPI_call) (P11_ok)
attribute [go_sem] P12_app
theorem P12_flag (d : Option Nat) : flagOf P12 d = none := (flagOf_add (by decide) d).trans (P11_flag d)
attribute [go_sem] P12_flag
theorem allPC_call (l : List (Sp)) (f : FnC 65 (FnB 43 Sh)) (h : l.length ≤ 4096) : CallP Try.prog 64 [Enc.enc l, Enc.enc f] (· = Enc.enc (let f := f.x; l.any (fun x => !spOk x))) := by
  obtain ⟨f⟩ := f
  simp only [enc_fnl, enc_fnb, enc_fnc, enc_refc, enc_arr, enc_int, enc_bool, enc_list, enc_sk, enc_sp, enc_rg, enc_sh, enc_tr, enc_refs, enc_fns, enc_wks]
  refine callP_of_vc (Φ := P12) Try.func64 rfl (by rfl) (by rw [Try.ntmps64]; simp) mixed P12_ok (by simp [AV.strip, AV.strip1, Tk.strip]) ?_
  rw [Try.ntmps64]
  simp only [Try.f64, startSt, tmFrom]
  simp (maxSteps := 4000000) only [go_sem, AV.one, drawV, intsOf, keyIdx, over, putO, memAt, List.map_cons, List.length_cons, ↓reduceIte, snap_trues, imm_trues, zdrop, one_i, one_b, one_sl, one_ptr, one_ref, one_nilp, one_mp, one_fn, one_nilf]
  all_goals (repeat' (first | with_reducible rfl | with_reducible apply And.intro | ((with_reducible show drawOK _ _ = true); rfl))) <;> (try first | omega | (simp only [InR]; omega) | with_reducible assumption)
  congr 1
  exact indexP_ge (fun x => !spOk x) l l.length 0 (by omega)
def P13 : Specs := addSpec 64 (spec2 (fun (l : List (Sp)) (_ : FnC 65 (FnB 43 Sh)) => l.length ≤ 4096) (fun l f => let f := f.x; l.any (fun x => !spOk x))) (P12)
theorem P13_app (g : FuncId) : P13 g = (addSpec 64 (spec2 (fun (l : List (Sp)) (_ : FnC 65 (FnB 43 Sh)) => l.length ≤ 4096) (fun l f => let f := f.x; l.any (fun x => !spOk x))) (P12)) g := rfl
theorem P13_ok : SpecsOk Try.prog P13 := addSpec_ok (spec2_ok allPC_call) (P12_ok)
attribute [go_sem] P13_app
theorem P13_flag (d : Option Nat) : flagOf P13 d = none := (flagOf_add (by decide) d).trans (P12_flag d)
attribute [go_sem] P13_flag
theorem allPA_call (l : List (Sp)) (f : FnB 43 Sh) (h : l.length ≤ 4096) : CallP Try.prog 44 [Enc.enc l, Enc.enc f] (· = Enc.enc (l.all (fun x => spOk x))) := by
  simp only [enc_fnl, enc_fnb, enc_fnc, enc_refc, enc_arr, enc_int, enc_bool, enc_list, enc_sk, enc_sp, enc_rg, enc_sh, enc_tr, enc_refs, enc_fns, enc_wks]
  refine callP_of_vc (Φ := P13) Try.func44 rfl (by rfl) (by rw [Try.ntmps44]; simp) mixed P13_ok (by simp [AV.strip, AV.strip1, Tk.strip]) ?_
  rw [Try.ntmps44]
  simp only [Try.f44, startSt, tmFrom]
  simp (maxSteps := 4000000) only [go_sem, AV.one, drawV, intsOf, keyIdx, over, putO, memAt, List.map_cons, List.length_cons, ↓reduceIte, snap_trues, imm_trues, zdrop, one_i, one_b, one_sl, one_ptr, one_ref, one_nilp, one_mp, one_fn, one_nilf]
  all_goals (repeat' (first | with_reducible rfl | with_reducible apply And.intro | ((with_reducible show drawOK _ _ = true); rfl))) <;> (try first | omega | (simp only [InR]; omega) | with_reducible assumption)
  rw [any_not]
def P14 : Specs := addSpec 44 (spec2 (fun (l : List (Sp)) (_ : FnB 43 Sh) => l.length ≤ 4096) (fun l f => l.all (fun x => spOk x))) (P13)
theorem P14_app (g : FuncId) : P14 g = (addSpec 44 (spec2 (fun (l : List (Sp)) (_ : FnB 43 Sh) => l.length ≤ 4096) (fun l f => l.all (fun x => spOk x))) (P13)) g := rfl
theorem P14_ok : SpecsOk Try.prog P14 := addSpec_ok (spec2_ok allPA_call) (P13_ok)
attribute [go_sem] P14_app
theorem P14_flag (d : Option Nat) : flagOf P14 d = none := (flagOf_add (by decide) d).trans (P13_flag d)
attribute [go_sem] P14_flag
theorem allI1_call (x : Int) (f : FnS 68) : CallP Try.prog 81 [Enc.enc x, Enc.enc (RefC.mk f)] (· = Enc.enc (!(fun n => decide (n ≤ f.x.hands)) x)) := by
  simp only [enc_fnl, enc_fnb, enc_fnc, enc_refc, enc_arr, enc_int, enc_bool, enc_list, enc_sk, enc_sp, enc_rg, enc_sh, enc_tr, enc_refs, enc_fns, enc_wks]
  refine callP_of_vc (Φ := P14) Try.func81 rfl (by rfl) (by rw [Try.ntmps81]; simp) mixed P14_ok (by simp [AV.strip, AV.strip1, Tk.strip]) ?_
  rw [Try.ntmps81]
  simp only [Try.f81, startSt, tmFrom]
  simp (maxSteps := 4000000) only [go_sem, AV.one, drawV, intsOf, keyIdx, over, putO, memAt, List.map_cons, List.length_cons, ↓reduceIte, snap_trues, imm_trues, zdrop, one_i, one_b, one_sl, one_ptr, one_ref, one_nilp, one_mp, one_fn, one_nilf]
def P15 : Specs := addSpec 81 (spec2 (fun _ _ => True) (fun (x : Int) (f : RefC (FnS 68)) => let f := f.x; !(fun n => decide (n ≤ f.x.hands)) x)) (P14)
theorem P15_app (g : FuncId) : P15 g = (addSpec 81 (spec2 (fun _ _ => True) (fun (x : Int) (f : RefC (FnS 68)) => let f := f.x; !(fun n => decide (n ≤ f.x.hands)) x)) (P14)) g := rfl
theorem P15_ok : SpecsOk Try.prog P15 := addSpec_ok (spec2_ok fun x f _ => allI1_call x f.x) (P14_ok)
attribute [go_sem] P15_app
theorem P15_flag (d : Option Nat) : flagOf P15 d = none := (flagOf_add (by decide) d).trans (P14_flag d)
attribute [go_sem] P15_flag
theorem allII_call (l : List (Int)) (f : FnC 81 (FnS 68)) (h : l.length ≤ 4096) : CallP Try.prog 95 [Enc.enc l, Enc.enc f] (· = Enc.enc (let f := f.x; indexP (fun x => !(fun n => decide (n ≤ f.x.hands)) x) l l.length 0)) := by
  obtain ⟨f⟩ := f
  simp only [enc_fnl, enc_fnb, enc_fnc, enc_refc, enc_arr, enc_int, enc_bool, enc_list, enc_sk, enc_sp, enc_rg, enc_sh, enc_tr, enc_refs, enc_fns, enc_wks]
  refine callP_of_vc (Φ := P15) Try.func95 rfl (by rfl) (by rw [Try.ntmps95]; simp) mixed P15_ok (by simp [AV.strip, AV.strip1, Tk.strip]) ?_
  rw [Try.ntmps95]
  simp only [Try.f95, startSt, tmFrom]
  simp (maxSteps := 4000000) only [go_sem, AV.one, drawV, intsOf, keyIdx, over, putO, memAt, List.map_cons, List.length_cons, ↓reduceIte, snap_trues, imm_trues, zdrop, one_i, one_b, one_sl, one_ptr, one_ref, one_nilp, one_mp, one_fn, one_nilf]
  refine loopN (l.length) [] [0, 1, 4, 7] (fun i => [(8, .int .i64 i)]) (fun _ m => m) (fun i => indexP (fun x => !(fun n => decide (n ≤ f.x.hands)) x) l (l.length - i) i = indexP (fun x => !(fun n => decide (n ≤ f.x.hands)) x) l l.length 0) ?_ ?_ ?_ ?_
  · rfl
  · simp [AV.bare, bel_ints, cs_arr, dep_arr, cs_int, cs_bool, cs_list, cs_sk, cs_sp, AtHead, Same, AllO, Begins, LtAll, headSt, tokz_nil, tokz_cons, tokz1, lk, dep_int, dep_bool, dep_list, dep_sk, dep_sp, memAt, bel_map, bel_mapF, bel_mapO, bel_undef, bel_int, bel_boolv, bel_nilp, bel_nilf, bel_ptr, bel_arr, bel_mp, bel_yld, bel_agg, bel_tup, bel_ref, bel_only, bel_mpr, bel_fn, bel_sl_nil, bel_sl_nilF, bel_sl_nilO, bel_sl_cons, bel_sl_app, belO_cells, belO_tok, belO_dead, belO_deferred, belO_map, belO_iter, belO_loop, bel_vec, bel_vp, belO_vecM, belO_vec]
  · intro i hi hI
    rw [show l.length - i = (l.length - (i + 1)) + 1 by omega, indexP] at hI
    cases c : (fun n => decide (n ≤ f.x.hands)) (at_ l i) <;>
      simp (maxSteps := 4000000) only [go_sem, AV.one, drawV, intsOf, keyIdx, over, putO, memAt, List.map_cons, List.length_cons, ↓reduceIte, snap_trues, imm_trues, zdrop, one_i, one_b, one_sl, one_ptr, one_ref, one_nilp, one_mp, one_fn, one_nilf, getD_mapA hi, Int.ofNat_lt.2 hi, c]
    all_goals all_goals (repeat' (first | with_reducible rfl | with_reducible apply And.intro | ((with_reducible show drawOK _ _ = true); rfl))) <;> (try first | omega | (simp only [InR]; omega) | with_reducible assumption)
    · rw [c] at hI
      rw [← hI]; rfl
    · rw [c] at hI
      refine nxt hi hI ?_
      simp [AV.bare, bel_ints, cs_arr, dep_arr, cs_int, cs_bool, cs_list, cs_sk, cs_sp, AtHead, Same, AllO, Begins, LtAll, headSt, tokz_nil, tokz_cons, tokz1, lk, dep_int, dep_bool, dep_list, dep_sk, dep_sp, memAt, bel_map, bel_mapF, bel_mapO, bel_undef, bel_int, bel_boolv, bel_nilp, bel_nilf, bel_ptr, bel_arr, bel_mp, bel_yld, bel_agg, bel_tup, bel_ref, bel_only, bel_mpr, bel_fn, bel_sl_nil, bel_sl_nilF, bel_sl_nilO, bel_sl_cons, bel_sl_app, belO_cells, belO_tok, belO_dead, belO_deferred, belO_map, belO_iter, belO_loop, bel_vec, bel_vp, belO_vecM, belO_vec]
  · intro hI
    simp (maxSteps := 4000000) only [go_sem, AV.one, drawV, intsOf, keyIdx, over, putO, memAt, List.map_cons, List.length_cons, ↓reduceIte, snap_trues, imm_trues, zdrop, one_i, one_b, one_sl, one_ptr, one_ref, one_nilp, one_mp, one_fn, one_nilf]
    rw [← hI]; simp [indexP]
def P16 : Specs := addSpec 95 (spec2 (fun (l : List (Int)) (_ : FnC 81 (FnS 68)) => l.length ≤ 4096) (fun l f => let f := f.x; indexP (fun x => !(fun n => decide (n ≤ f.x.hands)) x) l l.length 0)) (P15)
theorem P16_app (g : FuncId) : P16 g = (addSpec 95 (spec2 (fun (l : List (Int)) (_ : FnC 81 (FnS 68)) => l.length ≤ 4096) (fun l f => let f := f.x; indexP (fun x => !(fun n => decide (n ≤ f.x.hands)) x) l l.length 0)) (P15)) g := rfl
theorem P16_ok : SpecsOk Try.prog P16 := addSpec_ok (spec2_ok allII_call) (P15_ok)
attribute [go_sem] P16_app
theorem P16_flag (d : Option Nat) : flagOf P16 d = none := (flagOf_add (by decide) d).trans (P15_flag d)
attribute [go_sem] P16_flag
theorem allIC_call (l : List (Int)) (f : FnC 81 (FnS 68)) (h : l.length ≤ 4096) : CallP Try.prog 80 [Enc.enc l, Enc.enc f] (· = Enc.enc (let f := f.x; l.any (fun x => !(fun n => decide (n ≤ f.x.hands)) x))) := by
  obtain ⟨f⟩ := f
  simp only [enc_fnl, enc_fnb, enc_fnc, enc_refc, enc_arr, enc_int, enc_bool, enc_list, enc_sk, enc_sp, enc_rg, enc_sh, enc_tr, enc_refs, enc_fns, enc_wks]
  refine callP_of_vc (Φ := P16) Try.func80 rfl (by rfl) (by rw [Try.ntmps80]; simp) mixed P16_ok (by simp [AV.strip, AV.strip1, Tk.strip]) ?_
  rw [Try.ntmps80]
  simp only [Try.f80, startSt, tmFrom]
  simp (maxSteps := 4000000) only [go_sem, AV.one, drawV, intsOf, keyIdx, over, putO, memAt, List.map_cons, List.length_cons, ↓reduceIte, snap_trues, imm_trues, zdrop, one_i, one_b, one_sl, one_ptr, one_ref, one_nilp, one_mp, one_fn, one_nilf]
  all_goals (repeat' (first | with_reducible rfl | with_reducible apply And.intro | ((with_reducible show drawOK _ _ = true); rfl))) <;> (try first | omega | (simp only [InR]; omega) | with_reducible assumption)
  congr 1
  exact indexP_ge (fun x => !(fun n => decide (n ≤ f.x.hands)) x) l l.length 0 (by omega)
def P17 : Specs := addSpec 80 (spec2 (fun (l : List (Int)) (_ : FnC 81 (FnS 68)) => l.length ≤ 4096) (fun l f => let f := f.x; l.any (fun x => !(fun n => decide (n ≤ f.x.hands)) x))) (P16)
theorem P17_app (g : FuncId) : P17 g = (addSpec 80 (spec2 (fun (l : List (Int)) (_ : FnC 81 (FnS 68)) => l.length ≤ 4096) (fun l f => let f := f.x; l.any (fun x => !(fun n => decide (n ≤ f.x.hands)) x))) (P16)) g := rfl
theorem P17_ok : SpecsOk Try.prog P17 := addSpec_ok (spec2_ok allIC_call) (P16_ok)
attribute [go_sem] P17_app
theorem P17_flag (d : Option Nat) : flagOf P17 d = none := (flagOf_add (by decide) d).trans (P16_flag d)
attribute [go_sem] P17_flag
theorem allIA_call (l : List (Int)) (f : FnS 68) (h : l.length ≤ 4096) : CallP Try.prog 67 [Enc.enc l, Enc.enc f] (· = Enc.enc (l.all (fun x => (fun n => decide (n ≤ f.x.hands)) x))) := by
  simp only [enc_fnl, enc_fnb, enc_fnc, enc_refc, enc_arr, enc_int, enc_bool, enc_list, enc_sk, enc_sp, enc_rg, enc_sh, enc_tr, enc_refs, enc_fns, enc_wks]
  refine callP_of_vc (Φ := P17) Try.func67 rfl (by rfl) (by rw [Try.ntmps67]; simp) mixed P17_ok (by simp [AV.strip, AV.strip1, Tk.strip]) ?_
  rw [Try.ntmps67]
  simp only [Try.f67, startSt, tmFrom]
  simp (maxSteps := 4000000) only [go_sem, AV.one, drawV, intsOf, keyIdx, over, putO, memAt, List.map_cons, List.length_cons, ↓reduceIte, snap_trues, imm_trues, zdrop, one_i, one_b, one_sl, one_ptr, one_ref, one_nilp, one_mp, one_fn, one_nilf]
  all_goals (repeat' (first | with_reducible rfl | with_reducible apply And.intro | ((with_reducible show drawOK _ _ = true); rfl))) <;> (try first | omega | (simp only [InR]; omega) | with_reducible assumption)
  rw [any_not]
def P18 : Specs := addSpec 67 (spec2 (fun (l : List (Int)) (_ : FnS 68) => l.length ≤ 4096) (fun l f => l.all (fun x => (fun n => decide (n ≤ f.x.hands)) x))) (P17)
theorem P18_app (g : FuncId) : P18 g = (addSpec 67 (spec2 (fun (l : List (Int)) (_ : FnS 68) => l.length ≤ 4096) (fun l f => l.all (fun x => (fun n => decide (n ≤ f.x.hands)) x))) (P17)) g := rfl
theorem P18_ok : SpecsOk Try.prog P18 := addSpec_ok (spec2_ok allIA_call) (P17_ok)
attribute [go_sem] P18_app
theorem P18_flag (d : Option Nat) : flagOf P18 d = none := (flagOf_add (by decide) d).trans (P17_flag d)
attribute [go_sem] P18_flag
end Go.Proofs
