/- Plain facts about tables, their truths and bounds. -/
import Derived.Test.YthdikbechlgkdaaCLFirst
set_option linter.all false
namespace Go.Proofs
open Go.Fs
set_option linter.unusedSimpArgs false
set_option linter.unusedVariables false
set_option maxHeartbeats 4000000
set_option maxRecDepth 8000
structure FOk (t : Tb) : Prop where
  l9 : t.last ≤ 9
  lv : t.levels.length ≤ 6
  m5 : t.marks.length ≤ 5
  l0 : 0 ≤ t.last
  len : (t.heights.length : Int) = t.last + 1
  s0 : 0 ≤ t.step
  s1 : t.step ≤ 99
  hs : ∀ r ∈ t.heights, 0 ≤ r.lo ∧ r.lo ≤ r.hi ∧ r.hi ≤ 99
  ls : ∀ n ∈ t.levels, 0 ≤ n ∧ n ≤ 99
  ms : ∀ m ∈ t.marks, (0 ≤ m.frm ∧ m.frm ≤ m.til ∧ m.til ≤ t.last) ∧ 0 ≤ m.top.lo ∧ m.top.lo ≤ m.top.hi ∧ m.top.hi ≤ 99
  many : manyN t.heights ≤ 2000
  some : listsL t ≠ []
theorem fok_of {t : Tb} (h : faultT t = 0) : FOk t := by
  unfold faultT at h
  split at h
  · cases h
  rename_i g1
  split at h
  · cases h
  rename_i g2
  split at h
  · cases h
  rename_i g3
  split at h
  · cases h
  rename_i g4
  split at h
  · cases h
  rename_i g5
  split at h
  · cases h
  rename_i g6
  split at h
  · cases h
  rename_i g7
  simp only [not_or, Bool.not_eq_false, ne_eq, Decidable.not_not] at g1 g2 g3 g4 g5
  have hs := (inB_iff _ _ _).1 g2.2.2
  refine ⟨by omega, by omega, by omega, by omega, by omega, hs.1, hs.2, fun r hr => (isHeights_iff r).1 (List.all_eq_true.1 g3 r hr), fun x hx => (inB_iff _ _ _).1 (List.all_eq_true.1 g4 x hx), fun m hm => ?_, by omega, g7⟩
  have := List.all_eq_true.1 g5 m hm
  simp only [markB, Bool.and_eq_true, decide_eq_true_eq] at this
  have q1 := (inB_iff _ _ _).1 this.1.1.1
  have q2 := (inB_iff _ _ _).1 this.1.1.2
  have q3 := (isHeights_iff _).1 this.2
  exact ⟨⟨q1.1, this.1.2, q2.2⟩, q3⟩
theorem FOk.fault {t : Tb} (h : FOk t) : faultT t = 0 := by
  have h1 := h.l9
  have h2 := h.lv
  have h3 := h.m5
  have h4 := h.l0
  have h5 := h.many
  unfold faultT
  rw [if_neg (by omega), if_neg, if_neg, if_neg, if_neg, if_neg (by omega), if_neg h.some]
  · simp only [Bool.not_eq_false, List.all_eq_true]
    intro m hm
    have := h.ms m hm
    simp only [markB, Bool.and_eq_true, decide_eq_true_eq]
    exact ⟨⟨⟨(inB_iff _ _ _).2 (by omega), (inB_iff _ _ _).2 (by omega)⟩, by omega⟩, (isHeights_iff _).2 this.2⟩
  · simp only [Bool.not_eq_false, List.all_eq_true]
    exact fun n hn => (inB_iff _ _ _).2 (h.ls n hn)
  · simp only [Bool.not_eq_false, List.all_eq_true]
    exact fun r hr => (isHeights_iff _).2 (h.hs r hr)
  · simp only [not_or, Bool.not_eq_false]
    exact ⟨by omega, by simpa using h.len, (inB_iff _ _ _).2 ⟨h.s0, h.s1⟩⟩
theorem FOk.hok {t : Tb} (h : FOk t) : HOk t := ⟨by have := h.len; have := h.l9; omega, h.hs, h.s0, h.s1⟩
theorem FOk.vok {t : Tb} (h : FOk t) : VOk t := fault_ok h.fault
structure LsOk (t : Tb) (p : List Int) : Prop where
  len : p.length = t.heights.length
  rng : ∀ i, i < p.length → (at_ t.heights i).lo ≤ at_ p i ∧ at_ p i ≤ (at_ t.heights i).hi
  near : ∀ i, i + 1 < p.length → at_ p (i + 1) - at_ p i ≤ t.step ∧ at_ p i - at_ p (i + 1) ≤ t.step
theorem at_cons_succ {α : Type} [Inhabited α] (x : α) (l : List α) (i : Nat) : at_ (x :: l) (i + 1) = at_ l i := by simp [at_, List.getD]
theorem at_cons_zero {α : Type} [Inhabited α] (x : α) (l : List α) : at_ (x :: l) 0 = x := by simp [at_, List.getD]
theorem nearL_iff (s : Int) : ∀ l : List Int, nearL s l = true ↔ ∀ i, i + 1 < l.length → at_ l (i + 1) - at_ l i ≤ s ∧ at_ l i - at_ l (i + 1) ≤ s
  | [] => by simp [nearL]
  | [x] => by simp [nearL]
  | x :: y :: r => by
    have ih := nearL_iff s (y :: r)
    simp only [nearL, Bool.and_eq_true, decide_eq_true_eq, ih]
    constructor
    · rintro ⟨h1, h2⟩ i hi
      cases i with
      | zero => simpa [at_cons_succ, at_cons_zero] using h1
      | succ i =>
        rw [at_cons_succ, at_cons_succ]
        exact h2 i (by simp at hi ⊢; omega)
    · intro h
      refine ⟨by simpa [at_cons_succ, at_cons_zero] using h 0 (by simp), fun i hi => ?_⟩
      have := h (i + 1) (by simp at hi ⊢; omega)
      rwa [at_cons_succ, at_cons_succ] at this
theorem listed_iff {t : Tb} (p : List Int) : listedB t p = true ↔ LsOk t p := by
  unfold listedB
  rw [Bool.and_eq_true, Bool.and_eq_true, decide_eq_true_eq, nearL_iff, List.all_eq_true]
  constructor
  · rintro ⟨h1, h2, h3⟩
    have h2 : p.length = t.heights.length := by omega
    refine ⟨h2, fun i hi => ?_, h3⟩
    have hz : i < (zipB p t.heights).length := by rw [zipB_len]; omega
    have := h1 _ (at_mem hz)
    rw [zipB_at hi (by omega)] at this
    exact (inB_iff _ _ _).1 this
  · rintro ⟨h1, h2, h3⟩
    refine ⟨fun x hx => ?_, by omega, h3⟩
    obtain ⟨i, hi, rfl⟩ := List.getElem_of_mem hx
    have hl := zipB_len p t.heights
    rw [← at_get hi, zipB_at (by omega) (by omega)]
    exact (inB_iff _ _ _).2 (h2 i (by omega))
theorem mem_lists {t : Tb} (h : FOk t) (p : List Int) : p ∈ listsL t ↔ LsOk t p := by rw [mem_listsL h.hok h.many, listed_iff]
theorem truth_iff {t : Tb} (h : FOk t) (p : List Int) : p ∈ truthsL t ↔ LsOk t p ∧ ∀ m ∈ t.marks, m.top.lo ≤ topL p m.frm m.til ∧ topL p m.frm m.til ≤ m.top.hi := by
  rw [mem_truthsL h.vok]
  unfold isTruthB
  rw [Bool.and_eq_true, listed_iff, List.all_eq_true]
  simp only [rightM, inB_iff]
theorem poss_iff {t : Tb} (h : FOk t) (S : Nat → Prop) : Poss t S ↔ ∃ p, LsOk t p ∧ ∀ k, k < t.marks.length → S k → (at_ t.marks k).top.lo ≤ topL p (at_ t.marks k).frm (at_ t.marks k).til ∧ topL p (at_ t.marks k).frm (at_ t.marks k).til ≤ (at_ t.marks k).top.hi := by
  unfold Poss
  simp only [listed_iff, rightM, inB_iff]
theorem topL_eq {p : List Int} {a b v : Int} (h0 : 0 ≤ a) (h1 : a ≤ b) (h2 : b < p.length) (hle : ∀ i : Nat, a ≤ i → (i : Int) ≤ b → at_ p i ≤ v) (hex : ∃ i : Nat, a ≤ i ∧ (i : Int) ≤ b ∧ at_ p i = v) : topL p a b = v := by
  obtain ⟨i, g1, g2, g3⟩ := topL_mem h0 h1 h2
  obtain ⟨j, k1, k2, k3⟩ := hex
  have q1 := hle i g1 g2
  have q2 := topL_ge h0 k1 k2 h2
  omega
theorem IsB.sub {S T : Int → Prop} {r s : Rg} (h : IsB S r) (h' : IsB T s) (hst : ∀ x, S x → T x) : s.lo ≤ r.lo ∧ r.hi ≤ s.hi :=
  ⟨(h'.all _ (hst _ h.lo)).1, (h'.all _ (hst _ h.hi)).2⟩
theorem bnd_ok {t : Tb} (h : faultT t = 0) (q : truthsL t ≠ []) : bndQ t = ((List.range (t.last + 1).toNat).map fun i : Nat => boundsL (truthsL t) i, 0) := by
  unfold bndQ; rw [askErr_ok h q, if_pos rfl]
theorem bnd_dry {t : Tb} (h : faultT t = 0) (q : truthsL t = []) : bndQ t = ([], 11) := by
  unfold bndQ; rw [askErr_dry h q, if_neg (by decide)]
theorem dry_ok {t : Tb} (h : faultT t = 0) (q : truthsL t ≠ []) {a b : Int} (h0 : 0 ≤ a) (h1 : a ≤ b) (h2 : b ≤ t.last) : dryQ t a b = (dryL (truthsL t) a b, 0) := by
  have e : (inB a 0 t.last && inB b 0 t.last && decide (a ≤ b)) = true := by simp only [Bool.and_eq_true, decide_eq_true_eq, inB_iff]; omega
  unfold dryQ; rw [e, askErr_ok h q, if_pos rfl]
theorem dry_dry {t : Tb} (h : faultT t = 0) (q : truthsL t = []) {a b : Int} (h0 : 0 ≤ a) (h1 : a ≤ b) (h2 : b ≤ t.last) : dryQ t a b = (0, 11) := by
  have e : (inB a 0 t.last && inB b 0 t.last && decide (a ≤ b)) = true := by simp only [Bool.and_eq_true, decide_eq_true_eq, inB_iff]; omega
  unfold dryQ; rw [e, askErr_dry h q, if_neg (by decide)]
theorem dry_isB {t : Tb} (h : faultT t = 0) (q : truthsL t ≠ []) {a b : Int} (h0 : 0 ≤ a) (h1 : a ≤ b) (h2 : b ≤ t.last) : ∃ r : Rg, IsB (fun z => ∃ p ∈ truthsL t, topL p a b = z) r ∧ r.hi = dryL (truthsL t) a b :=
  ⟨_, top_isB (fault_ok h) q h0 h1 h2, (top_dry (fault_ok h) q h0 h1 h2).1⟩
theorem wet_ok {t : Tb} (h : faultT t = 0) (q : truthsL t ≠ []) {row hour : Int} (h0 : 0 ≤ row) (h1 : row < t.levels.length) (h2 : 0 ≤ hour) (h3 : hour ≤ t.last) : wetQ t row hour = (verdictL (truthsL t) (at_ t.levels row.toNat) hour, 0) := by
  have e : (inB row 0 (t.levels.length - 1) && inB hour 0 t.last) = true := by simp only [Bool.and_eq_true, inB_iff]; omega
  unfold wetQ; rw [e, askErr_ok h q, if_pos rfl]
theorem wet_dry {t : Tb} (h : faultT t = 0) (q : truthsL t = []) {row hour : Int} (h0 : 0 ≤ row) (h1 : row < t.levels.length) (h2 : 0 ≤ hour) (h3 : hour ≤ t.last) : wetQ t row hour = (0, 11) := by
  have e : (inB row 0 (t.levels.length - 1) && inB hour 0 t.last) = true := by simp only [Bool.and_eq_true, inB_iff]; omega
  unfold wetQ; rw [e, askErr_dry h q, if_neg (by decide)]
theorem rch_ok {t : Tb} (h : faultT t = 0) (q : truthsL t ≠ []) {row : Int} (h0 : 0 ≤ row) (h1 : row < t.levels.length) : rchQ t row = (reachL (truthsL t) (at_ t.levels row.toNat), 0) := by
  have e : inB row 0 (t.levels.length - 1) = true := by simp only [inB_iff]; omega
  unfold rchQ; rw [e, askErr_ok h q, if_pos rfl]
theorem rch_dry {t : Tb} (h : faultT t = 0) (q : truthsL t = []) {row : Int} (h0 : 0 ≤ row) (h1 : row < t.levels.length) : rchQ t row = (⟨0, 0⟩, 11) := by
  have e : inB row 0 (t.levels.length - 1) = true := by simp only [inB_iff]; omega
  unfold rchQ; rw [e, askErr_dry h q, if_neg (by decide)]
theorem leave_ok {t : Tb} (h : faultT t = 0) : ∃ l, leaveQ t = (castL l, 0) ∧ Least t l := by
  obtain ⟨l, e, hl⟩ := leaveL_least (fault_ok h)
  exact ⟨l, by unfold leaveQ; rw [if_pos h, e], hl⟩
theorem cast_len (l : List Nat) : (castL l).length = l.length := by simp [castL]
theorem inc_len {n : Nat} {l : List Nat} (h : Inc 0 n l) : l.length ≤ n := by
  rw [← ofBits_toBits h]
  have := List.length_filter_le (fun p => (toBits l).testBit p) (List.range n)
  simpa [ofBits] using this
theorem least_len {t : Tb} {l m : List Nat} (h : Least t l) (hl : Inc 0 t.marks.length m) (hp : Poss t (fun k => k ∉ m)) : l.length ≤ m.length := by
  have := h.least m hl hp
  have h2 := (shorter_iff (castL m) (castL l))
  rw [this] at h2
  simp only [Bool.false_eq_true, false_iff, not_or, cast_len] at h2
  omega
theorem least_nil {t : Tb} (h : faultT t = 0) {l : List Nat} (hl : Least t l) : l = [] ↔ truthsL t ≠ [] := by
  rw [truths_poss h]
  constructor
  · rintro rfl
    exact hl.poss.mono fun k _ _ => by simp
  · intro q
    have := least_len hl (m := []) trivial (q.mono fun k _ _ => trivial)
    exact List.eq_nil_of_length_eq_zero (by simpa using this)
def insideB (a b : List Rg) : Bool := decide (a.length = b.length) && (List.range a.length).all fun i => decide ((at_ b i).lo ≤ (at_ a i).lo) && decide ((at_ a i).hi ≤ (at_ b i).hi)
theorem inside_iff (a b : List Rg) : insideB a b = true ↔ a.length = b.length ∧ ∀ i, i < a.length → (at_ b i).lo ≤ (at_ a i).lo ∧ (at_ a i).hi ≤ (at_ b i).hi := by
  simp only [insideB, Bool.and_eq_true, decide_eq_true_eq, List.all_eq_true, List.mem_range]
theorem at_range {α : Type} [Inhabited α] (f : Nat → α) {n i : Nat} (h : i < n) : at_ ((List.range n).map f) i = f i := by simp [at_, h]
theorem bnd_getD2 (L : List (List Int)) {n i : Nat} (h : i < n) : (((List.range n).map fun i : Nat => boundsL L i).map EncE.cs).getD i [] = EncE.cs (boundsL L i) := by
  rw [getD_mapA (by simpa using h), at_range _ h]
theorem bnd_inside {t x : Tb} (h : faultT t = 0) (h' : faultT x = 0) (hl : t.last = x.last) (q : truthsL t ≠ []) (hs : ∀ p ∈ truthsL t, p ∈ truthsL x) : truthsL x ≠ [] ∧ insideB (bndQ t).1 (bndQ x).1 = true := by
  have q' : truthsL x ≠ [] := by
    obtain ⟨p, hp⟩ := List.exists_mem_of_ne_nil _ q
    intro e
    have := hs p hp
    rw [e] at this; cases this
  refine ⟨q', ?_⟩
  have hf := fok_of h
  rw [bnd_ok h q, bnd_ok h' q', inside_iff]
  refine ⟨by simp [hl], fun i hi => ?_⟩
  simp at hi
  rw [at_range _ (by omega), at_range _ (by omega)]
  have b1 := boundsL_isB hf.vok q (hour := (i : Int)) (by omega) (by omega)
  have b2 := boundsL_isB (fault_ok h') q' (hour := (i : Int)) (by omega) (by omega)
  exact b1.sub b2 fun z ⟨p, hp, e⟩ => ⟨p, hs p hp, e⟩
end Go.Proofs
