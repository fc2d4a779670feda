/- Plain facts: a table that is higher, a table whose hours are counted backwards. -/
import Derived.Test.YthdikbechlgkdaaCS26
set_option linter.all false
namespace Go.Proofs
open Go.Fs
set_option linter.unusedSimpArgs false
set_option linter.unusedVariables false
set_option maxHeartbeats 4000000
set_option maxRecDepth 8000
theorem at_map {α β : Type} [Inhabited α] [Inhabited β] {f : α → β} {l : List α} {i : Nat} (h : i < l.length) : at_ (l.map f) i = f (at_ l i) := by simp [at_, h]
theorem at_reverse {α : Type} [Inhabited α] {l : List α} {i : Nat} (h : i < l.length) : at_ l.reverse i = at_ l (l.length - 1 - i) := by
  rw [at_get (by simpa using h), at_get (show l.length - 1 - i < l.length by omega), List.getElem_reverse]
def addL (n : Int) (p : List Int) : List Int := p.map (· + n)
theorem addL_len (n : Int) (p : List Int) : (addL n p).length = p.length := by simp [addL]
theorem addL_at {n : Int} {p : List Int} {i : Nat} (h : i < p.length) : at_ (addL n p) i = at_ p i + n := at_map h
theorem addL_inv (n : Int) (p : List Int) : addL (-n) (addL n p) = p := by
  simp [addL, Function.comp_def, Int.add_neg_cancel_right]
theorem addL_inv' (n : Int) (p : List Int) : addL n (addL (-n) p) = p := by
  simp [addL, Function.comp_def, Int.neg_add_cancel_right]
def shR (n : Int) (r : Rg) : Rg := ⟨r.lo + n, r.hi + n⟩
def shM (n : Int) (m : Mk) : Mk := ⟨m.frm, m.til, ⟨m.top.lo + n, m.top.hi + n⟩⟩
def shT (n : Int) (t : Tb) : Tb := ⟨t.last, t.heights.map (shR n), t.step, addL n t.levels, t.marks.map (shM n)⟩
theorem shT_inv (n : Int) (t : Tb) : shT (-n) (shT n t) = t := by
  unfold shT
  have h1 : (t.heights.map (shR n)).map (shR (-n)) = t.heights := by
    rw [List.map_map]; conv => rhs; rw [← List.map_id t.heights]
    refine List.map_congr_left fun r _ => ?_
    exact Rg.ext' (by show r.lo + n + -n = r.lo; omega) (by show r.hi + n + -n = r.hi; omega)
  have h2 : (t.marks.map (shM n)).map (shM (-n)) = t.marks := by
    rw [List.map_map]; conv => rhs; rw [← List.map_id t.marks]
    refine List.map_congr_left fun m _ => ?_
    obtain ⟨a, b, c, d⟩ := m
    show Mk.mk a b ⟨c + n + -n, d + n + -n⟩ = Mk.mk a b ⟨c, d⟩
    rw [show c + n + -n = c by omega, show d + n + -n = d by omega]
  simp only [h1, h2, addL_inv]
theorem topL_add {p : List Int} {n a b : Int} (h0 : 0 ≤ a) (h1 : a ≤ b) (h2 : b < p.length) : topL (addL n p) a b = topL p a b + n := by
  obtain ⟨i, g1, g2, g3⟩ := topL_mem h0 h1 h2
  refine topL_eq h0 h1 (by rw [addL_len]; exact h2) (fun j k1 k2 => ?_) ⟨i, g1, g2, ?_⟩
  · rw [addL_at (by omega)]
    have := topL_ge h0 k1 k2 h2
    omega
  · rw [addL_at (by omega), g3]
theorem sh_lsok {t : Tb} {n : Int} {p : List Int} (h : LsOk t p) : LsOk (shT n t) (addL n p) := by
  have hl := h.len
  refine ⟨by simp [shT, addL, hl], fun i hi => ?_, fun i hi => ?_⟩
  · rw [addL_len] at hi
    show (at_ (t.heights.map (shR n)) i).lo ≤ _ ∧ _ ≤ (at_ (t.heights.map (shR n)) i).hi
    rw [addL_at hi, at_map (by omega)]
    have := h.rng i hi
    simp only [shR]
    omega
  · rw [addL_len] at hi
    rw [addL_at (by omega), addL_at (by omega)]
    have := h.near i hi
    show _ ≤ t.step ∧ _ ≤ t.step
    omega
theorem sh_truth {t : Tb} {n : Int} (h : FOk t) (h' : FOk (shT n t)) {p : List Int} (hp : p ∈ truthsL t) : addL n p ∈ truthsL (shT n t) := by
  rw [truth_iff h] at hp
  rw [truth_iff h']
  refine ⟨sh_lsok hp.1, fun m hm => ?_⟩
  obtain ⟨m, hm1, rfl⟩ := List.mem_map.1 hm
  have hb := h.ms m hm1
  have hl := hp.1.len
  have hl2 := h.len
  have := hp.2 m hm1
  show m.top.lo + n ≤ topL (addL n p) m.frm m.til ∧ topL (addL n p) m.frm m.til ≤ m.top.hi + n
  rw [topL_add hb.1.1 hb.1.2.1 (by omega)]
  omega
theorem sh_back {t : Tb} {n : Int} (h : FOk t) (h' : FOk (shT n t)) {p : List Int} (hp : p ∈ truthsL (shT n t)) : addL (-n) p ∈ truthsL t := by
  have := sh_truth (n := -n) h' (by rw [shT_inv]; exact h) hp
  rwa [shT_inv] at this
theorem sh_nil {t : Tb} {n : Int} (h : FOk t) (h' : FOk (shT n t)) : truthsL (shT n t) = [] ↔ truthsL t = [] := by
  constructor
  · intro e
    rcases List.eq_nil_or_concat (truthsL t) with q | ⟨_, p, q⟩
    · exact q
    · have := sh_truth h h' (p := p) (by rw [q]; simp)
      rw [e] at this; cases this
  · intro e
    rcases List.eq_nil_or_concat (truthsL (shT n t)) with q | ⟨_, p, q⟩
    · exact q
    · have := sh_back h h' (p := p) (by rw [q]; simp)
      rw [e] at this; cases this
theorem isB_add {S T : Int → Prop} {r : Rg} {n : Int} (h : IsB S r) (hT : ∀ z, T z ↔ S (z - n)) : IsB T (shR n r) :=
  ⟨fun z hz => by have := h.all _ ((hT z).1 hz); simp only [shR]; omega, (hT _).2 (by show S (r.lo + n - n); rw [show r.lo + n - n = r.lo by omega]; exact h.lo),
    (hT _).2 (by show S (r.hi + n - n); rw [show r.hi + n - n = r.hi by omega]; exact h.hi)⟩
theorem sh_exists {t : Tb} {n : Int} (h : FOk t) (h' : FOk (shT n t)) {F : List Int → Int} (hF : ∀ p ∈ truthsL t, F (addL n p) = F p + n) (z : Int) :
    (∃ p ∈ truthsL (shT n t), F p = z) ↔ ∃ p ∈ truthsL t, F p = z - n := by
  constructor
  · rintro ⟨p, hp, rfl⟩
    refine ⟨addL (-n) p, sh_back h h' hp, ?_⟩
    have := hF _ (sh_back h h' hp)
    rw [addL_inv'] at this
    omega
  · rintro ⟨p, hp, e⟩
    exact ⟨addL n p, sh_truth h h' hp, by rw [hF p hp]; omega⟩
theorem sh_bounds {t : Tb} {n : Int} (h : FOk t) (h' : FOk (shT n t)) (q : truthsL t ≠ []) {i : Nat} (hi : (i : Int) ≤ t.last) : boundsL (truthsL (shT n t)) i = shR n (boundsL (truthsL t) i) := by
  have q' : truthsL (shT n t) ≠ [] := fun e => q ((sh_nil h h').1 e)
  have b1 := boundsL_isB h.vok q (hour := (i : Int)) (by omega) hi
  have b2 := boundsL_isB h'.vok q' (hour := (i : Int)) (by omega) hi
  refine b2.eq (isB_add b1 (T := fun z => ∃ p ∈ truthsL (shT n t), at_ p (i : Int).toNat = z) fun z => sh_exists h h' (fun p hp => addL_at ?_) z) fun _ => Iff.rfl
  have := truth_len h.vok hp
  have := h.len
  omega
theorem sh_dry {t : Tb} {n : Int} (h : FOk t) (h' : FOk (shT n t)) (q : truthsL t ≠ []) {a b : Int} (h0 : 0 ≤ a) (h1 : a ≤ b) (h2 : b ≤ t.last) : dryL (truthsL (shT n t)) a b = dryL (truthsL t) a b + n := by
  have q' : truthsL (shT n t) ≠ [] := fun e => q ((sh_nil h h').1 e)
  obtain ⟨r, hr, e⟩ := dry_isB h.fault q h0 h1 h2
  obtain ⟨s, hs, e'⟩ := dry_isB h'.fault q' h0 h1 (show b ≤ (shT n t).last from h2)
  have := hs.eq (isB_add hr (T := fun z => ∃ p ∈ truthsL (shT n t), topL p a b = z) fun z => sh_exists h h' (fun p hp => topL_add h0 h1 (by have := truth_len h.vok hp; have := h.len; omega)) z) fun _ => Iff.rfl
  rw [← e, ← e', this]
  rfl
/-! The hours backwards. -/
def rvM (last : Int) (m : Mk) : Mk := ⟨last - m.til, last - m.frm, m.top⟩
def rvT (t : Tb) : Tb := ⟨t.last, t.heights.reverse, t.step, t.levels, t.marks.map (rvM t.last)⟩
theorem rvT_inv (t : Tb) : rvT (rvT t) = t := by
  unfold rvT
  have h2 : (t.marks.map (rvM t.last)).map (rvM t.last) = t.marks := by
    rw [List.map_map]; conv => rhs; rw [← List.map_id t.marks]
    refine List.map_congr_left fun m _ => ?_
    obtain ⟨a, b, c⟩ := m
    show Mk.mk (t.last - (t.last - a)) (t.last - (t.last - b)) c = Mk.mk a b c
    rw [show t.last - (t.last - a) = a by omega, show t.last - (t.last - b) = b by omega]
  simp only [h2, List.reverse_reverse]
theorem prodN_append (a b : List Rg) : prodN (a ++ b) = prodN a * prodN b := by
  induction a with
  | nil => simp [prodN]
  | cons r a ih =>
    show szR r * prodN (a ++ b) = szR r * prodN a * prodN b
    rw [ih, Int.mul_assoc]
theorem prodN_reverse (a : List Rg) : prodN a.reverse = prodN a := by
  induction a with
  | nil => rfl
  | cons r a ih =>
    rw [List.reverse_cons, prodN_append, ih]
    show prodN a * (szR r * 1) = szR r * prodN a
    rw [Int.mul_one, Int.mul_comm]
theorem many_reverse {l : List Rg} (h : ∀ r ∈ l, r.lo ≤ r.hi) : manyN l.reverse = manyN l := by
  have h1 := (manyN_prod l h 1 (by omega) (by omega)).1
  have h2 := (manyN_prod l.reverse (fun r hr => h r (by simpa using hr)) 1 (by omega) (by omega)).1
  unfold manyN
  rw [h1, h2, prodN_reverse]
theorem topL_rev {p : List Int} {a b L : Int} (h0 : 0 ≤ a) (h1 : a ≤ b) (h2 : b ≤ L) (hl : (p.length : Int) = L + 1) : topL p.reverse (L - b) (L - a) = topL p a b := by
  obtain ⟨i, g1, g2, g3⟩ := topL_mem (l := p) h0 h1 (by omega)
  refine topL_eq (by omega) (by omega) (by simp; omega) (fun j k1 k2 => ?_) ⟨p.length - 1 - i, by omega, by omega, ?_⟩
  · rw [at_reverse (by omega)]
    exact topL_ge h0 (by omega) (by omega) (by omega)
  · rw [at_reverse (by omega), g3]
    congr 1; omega
theorem rv_lsok {t : Tb} {p : List Int} (h : LsOk t p) : LsOk (rvT t) p.reverse := by
  have hl := h.len
  refine ⟨by simp [rvT, hl], fun i hi => ?_, fun i hi => ?_⟩
  · simp at hi
    show (at_ t.heights.reverse i).lo ≤ _ ∧ _ ≤ (at_ t.heights.reverse i).hi
    rw [at_reverse hi, at_reverse (by omega), ← hl]
    exact h.rng _ (by omega)
  · simp at hi
    rw [at_reverse (by omega), at_reverse (by omega)]
    have := h.near (p.length - 1 - (i + 1)) (by omega)
    rw [show p.length - 1 - (i + 1) + 1 = p.length - 1 - i by omega] at this
    show _ ≤ t.step ∧ _ ≤ t.step
    omega
theorem rv_fok {t : Tb} (h : FOk t) : FOk (rvT t) := by
  have hmany : manyN (rvT t).heights ≤ 2000 := by
    show manyN t.heights.reverse ≤ 2000
    rw [many_reverse fun r hr => (h.hs r hr).2.1]; exact h.many
  have hhs : ∀ r ∈ (rvT t).heights, 0 ≤ r.lo ∧ r.lo ≤ r.hi ∧ r.hi ≤ 99 := fun r hr => h.hs r (by simpa [rvT] using hr)
  have hlen : (rvT t).heights.length = t.heights.length := by simp [rvT]
  have hok : HOk (rvT t) := ⟨by rw [hlen]; exact h.hok.len, hhs, h.s0, h.s1⟩
  have hsome : listsL (rvT t) ≠ [] := by
    obtain ⟨p, hp⟩ := List.exists_mem_of_ne_nil _ h.some
    intro e
    have := (mem_listsL hok hmany p.reverse).2 ((listed_iff _).2 (rv_lsok ((mem_lists h p).1 hp)))
    rw [e] at this; cases this
  refine ⟨h.l9, h.lv, by show (t.marks.map _).length ≤ 5; simp; exact h.m5, h.l0, by rw [hlen]; exact h.len, h.s0, h.s1, hhs, h.ls, fun m hm => ?_, hmany, hsome⟩
  obtain ⟨m, hm1, rfl⟩ := List.mem_map.1 hm
  have := h.ms m hm1
  refine ⟨?_, this.2⟩
  show 0 ≤ t.last - m.til ∧ t.last - m.til ≤ t.last - m.frm ∧ t.last - m.frm ≤ t.last
  omega
theorem rv_truth {t : Tb} (h : FOk t) {p : List Int} (hp : p ∈ truthsL t) : p.reverse ∈ truthsL (rvT t) := by
  rw [truth_iff h] at hp
  rw [truth_iff (rv_fok h)]
  refine ⟨rv_lsok hp.1, fun m hm => ?_⟩
  obtain ⟨m, hm1, rfl⟩ := List.mem_map.1 hm
  have hb := h.ms m hm1
  have hl := hp.1.len
  have hl2 := h.len
  have := hp.2 m hm1
  show m.top.lo ≤ topL p.reverse (t.last - m.til) (t.last - m.frm) ∧ topL p.reverse (t.last - m.til) (t.last - m.frm) ≤ m.top.hi
  rw [topL_rev hb.1.1 hb.1.2.1 hb.1.2.2 (by omega)]
  exact this
theorem rv_back {t : Tb} (h : FOk t) {p : List Int} (hp : p ∈ truthsL (rvT t)) : p.reverse ∈ truthsL t := by
  have := rv_truth (rv_fok h) hp
  rwa [rvT_inv] at this
theorem rv_nil {t : Tb} (h : FOk t) : truthsL (rvT t) = [] ↔ truthsL t = [] := by
  constructor
  · intro e
    rcases List.eq_nil_or_concat (truthsL t) with q | ⟨_, p, q⟩
    · exact q
    · have := rv_truth h (p := p) (by rw [q]; simp)
      rw [e] at this; cases this
  · intro e
    rcases List.eq_nil_or_concat (truthsL (rvT t)) with q | ⟨_, p, q⟩
    · exact q
    · have := rv_back h (p := p) (by rw [q]; simp)
      rw [e] at this; cases this
theorem rv_bounds {t : Tb} (h : FOk t) (q : truthsL t ≠ []) {i : Nat} (hi : (i : Int) ≤ t.last) : boundsL (truthsL (rvT t)) ((t.heights.length - 1 - i : Nat) : Int) = boundsL (truthsL t) i := by
  have q' : truthsL (rvT t) ≠ [] := fun e => q ((rv_nil h).1 e)
  have hl2 := h.len
  have b1 := boundsL_isB h.vok q (hour := (i : Int)) (by omega) hi
  have b2 := boundsL_isB (rv_fok h).vok q' (hour := ((t.heights.length - 1 - i : Nat) : Int)) (by omega) (show _ ≤ t.last by omega)
  refine b2.eq b1 fun z => ?_
  simp only [Int.toNat_natCast]
  constructor
  · rintro ⟨p, hp, e⟩
    have hpl := truth_len (rv_fok h).vok hp
    have : (rvT t).heights.length = t.heights.length := by simp [rvT]
    refine ⟨p.reverse, rv_back h hp, ?_⟩
    rw [at_reverse (by omega), ← e]
    congr 1; omega
  · rintro ⟨p, hp, e⟩
    have hpl := truth_len h.vok hp
    refine ⟨p.reverse, rv_truth h hp, ?_⟩
    rw [at_reverse (by omega), ← e]
    congr 1; omega
theorem wet_add (p : List Int) (n lv : Int) : wetL (addL n p) (lv + n) = wetL p lv := by
  unfold wetL wetN
  rw [addL_len]
  congr 1
  refine List.filter_congr fun i hi => ?_
  rw [List.mem_range] at hi
  rw [addL_at hi]
  congr 1
  rw [eq_iff_iff]
  omega
end Go.Proofs
