/- Plain: a table with a wider range. -/
import Derived.Test.YthdikbechlgkdaaCS26
set_option linter.all false
namespace Go.Proofs
open Go.Fs
set_option linter.unusedSimpArgs false
set_option linter.unusedVariables false
set_option maxHeartbeats 1000000
set_option maxRecDepth 8000
theorem at_setW {α : Type} [Inhabited α] {l : List α} {k i : Nat} {x : α} (h : k < l.length) : at_ (l.set k x) i = if i = k then x else at_ l i := by
  unfold at_
  simp only [List.getD, List.getElem?_set]
  by_cases e : i = k
  · subst e; simp [h]
  · rw [if_neg (fun e' => e e'.symm), if_neg e]
structure WideT (t x : Tb) : Prop where
  ls : ∀ p, LsOk t p → LsOk x p
  tr : ∀ p ∈ truthsL t, p ∈ truthsL x
  ps : ∀ S, Poss t S → Poss x S
theorem wideH {t x : Tb} (h : FOk t) (h' : FOk x) {k : Nat} {r : Rg} (hk : k < t.heights.length) (h1 : r.lo ≤ (at_ t.heights k).lo) (h2 : (at_ t.heights k).hi ≤ r.hi)
    (hx : (⟨t.last, t.heights.set k r, t.step, t.levels, t.marks⟩ : Tb) = x) : WideT t x := by
  have hxh : x.heights = t.heights.set k r := by rw [← hx]
  have hxs : x.step = t.step := by rw [← hx]
  have hmk : x.marks = t.marks := by rw [← hx]
  have hls : ∀ p, LsOk t p → LsOk x p := fun p hp => by
    refine ⟨by rw [hxh, List.length_set]; exact hp.len, fun i hi => ?_, fun i hi => by rw [hxs]; exact hp.near i hi⟩
    have := hp.rng i hi
    rw [hxh, at_setW hk]
    by_cases e : i = k
    · subst e; rw [if_pos rfl]; omega
    · rw [if_neg e]; exact this
  refine ⟨hls, fun p hp => ?_, fun S hS => ?_⟩
  · rw [truth_iff h', hmk]
    rw [truth_iff h] at hp
    exact ⟨hls p hp.1, hp.2⟩
  · rw [poss_iff h', hmk]
    rw [poss_iff h] at hS
    obtain ⟨p, k1, k2⟩ := hS
    exact ⟨p, hls p k1, k2⟩
def RtM (p : List Int) (m : Mk) : Prop := m.top.lo ≤ topL p m.frm m.til ∧ topL p m.frm m.til ≤ m.top.hi
theorem wideM {t x : Tb} (h : FOk t) (h' : FOk x) {k : Nat} {r : Rg} (hk : k < t.marks.length) (h1 : r.lo ≤ (at_ t.marks k).top.lo) (h2 : (at_ t.marks k).top.hi ≤ r.hi)
    (hx : (⟨t.last, t.heights, t.step, t.levels, t.marks.set k ⟨(at_ t.marks k).frm, (at_ t.marks k).til, r⟩⟩ : Tb) = x) : WideT t x := by
  have hxh : x.heights = t.heights := by rw [← hx]
  have hxs : x.step = t.step := by rw [← hx]
  have hmk : x.marks = t.marks.set k ⟨(at_ t.marks k).frm, (at_ t.marks k).til, r⟩ := by rw [← hx]
  have hls : ∀ p, LsOk t p → LsOk x p := fun p hp => ⟨by rw [hxh]; exact hp.len, by rw [hxh]; exact hp.rng, fun i hi => by rw [hxs]; exact hp.near i hi⟩
  have hml : x.marks.length = t.marks.length := by rw [hmk, List.length_set]
  have hat : ∀ (p : List Int) (i : Nat), i < t.marks.length → RtM p (at_ t.marks i) → RtM p (at_ x.marks i) := fun p i hi hr => by
    rw [hmk, at_setW hk]
    by_cases e : i = k
    · subst e; rw [if_pos rfl]; unfold RtM at hr ⊢; simp only; omega
    · rw [if_neg e]; exact hr
  refine ⟨hls, fun p hp => ?_, fun S hS => ?_⟩
  · rw [truth_iff h']
    rw [truth_iff h] at hp
    refine ⟨hls p hp.1, fun m hm => ?_⟩
    obtain ⟨i, hi, rfl⟩ := List.mem_iff_getElem.1 hm
    rw [hml] at hi
    have := hat p i hi (hp.2 _ (at_mem hi))
    rw [at_get (by rw [hml]; exact hi)] at this
    exact this
  · rw [poss_iff h']
    rw [poss_iff h] at hS
    obtain ⟨p, k1, k2⟩ := hS
    exact ⟨p, hls p k1, fun i hi hs => hat p i (by omega) (k2 i (by omega) hs)⟩
theorem wide_dry {t x : Tb} (h : faultT t = 0) (h' : faultT x = 0) (w : WideT t x) (q : truthsL t ≠ []) (q' : truthsL x ≠ []) (hl : x.last = t.last) {a b : Int} (h0 : 0 ≤ a) (h1 : a ≤ b) (h2 : b ≤ t.last) :
    dryL (truthsL t) a b ≤ dryL (truthsL x) a b := by
  obtain ⟨r, g1, g2⟩ := dry_isB h q h0 h1 h2
  obtain ⟨r', k1, k2⟩ := dry_isB h' q' h0 h1 (by omega)
  obtain ⟨p, hp, e⟩ := g1.hi
  have := (k1.all _ ⟨p, w.tr p hp, e⟩).2
  rw [← g2, ← k2]
  exact this
end Go.Proofs
