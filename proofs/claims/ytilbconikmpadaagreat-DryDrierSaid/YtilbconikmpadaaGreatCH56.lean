/- Plain: a chair that is drier. -/
import Derived.Test.YtilbconikmpadaaGreatCH55
set_option linter.all false
namespace Go.Proofs
open Go.Fs
set_option maxHeartbeats 1000000
set_option maxRecDepth 8000
theorem at_set_eq {α:Type} [Inhabited α] {l:List α} {c:Nat} {x:α} (h:c < l.length):at_ (l.set c x) c = x:=by
 simp [at_,List.getD,h]
theorem zqm {α:Type} {l:List (List α)} {c:Nat} (h:c < l.length) (x:List α):(l.set c x).getD c [] = x:=by
 simp [List.getD,h]
def zc2 (y:Yd) (c:Nat) (C:Ch):Yd:={ y with hires:=[],chairs:=y.chairs.set c C }
theorem chair_ok {y:Yd} (hv:VY y) {c:Nat} {C:Ch} (hC:(0 ≤ C.row ∧ C.row < y.t.levels.length) ∧ (0 ≤ C.hours ∧ C.hours ≤ 5) ∧ 1 ≤ C.rot ∧ C.rot ≤ 9):VY (zc2 y c C):=by
 refine ⟨by show (y.chairs.set c C).length ≤ 5; rw [czt]; exact hv.c5,by show ([]:List Rg).length ≤ 5; simp,hv.f,hv.tr,hv.h0,hv.h5,by show za2 (y.chairs.set c C).length y.order = true; rw [czt]; exact hv.ord,fun x hx => ?_,fun h hh => by cases hh⟩
 rcases List.mem_or_eq_of_mem_set hx with h | h
 ·exact hv.ch x h
 ·rw [h]; exact hC
theorem zls {y:Yd} {c:Nat} {C:Ch} (o t:List Int) (hc:c < y.chairs.length) (h1:at_ y.t.levels (at_ y.chairs c).row.toNat ≤ at_ y.t.levels C.row.toNat) (h2:(at_ y.chairs c).rot ≤ C.rot) (h3:C.hours ≤ (at_ y.chairs c).hours) :
  (zek (zc2 y c C) o t c).wet ≤ (zek y o t c).wet ∧ (zek y o t c).rot ≤ (zek (zc2 y c C) o t c).rot ∧ zng (zek (zc2 y c C) o t c).free (zek y o t c).free = true:=by
 have e:at_ (zc2 y c C).chairs (c:Int).toNat = C:=by rw [czF]; exact at_set_eq hc
 unfold zek
 rw [e,czF]
 refine sy_mono (fun k _ h => ?_) (by omega) h3
 unfold zph lvY at h ⊢
 rw [e] at h
 rw [czl,decide_eq_true_eq] at h ⊢
 exact ⟨by rw [czF]; exact Int.lt_of_le_of_lt h1 h.1,h.2⟩
end Go.Proofs
