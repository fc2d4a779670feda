/- Plain: what the program answers for a yard that has a truth. -/
import Derived.Test.YtilbconikmpadaaGreatCH53
set_option linter.all false
namespace Go.Proofs
open Go.Fs
set_option maxHeartbeats 1000000
set_option maxRecDepth 8000
theorem zr3 {y:Yd} (hv:VY y) (h:zaJ y ≠ []):zf0 y = ([],0):=by
 obtain ⟨ls,e,hl⟩:=zdZ (psY hv)
 obtain ⟨p,hp⟩:=List.exists_mem_of_ne_nil _ h
 obtain ⟨h1,h2⟩:=zb3.1 hp
 have hP:zn7 y (fun k => k ∉ ([]:List Nat)):=⟨p,h1,fun k hk _ => (czG.1 h2) k (List.mem_range.2 hk)⟩
 have:=zfU (hl.least [] trivial hP)
 rw [ziI hv,e,List.eq_nil_of_length_eq_zero (Nat.le_zero.1 this)]
 rfl
theorem zfx {y:Yd} (hv:VY y) {p:List Int} (h:p ∈ zaC y.t):za3 y.t p = true:=by
 have:=(zei hv.fok.vok p).1 h
 unfold zbE at this
 rw [czl] at this
 exact this.1
theorem ztB {y:Yd} (hv:VY y) {p:List Int} (h:p ∈ zaJ y):zkh y p = true:=by
 obtain ⟨h1,h2⟩:=zb3.1 h
 unfold zkh
 rw [(zei hv.fok.vok p).1 h1,h2]
 rfl
theorem zud {y:Yd} (hv:VY y) (h:zaJ y ≠ []) (o:List Int) {c:Int} (h0:0 ≤ c) (h1:c < y.chairs.length) {p:List Int} (hp:p ∈ zaJ y) :
  (zeG y (zaJ y) o c).lo ≤ ((zbG y o p c).free.length:Nat) ∧ ((zbG y o p c).free.length:Nat) ≤ (zeG y (zaJ y) o c).hi:=by
 have hb:=zen hv h .free o h0 h1
 rw [zgS hv h o h0 h1] at hb
 exact hb.all _ ⟨p,hp,rfl⟩
theorem zsf {y:Yd} {o p:List Int} {c:Int} {k:Nat} (hk:k < hrs y) (hp:p ∈ zaJ y) :
  (zdR y (zaJ y) o c k = 1 ∧ (zbG y o p c).free.contains (k:Int) = true) ∨ (zdR y (zaJ y) o c k = 2 ∧ (zbG y o p c).free.contains (k:Int) = false) ∨ zdR y (zaJ y) o c k = 3:=by
 have h0:zaJ y ≠ []:=fun e => by rw [e] at hp; cases hp
 rw [← zga o p c hk]
 rcases zf3 (y:=y) (o:=o) (c:=c) (k:=k) h0 with ⟨h1,h2⟩ | ⟨h1,h2⟩ | h1
 ·exact .inl ⟨h1,by have:=h2 p hp; rwa [czF] at this⟩
 ·exact .inr (.inl ⟨h1,by have:=h2 p hp; rwa [czF] at this⟩)
 ·exact .inr (.inr h1)
end Go.Proofs
