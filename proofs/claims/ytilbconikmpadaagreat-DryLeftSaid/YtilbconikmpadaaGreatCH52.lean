/- Plain: yards with some hires; better orders. -/
import Derived.Test.YtilbconikmpadaaGreatG22
set_option linter.all false
namespace Go.Proofs
open Go.Fs
set_option maxHeartbeats 1000000
set_option maxRecDepth 8000
theorem zw6 (n i:Nat):bitI (n:Int) i = n.testBit i:=by
 have e:((n:Int) / 2 ^ i) = ((n / 2 ^ i:Nat):Int):=by simp
 unfold bitI
 rw [Nat.testBit_eq_decide_div_mod_eq,e]
 congr 1
 simp only [eq_iff_iff]
 omega
theorem zxo (m i:Nat):bitI ((2:Int) ^ m - 1) i = decide (i < m):=by
 have h0:=Nat.two_pow_pos m
 have e:((2:Int) ^ m - 1) = ((2 ^ m - 1:Nat):Int):=by
  rw [show ((2:Int) ^ m) = ((2 ^ m:Nat):Int) by simp]; omega
 rw [e,zw6,zcC]
theorem zwS {y:Yd} {b:Int}:zaV (zwR y b) ≠ [] ↔ ∃ p ∈ zaJ y.t,∀ i,i < y.hires.length → bitI b i = true → zcX y p i = true:=by
 constructor
 ·intro h
  obtain ⟨p,hp⟩:=List.exists_mem_of_ne_nil _ h
  obtain ⟨h1,h2⟩:=zfJ.1 hp
  exact ⟨p,h1,zw2.1 h2⟩
 ·rintro ⟨p,h1,h2⟩ e
  have:p ∈ zaV (zwR y b):=zfJ.2 ⟨h1,zw2.2 h2⟩
  rw [e] at this; cases this
theorem zxk {y:Yd} {m:Nat} (h:m ≤ y.hires.length):zaV (zwR y ((2:Int) ^ m - 1)) ≠ [] ↔ zxq y m = true:=by
 rw [zwS,zw0]
 constructor
 ·rintro ⟨p,h1,h2⟩
  exact ⟨p,h1,fun k hk => h2 k (by omega) (by rw [zxo]; simpa using hk)⟩
 ·rintro ⟨p,h1,h2⟩
  exact ⟨p,h1,fun k hk hb => h2 k (by rw [zxo] at hb; simpa using hb)⟩
theorem zxm {y:Yd} (hv:VY y):zxq y 0 = true:=by
 rw [zw0]
 obtain ⟨p,hp⟩:=List.exists_mem_of_ne_nil _ hv.tr
 exact ⟨p,hp,fun k hk => by omega⟩
theorem zxh {y:Yd} (hv:VY y):(zfc y = (0,7) ∧ zaV y ≠ []) ∨ ∃ m:Nat,m < y.hires.length ∧ zfc y = ((m:Int),0) ∧ zaV (zwR y ((2:Int) ^ m - 1)) ≠ [] ∧ zaV (zwR y (2 * (2:Int) ^ m - 1)) = []:=by
 rw [zxe hv]
 rcases zwY (y:=y) y.hires.length 0 (by omega) with ⟨h1,h2⟩ | ⟨m,h1,h2,h3,h4,h5⟩
 ·refine .inl ⟨h1,preY_all.1 ?_⟩
  cases e:y.hires.length with
  | zero => exact zxm hv
  | succ k => exact h2 k (by omega) (by omega)
 ·refine .inr ⟨m,h2,h3,(zxk (by omega)).2 ?_,?_⟩
  ·cases e:m with
   | zero => exact zxm hv
   | succ k => exact h5 k (by omega) (by omega)
  ·have e:(2 * (2:Int) ^ m - 1) = (2:Int) ^ (m + 1) - 1:=by rw [Int.pow_succ]; omega
   rw [e]
   apply Classical.byContradiction
   intro q
   rw [(zxk (by omega)).1 q] at h4
   cases h4
structure Lens (y:Yd):Prop where
 a:y.t.heights.length ≤ 4096
 b:y.t.levels.length ≤ 4096
 c:y.t.marks.length ≤ 4096
 d:y.chairs.length ≤ 4096
 e:y.order.length ≤ 4096
 f:y.hires.length ≤ 4096
theorem lens {y:Yd} (hv:VY y):Lens y:=by
 have h1:=hv.fok.len
 have h2:=hv.l0
 have h3:=hv.fok.lv
 have h4:=hv.fok.m5
 have h5:=hv.c5
 have h6:=zcY hv.ord
 have h7:=hv.r5
 exact ⟨by omega,by omega,by omega,by omega,by omega,by omega⟩
theorem zwQ (n:Nat):zaG n [] = true:=by simp [zaG]
def zwP (y:Yd):Yd:={ y with order:=[],hires:=[] }
def zwX (y:Yd) (h:Int):Yd:={ y with hands:=h }
theorem bare_ok {y:Yd} (hv:VY y):VY (zwP y):=⟨hv.c5,by show ([]:List Rg).length ≤ 5; simp,hv.f,hv.tr,hv.h0,hv.h5,zwQ _,hv.ch,fun h hh => by cases hh⟩
theorem hands_ok {y:Yd} (hv:VY y) {h:Int} (h0:0 ≤ h) (h5:h ≤ 5):VY (zwX y h):=⟨hv.c5,hv.r5,hv.f,hv.tr,h0,h5,hv.ord,hv.ch,hv.hi⟩
theorem zw4 {y:Yd} (hv:VY y) (h:Int):zaV (zwP y) ≠ [] ∧ zaV (zwX (zwP y) h) = zaV (zwP y):=by
 have key:∀ z:Yd,z.t = y.t → z.hires = [] → zaV z = zaJ y.t:=fun z h1 h2 => by
  unfold zaV
  rw [h1,List.filter_eq_self]
  intro p _
  unfold zc7
  rw [h2]
  rfl
 rw [key (zwP y) rfl rfl,key (zwX (zwP y) h) rfl rfl]
 exact ⟨hv.tr,rfl⟩
theorem no_better {y:Yd} (hv:VY y) {h:Int} (hh:y.hands ≤ h) {o:List Int} (ho:zaG y.chairs.length o = true) (k:Nat) :
  (zhA (zwP y) (zaV (zwP y))).2 ≤ zc2 (zwP y) (zaV (zwP y)) o ∧ zc2 (zwP y) (zaV (zwP y)) o ≤ zc2 (zwP y) (zaV (zwP y)) (o.take k) ∧
  (zhA (zwX (zwP y) h) (zaV (zwP y))).2 ≤ (zhA (zwP y) (zaV (zwP y))).2 ∧ zc2 (zwP y) (zaV (zwP y)) (zhA (zwP y) (zaV (zwP y))).1 = (zhA (zwP y) (zaV (zwP y))).2 ∧ zaG y.chairs.length (zhA (zwP y) (zaV (zwP y))).1 = true:=by
 obtain ⟨ht,he⟩:=zw4 hv h
 obtain ⟨g1,g2,g3⟩:=zw7 (y:=zwP y) ht
 obtain ⟨k1,k2,k3⟩:=zw7 (y:=zwX (zwP y) h) (ls:=zaV (zwP y)) ht
 refine ⟨by have:=g3.le o (by rw [List.nil_append]; exact ho); rwa [List.nil_append] at this,?_,?_,g2,g1⟩
 ·have:=zxn (y:=zwP y) ht (o.take k) (o.drop k)
  rwa [List.take_append_drop] at this
 ·have h1:=k3.le (zhA (zwP y) (zaV (zwP y))).1 (by rw [List.nil_append]; exact g1)
  rw [List.nil_append] at h1
  have h2:=zxb (y:=zwP y) (z:=zwX (zwP y) h) (o:=(zhA (zwP y) (zaV (zwP y))).1) (o':=(zhA (zwP y) (zaV (zwP y))).1) rfl rfl (fun c k q => inY_hands hh q) ht
  omega
end Go.Proofs
