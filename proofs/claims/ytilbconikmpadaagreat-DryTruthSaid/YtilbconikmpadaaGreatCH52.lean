/- Plain: yards with some hires; better orders. -/
import Derived.Test.YtilbconikmpadaaGreatG22
set_option linter.all false
namespace Go.Proofs
open Go.Fs
set_option maxHeartbeats 1000000
set_option maxRecDepth 8000
theorem bitI_nat (n i:Nat):bitI (n:Int) i = n.testBit i:=by
 have e:((n:Int) / 2 ^ i) = ((n / 2 ^ i:Nat):Int):=by simp
 unfold bitI
 rw [Nat.testBit_eq_decide_div_mod_eq,e]
 congr 1
 simp only [eq_iff_iff]
 omega
theorem zuq (m i:Nat):bitI ((2:Int) ^ m - 1) i = decide (i < m):=by
 have h0:=Nat.two_pow_pos m
 have e:((2:Int) ^ m - 1) = ((2 ^ m - 1:Nat):Int):=by
  rw [show ((2:Int) ^ m) = ((2 ^ m:Nat):Int) by simp]; omega
 rw [e,bitI_nat,ze2]
theorem zot {y:Yd} {b:Int}:zaJ (zvw y b) ≠ [] ↔ ∃ p ∈ zaC y.t,∀ i,i < y.hires.length → bitI b i = true → zcx y p i = true:=by
 constructor
 ·intro h
  obtain ⟨p,hp⟩:=List.exists_mem_of_ne_nil _ h
  obtain ⟨h1,h2⟩:=zb3.1 hp
  exact ⟨p,h1,zkC.1 h2⟩
 ·rintro ⟨p,h1,h2⟩ e
  have:p ∈ zaJ (zvw y b):=zb3.2 ⟨h1,zkC.2 h2⟩
  rw [e] at this; cases this
theorem ztF {y:Yd} {m:Nat} (h:m ≤ y.hires.length):zaJ (zvw y ((2:Int) ^ m - 1)) ≠ [] ↔ zvR y m = true:=by
 rw [zot,zkd]
 constructor
 ·rintro ⟨p,h1,h2⟩
  exact ⟨p,h1,fun k hk => h2 k (by omega) (by rw [zuq]; simpa using hk)⟩
 ·rintro ⟨p,h1,h2⟩
  exact ⟨p,h1,fun k hk hb => h2 k (by rw [zuq] at hb; simpa using hb)⟩
theorem ztV {y:Yd} (hv:VY y):zvR y 0 = true:=by
 rw [zkd]
 obtain ⟨p,hp⟩:=List.exists_mem_of_ne_nil _ hv.tr
 exact ⟨p,hp,fun k hk => by omega⟩
theorem zsh {y:Yd} (hv:VY y):(zeE y = (0,7) ∧ zaJ y ≠ []) ∨ ∃ m:Nat,m < y.hires.length ∧ zeE y = ((m:Int),0) ∧ zaJ (zvw y ((2:Int) ^ m - 1)) ≠ [] ∧ zaJ (zvw y (2 * (2:Int) ^ m - 1)) = []:=by
 rw [zpu hv]
 rcases zgT (y:=y) y.hires.length 0 (by omega) with ⟨h1,h2⟩ | ⟨m,h1,h2,h3,h4,h5⟩
 ·refine .inl ⟨h1,ztW.1 ?_⟩
  cases e:y.hires.length with
  | zero => exact ztV hv
  | succ k => exact h2 k (by omega) (by omega)
 ·refine .inr ⟨m,h2,h3,(ztF (by omega)).2 ?_,?_⟩
  ·cases e:m with
   | zero => exact ztV hv
   | succ k => exact h5 k (by omega) (by omega)
  ·have e:(2 * (2:Int) ^ m - 1) = (2:Int) ^ (m + 1) - 1:=by rw [Int.pow_succ]; omega
   rw [e]
   apply Classical.byContradiction
   intro q
   rw [(ztF (by omega)).1 q] at h4
   cases h4
structure Lens (y:Yd):Prop where
 a:y.t.heights.length ≤ 4096
 b:y.t.levels.length ≤ 4096
 c:y.t.marks.length ≤ 4096
 d:y.chairs.length ≤ 4096
 e:y.order.length ≤ 4096
 f:y.hires.length ≤ 4096
theorem lens {y:Yd} (hv:VY y):Lens y:=by
 have h1:=hv.fok.len
 have h2:=hv.l0
 have h3:=hv.fok.lv
 have h4:=hv.fok.m5
 have h5:=hv.c5
 have h6:=zev hv.ord
 have h7:=hv.r5
 exact ⟨by omega,by omega,by omega,by omega,by omega,by omega⟩
theorem ziq (n:Nat):za2 n [] = true:=by simp [za2]
def zhB (y:Yd) (h:Int):Yd:={ y with hands:=h }
theorem hands_ok {y:Yd} (hv:VY y) {h:Int} (h0:0 ≤ h) (h5:h ≤ 5):VY (zhB y h):=⟨hv.c5,hv.r5,hv.f,hv.tr,h0,h5,hv.ord,hv.ch,hv.hi⟩
end Go.Proofs
