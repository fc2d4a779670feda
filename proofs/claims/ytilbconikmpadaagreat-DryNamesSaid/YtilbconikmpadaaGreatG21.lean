/- The texts H44, H45, H46, joined. -/
import Derived.Test.YtilbconikmpadaaGreatG20
set_option linter.all false
namespace Go.Proofs
open Go.Fs
set_option maxHeartbeats 4000000
set_option maxRecDepth 8000
def PL (y:Yd) (ls:List (List Int)) (b:List Int):zaJ:=zas 9999999 (zec (fun (y':Yd) (ls':List (List Int)) (b':List Int) => (y' = y ∧ ls' = ls) ∧ ∃ c:Nat,c < y.chairs.length ∧ za8 y.chairs.length (b ++ [(c:Int)]) = true ∧ b' = b ++ [(c:Int)]) leastY) P149
theorem PL_flag (y:Yd) (ls:List (List Int)) (b:List Int) (d:Option Nat):zaF (PL y ls b) d = none:=(zag (by decide) d).trans (zki d)
attribute [go_sem] PL_flag
def P150:zaJ:=P149
theorem P150_app (g:FuncId):P150 g = (P149) g:=rfl
theorem P150_ok:zaz Tryz.prog P150:=P149_ok
attribute [go_sem] P150_app
theorem zoa (d:Option Nat):zaF P150 d = none:=zki d
attribute [go_sem] zoa
def P151:zaJ:=P150
theorem P151_app (g:FuncId):P151 g = (P150) g:=rfl
theorem zeG:zaz Tryz.prog P151:=P150_ok
attribute [go_sem] P151_app
theorem zn9 (d:Option Nat):zaF P151 d = none:=zoa d
attribute [go_sem] zn9
theorem ztE (l:List Int) (h:l.length ≤ 4096):zaP Tryz.prog 23 [Enc.enc l] (· = Enc.enc l):=by
 simp only [zcf]
 refine cpz zeG Tryz.func23 zaB ?_
 rw [Tryz.ntmps23]
 simp only [Tryz.f23,zai,zam]
 simp (maxSteps:=4000000) only [go_sem,AV.one,zae,zac,zad,zan,zaq,zaa,czb,cza,↓reduceIte,zab,zay,onz]
 all_goals (repeat' first | (with_reducible first | rfl | apply And.intro | assumption) | ((with_reducible show zaj _ _ = true); rfl)) <;> try first | omega | (simp only [InR]; omega)
 simp [zeF,AV.one]
theorem ztf (a b:List Int) (h:a.length ≤ 4096 ∧ b.length ≤ 4096):zaP Tryz.prog 31 [Enc.enc a,Enc.enc b] (· = Enc.enc (decide (a = b))):=by
 have h1:=h.1
 have h2:=h.2
 cases c:decide ((a.length:Int) = b.length)
 ·have hn:decide (a = b) = false:=by
   simp only [decide_eq_false_iff_not] at c ⊢
   intro e; apply c; rw [e]
  rw [hn]
  simp only [zcf]
  refine cpz zeG Tryz.func31 zaB ?_
  rw [Tryz.ntmps31]
  simp only [Tryz.f31,zai,zam]
  simp (maxSteps:=4000000) only [go_sem,AV.one,zae,zac,zad,zan,zaq,zaa,czb,cza,↓reduceIte,zab,zay,onz,c]
 ·have hl:a.length = b.length:=by simp only [decide_eq_true_eq] at c; omega
  simp only [zcf]
  refine cpz zeG Tryz.func31 zaB ?_
  rw [Tryz.ntmps31]
  simp only [Tryz.f31,zai,zam]
  simp (maxSteps:=4000000) only [go_sem,AV.one,zae,zac,zad,zan,zaq,zaa,czb,cza,↓reduceIte,zab,zay,onz,c]
  refine zbG (a.length) [] [0,1,4] (fun i => [(5,.int .i64 i)]) (fun _ m => m) (fun i => a.take i = b.take i) ?_ ?_ ?_ ?_
  ·simp
  ·simp [AV.bare,zal,zaN,zaR,zak,zar,zaf,tokz1,lk,zaa,za3]
  ·intro i hi hI
   have hi':=czH.2 hi
   have hib:i < b.length:=by omega
   cases c2:decide (at_ a i = at_ b i) <;>
    simp (maxSteps:=4000000) only [go_sem,AV.one,zae,zac,zad,zan,zaq,zaa,czb,cza,↓reduceIte,zab,zay,onz,zax hi,zax hib,hi',c2]
   all_goals all_goals (repeat' first | (with_reducible first | rfl | apply And.intro | assumption) | ((with_reducible show zaj _ _ = true); rfl)) <;> try first | omega | (simp only [InR]; omega)
   ·have:decide (a = b) = false:=by
     simp only [decide_eq_false_iff_not] at c2 ⊢
     intro e; apply c2; rw [e]
    rw [this]
   ·simp only [decide_eq_true_eq] at c2
    refine nxt hi (by rw [zaV hi,zaV hib,hI,c2]) ?_
    simp [AV.bare,zal,zaN,zaR,zak,zar,zaf,tokz1,lk,zaa,za3]
  ·intro hI
   rw [czm,hl,czm] at hI
   simp (maxSteps:=4000000) only [go_sem,AV.one,zae,zac,zad,zan,zaq,zaa,czb,cza,↓reduceIte,zab,zay,onz]
   simp [hI]
theorem zp4 (y:Yd) (h:y.t.heights.length ≤ 4096 ∧ y.order.length ≤ 4096):zaP Tryz.prog 25 [Enc.enc y] (· = Enc.enc (zbk y)):=by
 simp only [zcf]
 refine cpz zeG Tryz.func25 zaB ?_
 rw [Tryz.ntmps25]
 simp only [Tryz.f25,zai,zam]
 simp (maxSteps:=4000000) only [go_sem,AV.one,zae,zac,zad,zan,zaq,zaa,czb,cza,↓reduceIte,zab,zay,onz,h.1,h.2]
 all_goals exact auz
def zmz (y:Yd):Bool:=if zo6 y.t = false ∨ 7 < y.chairs.length ∨ 7 < y.hires.length ∨ 7 < y.order.length then false else decide (zbq y.t ≠ 0) || decide (zc7 y.t.heights ≤ 60)
theorem thinY_len {y:Yd} (h:zmz y = true):(y.t.heights.length ≤ 12 ∧ y.t.levels.length ≤ 8 ∧ y.t.marks.length ≤ 7) ∧ y.chairs.length ≤ 7 ∧ y.hires.length ≤ 7 ∧ y.order.length ≤ 7:=by
 unfold zmz at h
 split at h
 ·cases h
 ·rename_i q
  simp only [not_or,Bool.not_eq_false] at q
  exact ⟨zrl q.1,by omega,by omega,by omega⟩
theorem zuH (y:Yd):zaP Tryz.prog 19 [Enc.enc y] (· = Enc.enc (zmz y)):=by
 unfold zmz
 cases a0:zo6 y.t
 ·rw [if_pos (.inl rfl)]
  simp only [zcf]
  refine cpz zeG Tryz.func19 zaB ?_
  rw [Tryz.ntmps19]
  simp only [Tryz.f19,zai,zam]
  simp (maxSteps:=4000000) only [go_sem,AV.one,zae,zac,zad,zan,zaq,zaa,czb,cza,↓reduceIte,zab,zay,onz,gt_iff_lt,a0]
 have hl:=zrl a0
 by_cases a1:7 < y.chairs.length
 ·rw [if_pos (.inr (.inl a1))]
  simp only [zcf]
  refine cpz zeG Tryz.func19 zaB ?_
  rw [Tryz.ntmps19]
  simp only [Tryz.f19,zai,zam]
  simp (maxSteps:=4000000) only [go_sem,AV.one,zae,zac,zad,zan,zaq,zaa,czb,cza,↓reduceIte,zab,zay,onz,gt_iff_lt,a0,show decide ((7:Int) < y.chairs.length) = true by simp; omega]
 by_cases a2:7 < y.hires.length
 ·rw [if_pos (.inr (.inr (.inl a2)))]
  simp only [zcf]
  refine cpz zeG Tryz.func19 zaB ?_
  rw [Tryz.ntmps19]
  simp only [Tryz.f19,zai,zam]
  simp (maxSteps:=4000000) only [go_sem,AV.one,zae,zac,zad,zan,zaq,zaa,czb,cza,↓reduceIte,zab,zay,onz,gt_iff_lt,a0,show decide ((7:Int) < y.chairs.length) = false by simp; omega,show decide ((7:Int) < y.hires.length) = true by simp; omega]
 by_cases a3:7 < y.order.length
 ·rw [if_pos (.inr (.inr (.inr a3)))]
  simp only [zcf]
  refine cpz zeG Tryz.func19 zaB ?_
  rw [Tryz.ntmps19]
  simp only [Tryz.f19,zai,zam]
  simp (maxSteps:=4000000) only [go_sem,AV.one,zae,zac,zad,zan,zaq,zaa,czb,cza,↓reduceIte,zab,zay,onz,gt_iff_lt,a0,show decide ((7:Int) < y.chairs.length) = false by simp; omega,show decide ((7:Int) < y.hires.length) = false by simp; omega,show decide ((7:Int) < y.order.length) = true by simp; omega]
 rw [if_neg (by simp; omega)]
 by_cases c:zbq y.t = 0
 ·have hok:=(zcs c).hok
  simp only [zcf]
  refine cpz zeG Tryz.func19 zaB ?_
  rw [Tryz.ntmps19]
  simp only [Tryz.f19,zai,zam]
  simp (maxSteps:=4000000) only [go_sem,AV.one,zae,zac,zad,zan,zaq,zaa,czb,cza,↓reduceIte,zab,zay,onz,gt_iff_lt,a0,show decide ((7:Int) < y.chairs.length) = false by simp; omega,show decide ((7:Int) < y.hires.length) = false by simp; omega,show decide ((7:Int) < y.order.length) = false by simp; omega,c]
  all_goals (repeat' first | (with_reducible first | rfl | apply And.intro | assumption) | ((with_reducible show zaj _ _ = true); rfl)) <;> try first | omega | (simp only [InR]; omega)
  simp [c]
 ·simp only [zcf]
  refine cpz zeG Tryz.func19 zaB ?_
  rw [Tryz.ntmps19]
  simp only [Tryz.f19,zai,zam]
  simp (maxSteps:=4000000) only [go_sem,AV.one,zae,zac,zad,zan,zaq,zaa,czb,cza,↓reduceIte,zab,zay,onz,gt_iff_lt,a0,show decide ((7:Int) < y.chairs.length) = false by simp; omega,show decide ((7:Int) < y.hires.length) = false by simp; omega,show decide ((7:Int) < y.order.length) = false by simp; omega,c]
  all_goals (repeat' first | (with_reducible first | rfl | apply And.intro | assumption) | ((with_reducible show zaj _ _ = true); rfl)) <;> try first | omega | (simp only [InR]; omega)
  simp [c]
def P152 (g:FuncId):=(zas 23 (zcC (fun l:List Int => l.length ≤ 4096) (fun l => l)) (zas 31 (zbF (fun (a b:List Int) => a.length ≤ 4096 ∧ b.length ≤ 4096) (fun a b => decide (a = b))) (zas 25 (zcC (fun y:Yd => y.t.heights.length ≤ 4096 ∧ y.order.length ≤ 4096) zbk) (zas 19 (zcC (fun _:Yd => True) zmz) (P151)))):zaJ) g
theorem zgv:zaz Tryz.prog P152:=zah (zbj ztE) (zah (zaM ztf) (zah (zbj zp4) (zah (zbj fun y _ => zuH y) (zeG))))
theorem zn8 (d:Option Nat):zaF P152 d = none:=(zag (by decide) d).trans ((zag (by decide) d).trans ((zag (by decide) d).trans ((zag (by decide) d).trans (zn9 d))))
attribute [go_sem] P152 zn8
theorem zpy (y:Yd):zaP Tryz.prog 52 [Enc.enc y] (· = Enc.enc (zmz y && decide (zbk y = 0))):=by
 cases c:zmz y
 ·simp only [zcf]
  refine cpz zgv Tryz.func52 zaB ?_
  rw [Tryz.ntmps52]
  simp only [Tryz.f52,zai,zam]
  simp (maxSteps:=4000000) only [go_sem,AV.one,zae,zac,zad,zan,zaq,zaa,czb,cza,↓reduceIte,zab,zay,onz,c]
 ·have:=thinY_len c
  simp only [zcf]
  refine cpz zgv Tryz.func52 zaB ?_
  rw [Tryz.ntmps52]
  simp only [Tryz.f52,zai,zam]
  simp (maxSteps:=4000000) only [go_sem,AV.one,zae,zac,zad,zan,zaq,zaa,czb,cza,↓reduceIte,zab,zay,onz,c]
  all_goals exact auz
theorem ztQ (l:List Int) (n:Int) (h:l.length ≤ 4096):zaP Tryz.prog 55 [Enc.enc l,Enc.enc n] (· = Enc.enc (l.contains n)):=by
 simp only [zcf]
 refine cpz zgv Tryz.func55 zaB ?_
 rw [Tryz.ntmps55]
 simp only [Tryz.f55,zai,zam]
 simp (maxSteps:=4000000) only [go_sem,AV.one,zae,zac,zad,zan,zaq,zaa,czb,cza,↓reduceIte,zab,zay,onz]
 refine zbG (l.length) [] [0,1,4] (fun i => [(5,.int .i64 i)]) (fun _ m => m) (fun i => (l.take i).contains n = false) ?_ ?_ ?_ ?_
 ·simp
 ·simp [AV.bare,zal,zaN,zaR,zak,zar,zaf,tokz1,lk,zaa,za3]
 ·intro i hi hI
  have hi':=czH.2 hi
  cases c2:decide (at_ l i = n) <;>
   simp (maxSteps:=4000000) only [go_sem,AV.one,zae,zac,zad,zan,zaq,zaa,czb,cza,↓reduceIte,zab,zay,onz,zax hi,hi',c2]
  all_goals all_goals (repeat' first | (with_reducible first | rfl | apply And.intro | assumption) | ((with_reducible show zaj _ _ = true); rfl)) <;> try first | omega | (simp only [InR]; omega)
  ·refine nxt hi ?_ ?_
   ·have:¬ at_ l i = n:=by simpa using c2
    rw [zaV hi,List.contains_append,hI]
    simp; exact fun q => this q.symm
   ·simp [AV.bare,zal,zaN,zaR,zak,zar,zaf,tokz1,lk,zaa,za3]
  ·have q:at_ l i = n:=by simpa using c2
   have:l.contains n = true:=by rw [List.contains_iff_mem,← q]; exact zbv hi
   rw [this]
 ·intro hI
  rw [czm] at hI
  simp (maxSteps:=4000000) only [go_sem,AV.one,zae,zac,zad,zan,zaq,zaa,czb,cza,↓reduceIte,zab,zay,onz,czA,decide_false,hI]
theorem znr (a b:Int):zaP Tryz.prog 51 [Enc.enc a,Enc.enc b] (· = Enc.enc (Rg.mk a b)):=by
 simp only [zcf]
 refine cpz zgv Tryz.func51 zaB ?_
 rw [Tryz.ntmps51]
 simp only [Tryz.f51,zai,zam]
 simp (maxSteps:=4000000) only [go_sem,AV.one,zae,zac,zad,zan,zaq,zaa,czb,cza,↓reduceIte,zab,zay,onz]
def zjl (s:Sy) (w r:Int) (f:List Int):Bool:=decide (s.wet = w) && (decide (s.rot = r) && decide (s.free = f))
theorem zpb (s:Sy) (w r:Int) (f:List Int) (h:s.free.length ≤ 4096 ∧ f.length ≤ 4096):zaP Tryz.prog 50 [Enc.enc s,Enc.enc w,Enc.enc r,Enc.enc f] (· = Enc.enc (zjl s w r f)):=by
 obtain ⟨h1,h2⟩:=h
 unfold zjl
 cases c1:decide (s.wet = w)
 ·simp only [zcf]
  refine cpz zgv Tryz.func50 zaB ?_
  rw [Tryz.ntmps50]
  simp only [Tryz.f50,zai,zam]
  simp (maxSteps:=4000000) only [go_sem,AV.one,zae,zac,zad,zan,zaq,zaa,czb,cza,↓reduceIte,zab,zay,onz,c1]
  all_goals exact auz
 cases c2:decide (s.rot = r)
 ·simp only [zcf]
  refine cpz zgv Tryz.func50 zaB ?_
  rw [Tryz.ntmps50]
  simp only [Tryz.f50,zai,zam]
  simp (maxSteps:=4000000) only [go_sem,AV.one,zae,zac,zad,zan,zaq,zaa,czb,cza,↓reduceIte,zab,zay,onz,c1,c2]
  all_goals exact auz
 ·simp only [zcf]
  refine cpz zgv Tryz.func50 zaB ?_
  rw [Tryz.ntmps50]
  simp only [Tryz.f50,zai,zam]
  simp (maxSteps:=4000000) only [go_sem,AV.one,zae,zac,zad,zan,zaq,zaa,czb,cza,↓reduceIte,zab,zay,onz,c1,c2]
  all_goals exact auz
def P153 (g:FuncId):=(zas 52 (zcC (fun _:Yd => True) (fun y => zmz y && decide (zbk y = 0))) (zas 55 (zbF (fun (l:List Int) (_:Int) => l.length ≤ 4096) (fun l n => l.contains n)) (zas 51 (zbF (fun _ _:Int => True) Rg.mk) (zas 50 (ziL (fun (s:Sy) (_ _:Int) (f:List Int) => s.free.length ≤ 4096 ∧ f.length ≤ 4096) zjl) (P152)))):zaJ) g
theorem zqW:zaz Tryz.prog P153:=zah (zbj fun y _ => zpy y) (zah (zaM ztQ) (zah (zaM fun a b _ => znr a b) (zah (zeg zpb) (zgv))))
theorem zn7 (d:Option Nat):zaF P153 d = none:=(zag (by decide) d).trans ((zag (by decide) d).trans ((zag (by decide) d).trans ((zag (by decide) d).trans (zn8 d))))
attribute [go_sem] P153 zn7
def partB (l o:List Int):Bool:=o.all fun n => l.contains n
theorem ztp (l o:List Int) (h:l.length ≤ 4096 ∧ o.length ≤ 4096):zaP Tryz.prog 60 [Enc.enc l,Enc.enc o] (· = Enc.enc (partB l o)):=by
 obtain ⟨h1,h2⟩:=h
 simp only [zcf]
 refine cpz zqW Tryz.func60 zaB ?_
 rw [Tryz.ntmps60]
 simp only [Tryz.f60,zai,zam]
 simp (maxSteps:=4000000) only [go_sem,AV.one,zae,zac,zad,zan,zaq,zaa,czb,cza,↓reduceIte,zab,zay,onz]
 refine zbG (o.length) [] [0,1,4] (fun i => [(5,.int .i64 i)]) (fun _ m => m) (fun i => (o.take i).all (fun n => l.contains n) = true) ?_ ?_ ?_ ?_
 ·simp
 ·simp [AV.bare,zal,zaN,zaR,zak,zar,zaf,tokz1,lk,zaa,za3]
 ·intro i hi hI
  have hi':=czH.2 hi
  cases c2:l.contains (at_ o i) <;>
   simp (maxSteps:=4000000) only [go_sem,AV.one,zae,zac,zad,zan,zaq,zaa,czb,cza,↓reduceIte,zab,zay,onz,zax hi,hi',c2]
  all_goals all_goals (repeat' first | (with_reducible first | rfl | apply And.intro | assumption) | ((with_reducible show zaj _ _ = true); rfl)) <;> try first | omega | (simp only [InR]; omega)
  ·rw [show partB l o = false from zfN hi c2]
  ·refine nxt hi (by rw [zd5 hi,hI,c2]; rfl) ?_
   simp [AV.bare,zal,zaN,zaR,zak,zar,zaf,tokz1,lk,zaa,za3]
 ·intro hI
  have hI:=zeb hI
  simp (maxSteps:=4000000) only [go_sem,AV.one,zae,zac,zad,zan,zaq,zaa,czb,cza,↓reduceIte,zab,zay,onz,czA,decide_false]
  rw [show partB l o = true from hI]
theorem Yard_call (y:Yd) (h:(y.t.heights.length ≤ 4096 ∧ y.t.levels.length ≤ 4096 ∧ y.t.marks.length ≤ 4096) ∧ y.chairs.length ≤ 4096 ∧ y.order.length ≤ 4096 ∧ y.hires.length ≤ 4096):zaP Tryz.prog 22 [Enc.enc y] (· = Enc.enc y):=by
 obtain ⟨⟨h1,h2,h3⟩,h4,h5,h6⟩:=h
 simp only [zcf]
 refine cpz zqW Tryz.func22 zaB ?_
 rw [Tryz.ntmps22]
 simp only [Tryz.f22,zai,zam]
 simp (maxSteps:=4000000) only [go_sem,zae,zac,zad,zan,zaq,zaa,czb,cza,↓reduceIte,zab,zay,onz]
 all_goals (repeat' first | (with_reducible first | rfl | apply And.intro | assumption) | ((with_reducible show zaj _ _ = true); rfl)) <;> try first | omega | (simp only [InR]; omega)
 refine zbG (y.chairs.length) [.cell 2 6 3] [1,2,3] (fun i => [(4,.int .i64 i)]) (fun i m => (m.set 2 (.cells [.int .i64 y.t.last,.sl (y.t.heights.map EncE.cs) .no,.int .i64 y.t.step,.sl (y.t.levels.map EncE.cs) .no,.sl (y.t.marks.map EncE.cs) .no,.int .i64 y.hands,.sl ((y.chairs.take i).map EncE.cs) (.own 3),.sl (y.order.map EncE.cs) .no,.sl [] .full])).set 3 (.tok i 3)) (fun _ => True) ?_ ?_ ?_ ?_
 ·trivial
 ·simp [AV.bare,zal,zaN,zaR,zak,zar,zaf,tokz1,lk,zaa,za3,-List.map_take]
 ·intro i hi _
  have hi':=czH.2 hi
  have hg:(y.chairs.map EncE.cs).getD i [] = EncE.cs (at_ y.chairs i):=zax hi
  have htk:(y.chairs.take i).length = i:=by simp; omega
  simp (maxSteps:=4000000) only [go_sem,zae,zac,zad,zan,zaq,zaa,czb,cza,↓reduceIte,zab,zay,onz,hi',hg,htk]
  all_goals (repeat' first | (with_reducible first | rfl | apply And.intro | assumption) | ((with_reducible show zaj _ _ = true); rfl)) <;> try first | omega | (simp only [InR]; omega)
  refine nxt hi trivial ?_
  simp [AV.bare,zal,zaN,zaR,zak,zar,zaf,tokz1,lk,zaa,za3,zaV hi,-List.map_take]
 ·intro _
  simp (maxSteps:=4000000) only [go_sem,zae,zac,zad,zan,zaq,zaa,czb,cza,↓reduceIte,zab,zay,onz,czm,czA,decide_false]
  all_goals (repeat' first | (with_reducible first | rfl | apply And.intro | assumption) | ((with_reducible show zaj _ _ = true); rfl)) <;> try first | omega | (simp only [InR]; omega)
  refine zbG (y.hires.length) [.cell 2 8 2] [1,2,3] (fun i => [(6,.int .i64 i)]) (fun i m => (m.set 2 (.cells [.int .i64 y.t.last,.sl (y.t.heights.map EncE.cs) .no,.int .i64 y.t.step,.sl (y.t.levels.map EncE.cs) .no,.sl (y.t.marks.map EncE.cs) .no,.int .i64 y.hands,.sl (y.chairs.map EncE.cs) (.own 3),.sl (y.order.map EncE.cs) .no,.sl ((y.hires.take i).map EncE.cs) (.own 4)])).set 4 (.tok i 2)) (fun _ => True) ?_ ?_ ?_ ?_
  ·trivial
  ·simp [AV.bare,zal,zaN,zaR,zak,zar,zaf,tokz1,lk,zaa,za3,-List.map_take]
  ·intro i hi _
   have hi':=czH.2 hi
   have hg:(y.hires.map EncE.cs).getD i [] = EncE.cs (at_ y.hires i):=zax hi
   have htk:(y.hires.take i).length = i:=by simp; omega
   simp (maxSteps:=4000000) only [go_sem,zae,zac,zad,zan,zaq,zaa,czb,cza,↓reduceIte,zab,zay,onz,hi',hg,htk]
   all_goals (repeat' first | (with_reducible first | rfl | apply And.intro | assumption) | ((with_reducible show zaj _ _ = true); rfl)) <;> try first | omega | (simp only [InR]; omega)
   refine nxt hi trivial ?_
   simp [AV.bare,zal,zaN,zaR,zak,zar,zaf,tokz1,lk,zaa,za3,zaV hi,-List.map_take]
  ·intro _
   simp (maxSteps:=4000000) only [go_sem,zae,zac,zad,zan,zaq,zaa,czb,cza,↓reduceIte,zab,zay,onz,czm,czA,decide_false]
   all_goals exact auz
def P154 (g:FuncId):=(zas 60 (zbF (fun (l o:List Int) => l.length ≤ 4096 ∧ o.length ≤ 4096) partB) (zas 22 (zcC (fun y:Yd => (y.t.heights.length ≤ 4096 ∧ y.t.levels.length ≤ 4096 ∧ y.t.marks.length ≤ 4096) ∧ y.chairs.length ≤ 4096 ∧ y.order.length ≤ 4096 ∧ y.hires.length ≤ 4096) (fun y => y)) (P153)):zaJ) g
theorem zqV:zaz Tryz.prog P154:=zah (zaM ztp) (zah (zbj Yard_call) (zqW))
theorem zn6 (d:Option Nat):zaF P154 d = none:=(zag (by decide) d).trans ((zag (by decide) d).trans (zn7 d))
attribute [go_sem] P154 zn6
end Go.Proofs
