/- The texts H44, H45, H46, joined. -/
import Derived.Test.YtilbconikmpadaaGreatG20
set_option linter.all false
namespace Go.Proofs
open Go.Fs
set_option maxHeartbeats 4000000
set_option maxRecDepth 8000
def PL (y:Yd) (ls:List (List Int)) (b:List Int):zaN:=zax 9999999 (zeB (fun (y':Yd) (ls':List (List Int)) (b':List Int) => (y' = y ∧ ls' = ls) ∧ ∃ c:Nat,c < y.chairs.length ∧ za2 y.chairs.length (b ++ [(c:Int)]) = true ∧ b' = b ++ [(c:Int)]) leastY) P149
theorem PL_flag (y:Yd) (ls:List (List Int)) (b:List Int) (d:Option Nat):zaK (PL y ls b) d = none:=(zai (by decide) d).trans (zlN d)
attribute [go_sem] PL_flag
def P150:zaN:=P149
theorem P150_app (g:FuncId):P150 g = (P149) g:=rfl
theorem P150_ok:zaD Tryz.prog P150:=P149_ok
attribute [go_sem] P150_app
theorem zqc (d:Option Nat):zaK P150 d = none:=zlN d
attribute [go_sem] zqc
def P151:zaN:=P150
theorem P151_app (g:FuncId):P151 g = (P150) g:=rfl
theorem zfb:zaD Tryz.prog P151:=P150_ok
attribute [go_sem] P151_app
theorem zqb (d:Option Nat):zaK P151 d = none:=zqc d
attribute [go_sem] zqb
theorem zv9 (l:List Int) (h:l.length ≤ 4096):zaU Tryz.prog 23 [Enc.enc l] (· = Enc.enc l):=by
 simp only [zbY]
 refine cpz zfb Tryz.func23 zaF ?_
 rw [Tryz.ntmps23]
 simp only [Tryz.f23,zah,zaq]
 simp (maxSteps:=4000000) only [go_sem,AV.one,zae,zac,zad,zap,zas,zab,czb,cza,↓reduceIte,zaa,zao,onz]
 all_goals (repeat' first | (with_reducible first | rfl | apply And.intro | assumption) | ((with_reducible show zaf _ _ = true); rfl)) <;> try first | omega | (simp only [InR]; omega)
 simp [zeI,AV.one]
theorem zvL (a b:List Int) (h:a.length ≤ 4096 ∧ b.length ≤ 4096):zaU Tryz.prog 31 [Enc.enc a,Enc.enc b] (· = Enc.enc (decide (a = b))):=by
 have h1:=h.1
 have h2:=h.2
 cases c:decide ((a.length:Int) = b.length)
 ·have hn:decide (a = b) = false:=by
   simp only [decide_eq_false_iff_not] at c ⊢
   intro e; apply c; rw [e]
  rw [hn]
  simp only [zbY]
  refine cpz zfb Tryz.func31 zaF ?_
  rw [Tryz.ntmps31]
  simp only [Tryz.f31,zah,zaq]
  simp (maxSteps:=4000000) only [go_sem,AV.one,zae,zac,zad,zap,zas,zab,czb,cza,↓reduceIte,zaa,zao,onz,c]
 ·have hl:a.length = b.length:=by simp only [decide_eq_true_eq] at c; omega
  simp only [zbY]
  refine cpz zfb Tryz.func31 zaF ?_
  rw [Tryz.ntmps31]
  simp only [Tryz.f31,zah,zaq]
  simp (maxSteps:=4000000) only [go_sem,AV.one,zae,zac,zad,zap,zas,zab,czb,cza,↓reduceIte,zaa,zao,onz,c]
  refine zbA (a.length) [] [0,1,4] (fun i => [(5,.int .i64 i)]) (fun _ m => m) (fun i => a.take i = b.take i) ?_ ?_ ?_ ?_
  ·simp
  ·simp [AV.bare,zal,zaP,zaS,zak,zau,zag,tokz1,lk,zab,za4]
  ·intro i hi hI
   have hi':=czH.2 hi
   have hib:i < b.length:=by omega
   cases c2:decide (at_ a i = at_ b i) <;>
    simp (maxSteps:=4000000) only [go_sem,AV.one,zae,zac,zad,zap,zas,zab,czb,cza,↓reduceIte,zaa,zao,onz,zat hi,zat hib,hi',c2]
   all_goals all_goals (repeat' first | (with_reducible first | rfl | apply And.intro | assumption) | ((with_reducible show zaf _ _ = true); rfl)) <;> try first | omega | (simp only [InR]; omega)
   ·have:decide (a = b) = false:=by
     simp only [decide_eq_false_iff_not] at c2 ⊢
     intro e; apply c2; rw [e]
    rw [this]
   ·simp only [decide_eq_true_eq] at c2
    refine nxt hi (by rw [zaX hi,zaX hib,hI,c2]) ?_
    simp [AV.bare,zal,zaP,zaS,zak,zau,zag,tokz1,lk,zab,za4]
  ·intro hI
   rw [czm,hl,czm] at hI
   simp (maxSteps:=4000000) only [go_sem,AV.one,zae,zac,zad,zap,zas,zab,czb,cza,↓reduceIte,zaa,zao,onz]
   simp [hI]
theorem zsk (y:Yd) (h:y.t.heights.length ≤ 4096 ∧ y.order.length ≤ 4096):zaU Tryz.prog 25 [Enc.enc y] (· = Enc.enc (zbB y)):=by
 simp only [zbY]
 refine cpz zfb Tryz.func25 zaF ?_
 rw [Tryz.ntmps25]
 simp only [Tryz.f25,zah,zaq]
 simp (maxSteps:=4000000) only [go_sem,AV.one,zae,zac,zad,zap,zas,zab,czb,cza,↓reduceIte,zaa,zao,onz,h.1,h.2]
 all_goals exact auz
def zi1 (y:Yd):Bool:=if zop y.t = false ∨ 7 < y.chairs.length ∨ 7 < y.hires.length ∨ 7 < y.order.length then false else decide (zbl y.t ≠ 0) || decide (zde y.t.heights ≤ 60)
theorem thinY_len {y:Yd} (h:zi1 y = true):(y.t.heights.length ≤ 12 ∧ y.t.levels.length ≤ 8 ∧ y.t.marks.length ≤ 7) ∧ y.chairs.length ≤ 7 ∧ y.hires.length ≤ 7 ∧ y.order.length ≤ 7:=by
 unfold zi1 at h
 split at h
 ·cases h
 ·rename_i q
  simp only [not_or,Bool.not_eq_false] at q
  exact ⟨zng q.1,by omega,by omega,by omega⟩
theorem zxd (y:Yd):zaU Tryz.prog 19 [Enc.enc y] (· = Enc.enc (zi1 y)):=by
 unfold zi1
 cases a0:zop y.t
 ·rw [if_pos (.inl rfl)]
  simp only [zbY]
  refine cpz zfb Tryz.func19 zaF ?_
  rw [Tryz.ntmps19]
  simp only [Tryz.f19,zah,zaq]
  simp (maxSteps:=4000000) only [go_sem,AV.one,zae,zac,zad,zap,zas,zab,czb,cza,↓reduceIte,zaa,zao,onz,gt_iff_lt,a0]
 have hl:=zng a0
 by_cases a1:7 < y.chairs.length
 ·rw [if_pos (.inr (.inl a1))]
  simp only [zbY]
  refine cpz zfb Tryz.func19 zaF ?_
  rw [Tryz.ntmps19]
  simp only [Tryz.f19,zah,zaq]
  simp (maxSteps:=4000000) only [go_sem,AV.one,zae,zac,zad,zap,zas,zab,czb,cza,↓reduceIte,zaa,zao,onz,gt_iff_lt,a0,show decide ((7:Int) < y.chairs.length) = true by simp; omega]
 by_cases a2:7 < y.hires.length
 ·rw [if_pos (.inr (.inr (.inl a2)))]
  simp only [zbY]
  refine cpz zfb Tryz.func19 zaF ?_
  rw [Tryz.ntmps19]
  simp only [Tryz.f19,zah,zaq]
  simp (maxSteps:=4000000) only [go_sem,AV.one,zae,zac,zad,zap,zas,zab,czb,cza,↓reduceIte,zaa,zao,onz,gt_iff_lt,a0,show decide ((7:Int) < y.chairs.length) = false by simp; omega,show decide ((7:Int) < y.hires.length) = true by simp; omega]
 by_cases a3:7 < y.order.length
 ·rw [if_pos (.inr (.inr (.inr a3)))]
  simp only [zbY]
  refine cpz zfb Tryz.func19 zaF ?_
  rw [Tryz.ntmps19]
  simp only [Tryz.f19,zah,zaq]
  simp (maxSteps:=4000000) only [go_sem,AV.one,zae,zac,zad,zap,zas,zab,czb,cza,↓reduceIte,zaa,zao,onz,gt_iff_lt,a0,show decide ((7:Int) < y.chairs.length) = false by simp; omega,show decide ((7:Int) < y.hires.length) = false by simp; omega,show decide ((7:Int) < y.order.length) = true by simp; omega]
 rw [if_neg (by simp; omega)]
 by_cases c:zbl y.t = 0
 ·have hok:=(zcC c).hok
  simp only [zbY]
  refine cpz zfb Tryz.func19 zaF ?_
  rw [Tryz.ntmps19]
  simp only [Tryz.f19,zah,zaq]
  simp (maxSteps:=4000000) only [go_sem,AV.one,zae,zac,zad,zap,zas,zab,czb,cza,↓reduceIte,zaa,zao,onz,gt_iff_lt,a0,show decide ((7:Int) < y.chairs.length) = false by simp; omega,show decide ((7:Int) < y.hires.length) = false by simp; omega,show decide ((7:Int) < y.order.length) = false by simp; omega,c]
  all_goals (repeat' first | (with_reducible first | rfl | apply And.intro | assumption) | ((with_reducible show zaf _ _ = true); rfl)) <;> try first | omega | (simp only [InR]; omega)
  simp [c]
 ·simp only [zbY]
  refine cpz zfb Tryz.func19 zaF ?_
  rw [Tryz.ntmps19]
  simp only [Tryz.f19,zah,zaq]
  simp (maxSteps:=4000000) only [go_sem,AV.one,zae,zac,zad,zap,zas,zab,czb,cza,↓reduceIte,zaa,zao,onz,gt_iff_lt,a0,show decide ((7:Int) < y.chairs.length) = false by simp; omega,show decide ((7:Int) < y.hires.length) = false by simp; omega,show decide ((7:Int) < y.order.length) = false by simp; omega,c]
  all_goals (repeat' first | (with_reducible first | rfl | apply And.intro | assumption) | ((with_reducible show zaf _ _ = true); rfl)) <;> try first | omega | (simp only [InR]; omega)
  simp [c]
def P152 (g:FuncId):=(zax 23 (zcU (fun l:List Int => l.length ≤ 4096) (fun l => l)) (zax 31 (zbL (fun (a b:List Int) => a.length ≤ 4096 ∧ b.length ≤ 4096) (fun a b => decide (a = b))) (zax 25 (zcU (fun y:Yd => y.t.heights.length ≤ 4096 ∧ y.order.length ≤ 4096) zbB) (zax 19 (zcU (fun _:Yd => True) zi1) (P151)))):zaN) g
theorem zg8:zaD Tryz.prog P152:=zaj (zbm zv9) (zaj (zaR zvL) (zaj (zbm zsk) (zaj (zbm fun y _ => zxd y) (zfb))))
theorem zqa (d:Option Nat):zaK P152 d = none:=(zai (by decide) d).trans ((zai (by decide) d).trans ((zai (by decide) d).trans ((zai (by decide) d).trans (zqb d))))
attribute [go_sem] P152 zqa
theorem zrC (y:Yd):zaU Tryz.prog 52 [Enc.enc y] (· = Enc.enc (zi1 y && decide (zbB y = 0))):=by
 cases c:zi1 y
 ·simp only [zbY]
  refine cpz zg8 Tryz.func52 zaF ?_
  rw [Tryz.ntmps52]
  simp only [Tryz.f52,zah,zaq]
  simp (maxSteps:=4000000) only [go_sem,AV.one,zae,zac,zad,zap,zas,zab,czb,cza,↓reduceIte,zaa,zao,onz,c]
 ·have:=thinY_len c
  simp only [zbY]
  refine cpz zg8 Tryz.func52 zaF ?_
  rw [Tryz.ntmps52]
  simp only [Tryz.f52,zah,zaq]
  simp (maxSteps:=4000000) only [go_sem,AV.one,zae,zac,zad,zap,zas,zab,czb,cza,↓reduceIte,zaa,zao,onz,c]
  all_goals exact auz
theorem zwl (l:List Int) (n:Int) (h:l.length ≤ 4096):zaU Tryz.prog 55 [Enc.enc l,Enc.enc n] (· = Enc.enc (l.contains n)):=by
 simp only [zbY]
 refine cpz zg8 Tryz.func55 zaF ?_
 rw [Tryz.ntmps55]
 simp only [Tryz.f55,zah,zaq]
 simp (maxSteps:=4000000) only [go_sem,AV.one,zae,zac,zad,zap,zas,zab,czb,cza,↓reduceIte,zaa,zao,onz]
 refine zbA (l.length) [] [0,1,4] (fun i => [(5,.int .i64 i)]) (fun _ m => m) (fun i => (l.take i).contains n = false) ?_ ?_ ?_ ?_
 ·simp
 ·simp [AV.bare,zal,zaP,zaS,zak,zau,zag,tokz1,lk,zab,za4]
 ·intro i hi hI
  have hi':=czH.2 hi
  cases c2:decide (at_ l i = n) <;>
   simp (maxSteps:=4000000) only [go_sem,AV.one,zae,zac,zad,zap,zas,zab,czb,cza,↓reduceIte,zaa,zao,onz,zat hi,hi',c2]
  all_goals all_goals (repeat' first | (with_reducible first | rfl | apply And.intro | assumption) | ((with_reducible show zaf _ _ = true); rfl)) <;> try first | omega | (simp only [InR]; omega)
  ·refine nxt hi ?_ ?_
   ·have:¬ at_ l i = n:=by simpa using c2
    rw [zaX hi,List.contains_append,hI]
    simp; exact fun q => this q.symm
   ·simp [AV.bare,zal,zaP,zaS,zak,zau,zag,tokz1,lk,zab,za4]
  ·have q:at_ l i = n:=by simpa using c2
   have:l.contains n = true:=by rw [List.contains_iff_mem,← q]; exact zbb hi
   rw [this]
 ·intro hI
  rw [czm] at hI
  simp (maxSteps:=4000000) only [go_sem,AV.one,zae,zac,zad,zap,zas,zab,czb,cza,↓reduceIte,zaa,zao,onz,czA,decide_false,hI]
theorem zpo (a b:Int):zaU Tryz.prog 51 [Enc.enc a,Enc.enc b] (· = Enc.enc (Rg.mk a b)):=by
 simp only [zbY]
 refine cpz zg8 Tryz.func51 zaF ?_
 rw [Tryz.ntmps51]
 simp only [Tryz.f51,zah,zaq]
 simp (maxSteps:=4000000) only [go_sem,AV.one,zae,zac,zad,zap,zas,zab,czb,cza,↓reduceIte,zaa,zao,onz]
def zmm (s:Sy) (w r:Int) (f:List Int):Bool:=decide (s.wet = w) && (decide (s.rot = r) && decide (s.free = f))
theorem zrd (s:Sy) (w r:Int) (f:List Int) (h:s.free.length ≤ 4096 ∧ f.length ≤ 4096):zaU Tryz.prog 50 [Enc.enc s,Enc.enc w,Enc.enc r,Enc.enc f] (· = Enc.enc (zmm s w r f)):=by
 obtain ⟨h1,h2⟩:=h
 unfold zmm
 cases c1:decide (s.wet = w)
 ·simp only [zbY]
  refine cpz zg8 Tryz.func50 zaF ?_
  rw [Tryz.ntmps50]
  simp only [Tryz.f50,zah,zaq]
  simp (maxSteps:=4000000) only [go_sem,AV.one,zae,zac,zad,zap,zas,zab,czb,cza,↓reduceIte,zaa,zao,onz,c1]
  all_goals exact auz
 cases c2:decide (s.rot = r)
 ·simp only [zbY]
  refine cpz zg8 Tryz.func50 zaF ?_
  rw [Tryz.ntmps50]
  simp only [Tryz.f50,zah,zaq]
  simp (maxSteps:=4000000) only [go_sem,AV.one,zae,zac,zad,zap,zas,zab,czb,cza,↓reduceIte,zaa,zao,onz,c1,c2]
  all_goals exact auz
 ·simp only [zbY]
  refine cpz zg8 Tryz.func50 zaF ?_
  rw [Tryz.ntmps50]
  simp only [Tryz.f50,zah,zaq]
  simp (maxSteps:=4000000) only [go_sem,AV.one,zae,zac,zad,zap,zas,zab,czb,cza,↓reduceIte,zaa,zao,onz,c1,c2]
  all_goals exact auz
def P153 (g:FuncId):=(zax 52 (zcU (fun _:Yd => True) (fun y => zi1 y && decide (zbB y = 0))) (zax 55 (zbL (fun (l:List Int) (_:Int) => l.length ≤ 4096) (fun l n => l.contains n)) (zax 51 (zbL (fun _ _:Int => True) Rg.mk) (zax 50 (zjT (fun (s:Sy) (_ _:Int) (f:List Int) => s.free.length ≤ 4096 ∧ f.length ≤ 4096) zmm) (P152)))):zaN) g
theorem ztd:zaD Tryz.prog P153:=zaj (zbm fun y _ => zrC y) (zaj (zaR zwl) (zaj (zaR fun a b _ => zpo a b) (zaj (zeJ zrd) (zg8))))
theorem zp9 (d:Option Nat):zaK P153 d = none:=(zai (by decide) d).trans ((zai (by decide) d).trans ((zai (by decide) d).trans ((zai (by decide) d).trans (zqa d))))
attribute [go_sem] P153 zp9
def znz (l o:List Int):Bool:=o.all fun n => l.contains n
theorem zvT (l o:List Int) (h:l.length ≤ 4096 ∧ o.length ≤ 4096):zaU Tryz.prog 60 [Enc.enc l,Enc.enc o] (· = Enc.enc (znz l o)):=by
 obtain ⟨h1,h2⟩:=h
 simp only [zbY]
 refine cpz ztd Tryz.func60 zaF ?_
 rw [Tryz.ntmps60]
 simp only [Tryz.f60,zah,zaq]
 simp (maxSteps:=4000000) only [go_sem,AV.one,zae,zac,zad,zap,zas,zab,czb,cza,↓reduceIte,zaa,zao,onz]
 refine zbA (o.length) [] [0,1,4] (fun i => [(5,.int .i64 i)]) (fun _ m => m) (fun i => (o.take i).all (fun n => l.contains n) = true) ?_ ?_ ?_ ?_
 ·simp
 ·simp [AV.bare,zal,zaP,zaS,zak,zau,zag,tokz1,lk,zab,za4]
 ·intro i hi hI
  have hi':=czH.2 hi
  cases c2:l.contains (at_ o i) <;>
   simp (maxSteps:=4000000) only [go_sem,AV.one,zae,zac,zad,zap,zas,zab,czb,cza,↓reduceIte,zaa,zao,onz,zat hi,hi',c2]
  all_goals all_goals (repeat' first | (with_reducible first | rfl | apply And.intro | assumption) | ((with_reducible show zaf _ _ = true); rfl)) <;> try first | omega | (simp only [InR]; omega)
  ·rw [show znz l o = false from zgk hi c2]
  ·refine nxt hi (by rw [zer hi,hI,c2]; rfl) ?_
   simp [AV.bare,zal,zaP,zaS,zak,zau,zag,tokz1,lk,zab,za4]
 ·intro hI
  have hI:=zey hI
  simp (maxSteps:=4000000) only [go_sem,AV.one,zae,zac,zad,zap,zas,zab,czb,cza,↓reduceIte,zaa,zao,onz,czA,decide_false]
  rw [show znz l o = true from hI]
theorem Yard_call (y:Yd) (h:(y.t.heights.length ≤ 4096 ∧ y.t.levels.length ≤ 4096 ∧ y.t.marks.length ≤ 4096) ∧ y.chairs.length ≤ 4096 ∧ y.order.length ≤ 4096 ∧ y.hires.length ≤ 4096):zaU Tryz.prog 22 [Enc.enc y] (· = Enc.enc y):=by
 obtain ⟨⟨h1,h2,h3⟩,h4,h5,h6⟩:=h
 simp only [zbY]
 refine cpz ztd Tryz.func22 zaF ?_
 rw [Tryz.ntmps22]
 simp only [Tryz.f22,zah,zaq]
 simp (maxSteps:=4000000) only [go_sem,zae,zac,zad,zap,zas,zab,czb,cza,↓reduceIte,zaa,zao,onz]
 all_goals (repeat' first | (with_reducible first | rfl | apply And.intro | assumption) | ((with_reducible show zaf _ _ = true); rfl)) <;> try first | omega | (simp only [InR]; omega)
 refine zbA (y.chairs.length) [.cell 2 6 3] [1,2,3] (fun i => [(4,.int .i64 i)]) (fun i m => (m.set 2 (.cells [.int .i64 y.t.last,.sl (y.t.heights.map EncE.cs) .no,.int .i64 y.t.step,.sl (y.t.levels.map EncE.cs) .no,.sl (y.t.marks.map EncE.cs) .no,.int .i64 y.hands,.sl ((y.chairs.take i).map EncE.cs) (.own 3),.sl (y.order.map EncE.cs) .no,.sl [] .full])).set 3 (.tok i 3)) (fun _ => True) ?_ ?_ ?_ ?_
 ·trivial
 ·simp [AV.bare,zal,zaP,zaS,zak,zau,zag,tokz1,lk,zab,za4,-List.map_take]
 ·intro i hi _
  have hi':=czH.2 hi
  have hg:(y.chairs.map EncE.cs).getD i [] = EncE.cs (at_ y.chairs i):=zat hi
  have htk:(y.chairs.take i).length = i:=by simp; omega
  simp (maxSteps:=4000000) only [go_sem,zae,zac,zad,zap,zas,zab,czb,cza,↓reduceIte,zaa,zao,onz,hi',hg,htk]
  all_goals (repeat' first | (with_reducible first | rfl | apply And.intro | assumption) | ((with_reducible show zaf _ _ = true); rfl)) <;> try first | omega | (simp only [InR]; omega)
  refine nxt hi trivial ?_
  simp [AV.bare,zal,zaP,zaS,zak,zau,zag,tokz1,lk,zab,za4,zaX hi,-List.map_take]
 ·intro _
  simp (maxSteps:=4000000) only [go_sem,zae,zac,zad,zap,zas,zab,czb,cza,↓reduceIte,zaa,zao,onz,czm,czA,decide_false]
  all_goals (repeat' first | (with_reducible first | rfl | apply And.intro | assumption) | ((with_reducible show zaf _ _ = true); rfl)) <;> try first | omega | (simp only [InR]; omega)
  refine zbA (y.hires.length) [.cell 2 8 2] [1,2,3] (fun i => [(6,.int .i64 i)]) (fun i m => (m.set 2 (.cells [.int .i64 y.t.last,.sl (y.t.heights.map EncE.cs) .no,.int .i64 y.t.step,.sl (y.t.levels.map EncE.cs) .no,.sl (y.t.marks.map EncE.cs) .no,.int .i64 y.hands,.sl (y.chairs.map EncE.cs) (.own 3),.sl (y.order.map EncE.cs) .no,.sl ((y.hires.take i).map EncE.cs) (.own 4)])).set 4 (.tok i 2)) (fun _ => True) ?_ ?_ ?_ ?_
  ·trivial
  ·simp [AV.bare,zal,zaP,zaS,zak,zau,zag,tokz1,lk,zab,za4,-List.map_take]
  ·intro i hi _
   have hi':=czH.2 hi
   have hg:(y.hires.map EncE.cs).getD i [] = EncE.cs (at_ y.hires i):=zat hi
   have htk:(y.hires.take i).length = i:=by simp; omega
   simp (maxSteps:=4000000) only [go_sem,zae,zac,zad,zap,zas,zab,czb,cza,↓reduceIte,zaa,zao,onz,hi',hg,htk]
   all_goals (repeat' first | (with_reducible first | rfl | apply And.intro | assumption) | ((with_reducible show zaf _ _ = true); rfl)) <;> try first | omega | (simp only [InR]; omega)
   refine nxt hi trivial ?_
   simp [AV.bare,zal,zaP,zaS,zak,zau,zag,tokz1,lk,zab,za4,zaX hi,-List.map_take]
  ·intro _
   simp (maxSteps:=4000000) only [go_sem,zae,zac,zad,zap,zas,zab,czb,cza,↓reduceIte,zaa,zao,onz,czm,czA,decide_false]
   all_goals exact auz
def P154 (g:FuncId):=(zax 60 (zbL (fun (l o:List Int) => l.length ≤ 4096 ∧ o.length ≤ 4096) znz) (zax 22 (zcU (fun y:Yd => (y.t.heights.length ≤ 4096 ∧ y.t.levels.length ≤ 4096 ∧ y.t.marks.length ≤ 4096) ∧ y.chairs.length ≤ 4096 ∧ y.order.length ≤ 4096 ∧ y.hires.length ≤ 4096) (fun y => y)) (P153)):zaN) g
theorem ztc:zaD Tryz.prog P154:=zaj (zaR zvT) (zaj (zbm Yard_call) (ztd))
theorem zp8 (d:Option Nat):zaK P154 d = none:=(zai (by decide) d).trans ((zai (by decide) d).trans (zp9 d))
attribute [go_sem] P154 zp8
end Go.Proofs
