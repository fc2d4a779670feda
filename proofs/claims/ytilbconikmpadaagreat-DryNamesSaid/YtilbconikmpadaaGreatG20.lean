/- The texts H40, H41, H42, H43, joined. -/
import Derived.Test.YtilbconikmpadaaGreatG18
set_option linter.all false
namespace Go.Proofs
open Go.Fs
set_option maxHeartbeats 4000000
set_option maxRecDepth 8000
theorem rpre {y:Yd} (hv:VY y) {o hs:List Int} (ho:o.length ≤ 4096) (hl:hs.length = hrs y) {c:Int} (h0:0 ≤ c) (h1:c < y.chairs.length):RPre y o hs c:=by
 have hh:=hv.hrs
 exact ⟨ho,⟨hv.h0,hv.h5⟩,by omega,by omega,⟨h0,h1⟩,(hv.at h0 h1).2⟩
def P146:zaJ:=P145
theorem P146_app (g:FuncId):P146 g = (P145) g:=rfl
theorem P146_ok:zaz Tryz.prog P146:=P145_ok
attribute [go_sem] P146_app
theorem zod (d:Option Nat):zaF P146 d = none:=zkj d
attribute [go_sem] zod
theorem vy_hok {y:Yd} (hv:VY y):HOk y.t ∧ MOk y.t:=⟨hv.fok.vok.hok,hv.fok.vok.mok⟩
def P147:zaJ:=P146
theorem P147_app (g:FuncId):P147 g = (P146) g:=rfl
theorem zgw:zaz Tryz.prog P147:=P146_ok
attribute [go_sem] P147_app
theorem zoc (d:Option Nat):zaF P147 d = none:=zod d
attribute [go_sem] zoc
theorem zpC (y:Yd) (h:y.t.heights.length ≤ 4096 ∧ y.order.length ≤ 4096):zaP Tryz.prog 78 [Enc.enc y] (· = Enc.enc (zbk y)):=by
 obtain ⟨h1,h2⟩:=h
 unfold zbk
 by_cases a1:(5:Int) < y.chairs.length
 ·rw [if_pos (.inl (by omega))]
  simp only [zcf]
  refine cpz zgw Tryz.func78 zaB ?_
  rw [Tryz.ntmps78]
  simp only [Tryz.f78,zai,zam]
  simp (maxSteps:=4000000) only [go_sem,AV.one,zae,zac,zad,zan,zaq,zaa,czb,cza,↓reduceIte,zab,zay,onz,gt_iff_lt,a1,decide_true]
  all_goals exact auz
 have a1':decide ((5:Int) < y.chairs.length) = false:=decide_eq_false a1
 by_cases a2:(5:Int) < y.hires.length
 ·rw [if_pos (.inr (by omega))]
  simp only [zcf]
  refine cpz zgw Tryz.func78 zaB ?_
  rw [Tryz.ntmps78]
  simp only [Tryz.f78,zai,zam]
  simp (maxSteps:=4000000) only [go_sem,AV.one,zae,zac,zad,zan,zaq,zaa,czb,cza,↓reduceIte,zab,zay,onz,gt_iff_lt,a1',a2,decide_true]
  all_goals exact auz
 have a2':decide ((5:Int) < y.hires.length) = false:=decide_eq_false a2
 rw [if_neg (by omega)]
 by_cases c:zbq y.t = 0
 case neg =>
  rw [if_pos c]
  simp only [zcf]
  refine cpz zgw Tryz.func78 zaB ?_
  rw [Tryz.ntmps78]
  simp only [Tryz.f78,zai,zam]
  simp (maxSteps:=4000000) only [go_sem,AV.one,zae,zac,zad,zan,zaq,zaa,czb,cza,↓reduceIte,zab,zay,onz,gt_iff_lt,a1',a2',c,decide_false]
  all_goals exact auz
 rw [if_neg (by simp [c])]
 have hok:=(zcs c).hok
 have hmk:=(zcs c).mok
 by_cases tr:zaS y.t = []
 ·rw [if_pos tr]
  have e0:decide (((zaS y.t).length:Int) = 0) = true:=by rw [tr]; rfl
  simp only [zcf]
  refine cpz zgw Tryz.func78 zaB ?_
  rw [Tryz.ntmps78]
  simp only [Tryz.f78,zai,zam]
  simp (maxSteps:=4000000) only [go_sem,AV.one,zae,zac,zad,zan,zaq,zaa,czb,cza,↓reduceIte,zab,zay,onz,gt_iff_lt,a1',a2',c,e0,decide_true,decide_false]
  all_goals exact auz
 rw [if_neg tr]
 have e0:decide (((zaS y.t).length:Int) = 0) = false:=by
  have:=List.length_pos_iff.2 tr
  simp; omega
 cases d1:inB y.hands 0 5
 ·rw [Bool.false_and,if_pos rfl]
  simp only [zcf]
  refine cpz zgw Tryz.func78 zaB ?_
  rw [Tryz.ntmps78]
  simp only [Tryz.f78,zai,zam]
  simp (maxSteps:=4000000) only [go_sem,AV.one,zae,zac,zad,zan,zaq,zaa,czb,cza,↓reduceIte,zab,zay,onz,gt_iff_lt,a1',a2',c,e0,d1,decide_true,decide_false]
  all_goals exact auz
 cases d2:za8 y.chairs.length y.order
 ·rw [Bool.and_false,if_pos rfl]
  simp only [zcf]
  refine cpz zgw Tryz.func78 zaB ?_
  rw [Tryz.ntmps78]
  simp only [Tryz.f78,zai,zam]
  simp (maxSteps:=4000000) only [go_sem,AV.one,zae,zac,zad,zan,zaq,zaa,czb,cza,↓reduceIte,zab,zay,onz,gt_iff_lt,a1',a2',c,e0,d1,d2,decide_true,decide_false]
  all_goals exact auz
 rw [Bool.and_self,if_neg (by simp)]
 simp only [zcf]
 refine cpz zgw Tryz.func78 zaB ?_
 rw [Tryz.ntmps78]
 simp only [Tryz.f78,zai,zam]
 simp (maxSteps:=4000000) only [go_sem,AV.one,zae,zac,zad,zan,zaq,zaa,czb,cza,↓reduceIte,zab,zay,onz,gt_iff_lt,a1',a2',c,e0,d1,d2,decide_true,decide_false]
 all_goals (repeat' first | (with_reducible first | rfl | apply And.intro | assumption) | ((with_reducible show zaj _ _ = true); rfl)) <;> try first | omega | (simp only [InR]; omega)
 refine zbG (y.chairs.length) [] [1,2] (fun i => [(4,.int .i64 i)]) (fun _ m => m) (fun i => (y.chairs.take i).all (zdi y.t) = true) ?_ ?_ ?_ ?_
 ·simp
 ·simp [AV.bare,zal,zaN,zaR,zak,zar,zaf,tokz1,lk,zaa,za3]
 ·intro i hi hI
  have hi':=czH.2 hi
  have hc:zdi y.t (at_ y.chairs i) = (inB (at_ y.chairs i).row 0 ((y.t.levels.length:Int) - 1) && inB (at_ y.chairs i).hours 0 5 && inB (at_ y.chairs i).rot 1 9):=rfl
  have hlv:=(zcs c).lv
  cases b1:inB (at_ y.chairs i).row 0 ((y.t.levels.length:Int) - 1)
  ·rw [b1,Bool.false_and,Bool.false_and] at hc
   simp (maxSteps:=4000000) only [go_sem,AV.one,zae,zac,zad,zan,zaq,zaa,czb,cza,↓reduceIte,zab,zay,onz,hi',zax hi,b1,decide_true,decide_false]
   all_goals (repeat' first | (with_reducible first | rfl | apply And.intro | assumption) | ((with_reducible show zaj _ _ = true); rfl)) <;> try first | omega | (simp only [InR]; omega)
   rw [if_pos (zfN hi hc)]
  cases b2:inB (at_ y.chairs i).hours 0 5
  ·rw [b1,b2,Bool.true_and,Bool.false_and] at hc
   simp (maxSteps:=4000000) only [go_sem,AV.one,zae,zac,zad,zan,zaq,zaa,czb,cza,↓reduceIte,zab,zay,onz,hi',zax hi,b1,b2,decide_true,decide_false]
   all_goals (repeat' first | (with_reducible first | rfl | apply And.intro | assumption) | ((with_reducible show zaj _ _ = true); rfl)) <;> try first | omega | (simp only [InR]; omega)
   rw [if_pos (zfN hi hc)]
  rw [b1,b2,Bool.true_and,Bool.true_and] at hc
  cases b3:inB (at_ y.chairs i).rot 1 9
  ·rw [b3] at hc
   simp (maxSteps:=4000000) only [go_sem,AV.one,zae,zac,zad,zan,zaq,zaa,czb,cza,↓reduceIte,zab,zay,onz,hi',zax hi,b1,b2,b3,decide_true,decide_false]
   all_goals (repeat' first | (with_reducible first | rfl | apply And.intro | assumption) | ((with_reducible show zaj _ _ = true); rfl)) <;> try first | omega | (simp only [InR]; omega)
   rw [if_pos (zfN hi hc)]
  ·rw [b3] at hc
   simp (maxSteps:=4000000) only [go_sem,AV.one,zae,zac,zad,zan,zaq,zaa,czb,cza,↓reduceIte,zab,zay,onz,hi',zax hi,b1,b2,b3,decide_true,decide_false]
   all_goals (repeat' first | (with_reducible first | rfl | apply And.intro | assumption) | ((with_reducible show zaj _ _ = true); rfl)) <;> try first | omega | (simp only [InR]; omega)
   refine nxt hi (by rw [zd5 hi,hI,hc]; rfl) ?_
   simp [AV.bare,zal,zaN,zaR,zak,zar,zaf,tokz1,lk,zaa,za3]
 intro hI
 have hI:=zeb hI
 rw [if_neg (by simp [hI])]
 simp (maxSteps:=4000000) only [go_sem,AV.one,zae,zac,zad,zan,zaq,zaa,czb,cza,↓reduceIte,zab,zay,onz,czA,decide_false]
 refine zbG (y.hires.length) [] [1,2] (fun i => [(6,.int .i64 i)]) (fun _ m => m) (fun i => (y.hires.take i).all (zeJ y.chairs.length y.t.last) = true) ?_ ?_ ?_ ?_
 ·simp
 ·simp [AV.bare,zal,zaN,zaR,zak,zar,zaf,tokz1,lk,zaa,za3]
 ·intro i hi hI
  have hi':=czH.2 hi
  have hc:zeJ y.chairs.length y.t.last (at_ y.hires i) = (inB (at_ y.hires i).lo 0 ((y.chairs.length:Int) - 1) && inB (at_ y.hires i).hi 0 y.t.last):=rfl
  cases b1:inB (at_ y.hires i).lo 0 ((y.chairs.length:Int) - 1)
  ·rw [b1,Bool.false_and] at hc
   simp (maxSteps:=4000000) only [go_sem,AV.one,zae,zac,zad,zan,zaq,zaa,czb,cza,↓reduceIte,zab,zay,onz,hi',zax hi,b1,decide_true,decide_false]
   all_goals (repeat' first | (with_reducible first | rfl | apply And.intro | assumption) | ((with_reducible show zaj _ _ = true); rfl)) <;> try first | omega | (simp only [InR]; omega)
   rw [if_pos (zfN hi hc)]
  rw [b1,Bool.true_and] at hc
  cases b2:inB (at_ y.hires i).hi 0 y.t.last
  ·rw [b2] at hc
   simp (maxSteps:=4000000) only [go_sem,AV.one,zae,zac,zad,zan,zaq,zaa,czb,cza,↓reduceIte,zab,zay,onz,hi',zax hi,b1,b2,decide_true,decide_false]
   all_goals (repeat' first | (with_reducible first | rfl | apply And.intro | assumption) | ((with_reducible show zaj _ _ = true); rfl)) <;> try first | omega | (simp only [InR]; omega)
   rw [if_pos (zfN hi hc)]
  ·rw [b2] at hc
   simp (maxSteps:=4000000) only [go_sem,AV.one,zae,zac,zad,zan,zaq,zaa,czb,cza,↓reduceIte,zab,zay,onz,hi',zax hi,b1,b2,decide_true,decide_false]
   all_goals (repeat' first | (with_reducible first | rfl | apply And.intro | assumption) | ((with_reducible show zaj _ _ = true); rfl)) <;> try first | omega | (simp only [InR]; omega)
   refine nxt hi (by rw [zd5 hi,hI,hc]; rfl) ?_
   simp [AV.bare,zal,zaN,zaR,zak,zar,zaf,tokz1,lk,zaa,za3]
 intro hI2
 have hI2:=zeb hI2
 rw [if_neg (by simp [hI2])]
 simp (maxSteps:=4000000) only [go_sem,AV.one,zae,zac,zad,zan,zaq,zaa,czb,cza,↓reduceIte,zab,zay,onz,czA,decide_false]
def P148 (g:FuncId):=(zas 78 (zcC (fun y:Yd => y.t.heights.length ≤ 4096 ∧ y.order.length ≤ 4096) zbk) (P147):zaJ) g
theorem P148_ok:zaz Tryz.prog P148:=zah (zbj zpC) (zgw)
theorem zob (d:Option Nat):zaF P148 d = none:=(zag (by decide) d).trans (zoc d)
attribute [go_sem] P148 zob
structure LsY (y:Yd) (ls:List (List Int)):Prop where
 v:VY y
 n:ls.length ≤ 4096
 h:∀ l ∈ ls,l.length = hrs y
def P149:zaJ:=P148
theorem P149_app (g:FuncId):P149 g = (P148) g:=rfl
theorem P149_ok:zaz Tryz.prog P149:=P148_ok
attribute [go_sem] P149_app
theorem zki (d:Option Nat):zaF P149 d = none:=zob d
attribute [go_sem] zki
end Go.Proofs
