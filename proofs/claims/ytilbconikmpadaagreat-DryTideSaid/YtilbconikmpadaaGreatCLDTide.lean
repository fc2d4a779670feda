/- The law DryTide. -/
import Derived.Test.YtilbconikmpadaaGreatG23
import Derived.Test.YtilbconikmpadaaGreatCH55
set_option linter.all false
namespace Go.Proofs
open Go.Fs
set_option maxHeartbeats 4000000
set_option maxRecDepth 8000
theorem zqX (y:Yd) (u:Int) (ws:List (Uk .u8)) (chair:Int) (hu:InR .u16 u) (hws:zxa ws) (hch:InR .u8 chair):zaU Tryz.prog 11 [Enc.enc y,AV.int .u16 u,Enc.enc ws,AV.int .u8 chair] (· = Enc.enc true):=by
 cases c0:(zi1 y && decide (zbB y = 0))
 ·simp only [zbY]
  refine cpz zdt Tryz.func11 zaF ?_
  rw [Tryz.ntmps11]
  simp only [Tryz.f11,zah,zaq]
  iterate 2 (
   refine zar fun Q1 h1 => ?_
   simp (maxSteps:=4000000) only [go_sem,AV.one,zae,zac,zad,zap,zas,zab,czb,cza,↓reduceIte,zam,zaa,zao,onz,zaE,c0]
   all_goals (repeat' first | (with_reducible first | rfl | apply And.intro | assumption) | ((with_reducible show zaf _ _ = true); rfl)) <;> try first | omega | (simp only [InR]; omega)
   rw [h1]; clear h1 Q1; simp only [zaG,zan])
  simp (maxSteps:=4000000) only [go_sem,AV.one,zae,zac,zad,zap,zas,zab,czb,cza,↓reduceIte,zam,zaa,zao,onz,zaE]
  all_goals exact auz
 have c0':=c0
 simp only [czl,decide_eq_true_eq] at c0'
 have hv:=zhG c0'.2
 have hch':0 ≤ chair ∧ chair ≤ 255:=hch
 have hu':0 ≤ u ∧ u ≤ 65535:=hu
 obtain ⟨l1,l2,l3,l4,l5,l6⟩:=lens hv
 have hc5:=hv.c5
 by_cases hn:y.chairs.length = 0
 ·have hn':decide ((y.chairs.length:Int) = 0) = true:=by rw [hn]; rfl
  simp only [zbY]
  refine cpz zdt Tryz.func11 zaF ?_
  rw [Tryz.ntmps11]
  simp only [Tryz.f11,zah,zaq]
  iterate 2 (
   refine zar fun Q1 h1 => ?_
   simp (maxSteps:=4000000) only [go_sem,AV.one,zae,zac,zad,zap,zas,zab,czb,cza,↓reduceIte,zam,zaa,zao,onz,zaE,c0,hn']
   all_goals (repeat' first | (with_reducible first | rfl | apply And.intro | assumption) | ((with_reducible show zaf _ _ = true); rfl)) <;> try first | omega | (simp only [InR]; omega)
   rw [h1]; clear h1 Q1; simp only [zaG,zan])
  simp (maxSteps:=4000000) only [go_sem,AV.one,zae,zac,zad,zap,zas,zab,czb,cza,↓reduceIte,zam,zaa,zao,onz,zaE]
  all_goals exact auz
 have hn':decide ((y.chairs.length:Int) = 0) = false:=decide_eq_false (by omega)
 have q1:=Int.emod_nonneg chair (show (y.chairs.length:Int) ≠ 0 by omega)
 have q2:=Int.emod_lt_of_pos chair (show (0:Int) < y.chairs.length by omega)
 obtain ⟨c,ec⟩:=czu q1
 rw [ec] at q2
 have hcl:c < y.chairs.length:=by omega
 have hord:=znB y ws
 have hol:=zev hord
 obtain ⟨O,hO⟩:∃ O,ordW y ws = O:=⟨_,rfl⟩
 rw [hO] at hord hol
 have hol4:O.length ≤ 4096:=by omega
 have hok:=(zty hv).1
 have hlz:zbH y.t ≠ []:=fun e => by
  obtain ⟨p,hp⟩:=List.exists_mem_of_ne_nil _ hv.tr
  unfold zaC at hp
  rw [e] at hp
  cases hp
 have hlp:=List.length_pos_iff.2 hlz
 have w1:=Int.emod_nonneg u (show ((zbH y.t).length:Int) ≠ 0 by omega)
 have w2:=Int.emod_lt_of_pos u (show (0:Int) < (zbH y.t).length by omega)
 obtain ⟨k,ek⟩:=czu w1
 rw [ek] at w2
 have hkl:k < (zbH y.t).length:=by omega
 have hg:=zat (f:=EncE.cs) hkl
 have htm:za3 y.t (at_ (zbH y.t) k) = true:=(zeQ hv.fok.vok.hok hv.fok.vok.many _).1 (zbb hkl)
 have hth:=zdf hv htm
 have hll:=zhj hok
 obtain ⟨T,hT⟩:∃ T,at_ (zbH y.t) k = T:=⟨_,rfl⟩
 rw [hT] at hg htm hth
 obtain ⟨L,hL⟩:∃ L,zbH y.t = L:=⟨_,rfl⟩
 rw [hL] at hg hkl hlp ek hll w2
 have hrx:=hv.hrs
 have hT4:T.length ≤ 4096:=by omega
 have e0:zim y.t T = (y.t.levels.map (zd5 T),0):=by unfold zim; rw [if_pos hv.f,if_pos htm]
 have e1:=zgJ hv htm (o:=[]) (ziq _)
 have hh0:=hv.h0
 have hh5:=hv.h5
 have hm1:1 ≤ max 1 y.hands ∧ max 1 y.hands ≤ 5:=by omega
 have hvX:=hands_ok hv (h:=max 1 y.hands) (by omega) hm1.2
 have hbX:∀ h,(⟨⟨y.t.last,y.t.heights,y.t.step,y.t.levels,y.t.marks⟩,h,y.chairs,y.order,y.hires⟩:Yd) = zhB y h:=fun _ => rfl
 have hoX:za2 y.chairs.length [(c:Int)] = true:=(zf1 _ _).2 ⟨by simp; omega,by simp⟩
 have e2:=zgJ (y:=zhB y (max 1 y.hands)) hvX htm (o:=[(c:Int)]) hoX
 have e3:=zgJ hv htm hord
 have hrot:=(hv.ch _ (zbb hcl)).2.2.1
 have hrow:=(hv.ch _ (zbb hcl)).1
 obtain ⟨d1,d2,d3⟩:=sy_dry (y:=zhB y (max 1 y.hands)) (t:=T) (c:=(c:Int)) hm1.1 (by rw [czF]; exact hrot)
 have d0:=sy_row (y:=y) hth (c:Int)
 have d4:=sy_order y O T c
 have hlv:lvY y c = at_ y.t.levels (at_ y.chairs c).row.toNat:=by unfold lvY; rw [czF]
 rw [hlv] at d0
 have hpl1:=zcN y [] T
 have hpl2:(zd9 (zhB y (max 1 y.hands)) [(c:Int)] T).length = y.chairs.length:=zcN _ _ T
 have hpl3:=zcN y O T
 have hg1:((zd9 y [] T).map EncE.cs).getD c [] = EncE.cs (zbG y [] T c):=by rw [zat (by omega),zeu [] T hcl]
 have hg2:((zd9 (zhB y (max 1 y.hands)) [(c:Int)] T).map EncE.cs).getD c [] = EncE.cs (zbG (zhB y (max 1 y.hands)) [(c:Int)] T c):=by rw [zat (by omega),zeu (y:=zhB y (max 1 y.hands)) [(c:Int)] T hcl]
 have hg3:((zd9 y O T).map EncE.cs).getD c [] = EncE.cs (zbG y O T c):=by rw [zat (by omega),zeu O T hcl]
 have hfb1:=zjf y [] T c
 have hfb3:=zjf y O T c
 have hlt1:=fun x (h:x ∈ (zbG y [] T c).free) => zmk (W:=ziZ y [] T c) h
 have hlt3:=fun x (h:x ∈ (zbG y O T c).free) => zmk (W:=ziZ y O T c) h
 have hgc:=zat (f:=EncE.cs) hcl
 have hhX:hrs (zhB y (max 1 y.hands)) = hrs y:=rfl
 rw [hhX] at d2 d3
 obtain ⟨mh,hmh⟩:∃ mh,max 1 y.hands = mh:=⟨_,rfl⟩
 rw [hmh] at hm1 hvX e2 d1 d2 d3 hpl2 hg2
 obtain ⟨C,hC⟩:∃ C,at_ y.chairs c = C:=⟨_,rfl⟩
 rw [hC] at hgc hrow d0
 obtain ⟨r,er⟩:=czu hrow.1
 rw [er,czF] at d0
 have hrl:r < y.t.levels.length:=by omega
 have hgw:((y.t.levels.map (zd5 T)).map EncE.cs).getD r [] = EncE.cs (zd5 T (at_ y.t.levels r)):=by rw [zat (by simpa using hrl)]; show EncE.cs ((y.t.levels.map (zd5 T)).getD r []) = _; rw [at_mapL hrl]
 have hwl:(zd5 T (at_ y.t.levels r)).length ≤ T.length:=zh1 _ _ _
 obtain ⟨w,hw⟩:∃ w,zd5 T (at_ y.t.levels r) = w:=⟨_,rfl⟩
 rw [hw] at hgw d0 hwl
 obtain ⟨S1,hS1⟩:∃ S,zbG y [] T c = S:=⟨_,rfl⟩
 obtain ⟨S3,hS3⟩:∃ S,zbG y O T c = S:=⟨_,rfl⟩
 obtain ⟨X,hX⟩:∃ X,zhB y mh = X:=⟨_,rfl⟩
 have hbX':=hbX mh
 rw [hX] at hvX e2 d1 d2 d3 hpl2 hg2 hbX'
 obtain ⟨S2,hS2⟩:∃ S,zbG X [(c:Int)] T c = S:=⟨_,rfl⟩
 rw [hS1] at d0 d4 hg1 hfb1 hlt1
 rw [hS2] at d1 d2 d3 hg2
 rw [hS3] at d4 hg3 hfb3 hlt3
 have hlt1':=fun x (h:x ∈ S1.free) => (show x < S1.rot from by have:=hlt1 x h; rw [← hS1]; exact this)
 have hlt3':=fun x (h:x ∈ S3.free) => (show x < S3.rot from by have:=hlt3 x h; rw [← hS3]; exact this)
 obtain ⟨x1,x2,x3,x4,x5,x6⟩:=lens hvX
 have hfl1:S1.free.length ≤ 4096:=by omega
 have hfl3:S3.free.length ≤ 4096:=by omega
 have p1:decide (S1.wet = ((w.length:Nat):Int)) = true:=decide_eq_true d0.1
 have p2:decide (S2.wet = 0) = true:=decide_eq_true d1
 have p3:decide (S2.rot = y.t.last + 1) = true:=decide_eq_true (by omega)
 have p3':decide (((S2.free.length:Nat):Int) = y.t.last + 1) = true:=decide_eq_true (by omega)
 have p4:decide (((w.length:Nat):Int) < S3.wet) = false:=decide_eq_false (by have:=d4.1; omega)
 have p5:decide (S3.rot < S1.rot) = false:=decide_eq_false (by have:=d4.2.1; omega)
 simp only [zbY]
 refine cpz zdt Tryz.func11 zaF ?_
 rw [Tryz.ntmps11]
 simp only [Tryz.f11,zah,zaq]
 iterate 2 (
  refine zar fun Q1 h1 => ?_
  simp (maxSteps:=4000000) only [go_sem,AV.one,zae,zac,zad,zap,zas,zab,czb,cza,↓reduceIte,zam,zaa,zao,onz,zaE,c0,hn']
  all_goals (repeat' first | (with_reducible first | rfl | apply And.intro | assumption) | ((with_reducible show zaf _ _ = true); rfl)) <;> try first | omega | (simp only [InR]; omega)
  rw [h1]; clear h1 Q1; simp only [zaG,zan])
 iterate 2 (
  refine zar fun Q1 h1 => ?_
  simp (maxSteps:=4000000) only [go_sem,AV.one,zae,zac,zad,zap,zas,zab,czb,cza,↓reduceIte,zam,zaa,zao,onz,zaE,hok,hL]
  all_goals (repeat' first | (with_reducible first | rfl | apply And.intro | assumption) | ((with_reducible show zaf _ _ = true); rfl)) <;> try first | omega | (simp only [InR]; omega)
  rw [h1]; clear h1 Q1; simp only [zaG,zan])
 refine zar fun Q1 h1 => ?_
 simp (maxSteps:=4000000) only [go_sem,AV.one,zae,zac,zad,zap,zas,zab,czb,cza,↓reduceIte,zam,zaa,zao,onz,zaE,ek,hg,zuj]
 all_goals (repeat' first | (with_reducible first | rfl | apply And.intro | assumption) | ((with_reducible show zaf _ _ = true); rfl)) <;> try first | omega | (simp only [InR]; omega)
 rw [h1]; clear h1 Q1; simp only [zaG,zan]
 refine zar fun Q1 h1 => ?_
 simp (maxSteps:=4000000) only [go_sem,AV.one,zae,zac,zad,zap,zas,zab,czb,cza,↓reduceIte,zam,zaa,zao,onz,zaE,ec]
 all_goals (repeat' first | (with_reducible first | rfl | apply And.intro | assumption) | ((with_reducible show zaf _ _ = true); rfl)) <;> try first | omega | (simp only [InR]; omega)
 rw [h1]; clear h1 Q1; simp only [zaG,zan]
 refine zar fun Q1 h1 => ?_
 simp (maxSteps:=4000000) only [go_sem,AV.one,zae,zac,zad,zap,zas,zab,czb,cza,↓reduceIte,zam,zaa,zao,onz,zaE]
 all_goals (repeat' first | (with_reducible first | rfl | apply And.intro | assumption) | ((with_reducible show zaf _ _ = true); rfl)) <;> try first | omega | (simp only [InR]; omega)
 rw [h1]; clear h1 Q1; simp only [zaG,zan]
 refine zar fun Q1 h1 => ?_
 simp (maxSteps:=4000000) only [go_sem,AV.one,zae,zac,zad,zap,zas,zab,czb,cza,↓reduceIte,zam,zaa,zao,onz,zaE,hmh]
 all_goals (repeat' first | (with_reducible first | rfl | apply And.intro | assumption) | ((with_reducible show zaf _ _ = true); rfl)) <;> try first | omega | (simp only [InR]; omega)
 rw [h1]; clear h1 Q1; simp only [zaG,zan]
 refine zar fun Q1 h1 => ?_
 simp (maxSteps:=4000000) only [go_sem,AV.one,zae,zac,zad,zap,zas,zab,czb,cza,↓reduceIte,zam,zaa,zao,onz,zaE,e0]
 all_goals (repeat' first | (with_reducible first | rfl | apply And.intro | assumption) | ((with_reducible show zaf _ _ = true); rfl)) <;> try first | omega | (simp only [InR]; omega)
 rw [h1]; clear h1 Q1; simp only [zaG,zan]
 refine zar fun Q1 h1 => ?_
 simp (maxSteps:=4000000) only [go_sem,AV.one,zae,zac,zad,zap,zas,zab,czb,cza,↓reduceIte,zam,zaa,zao,onz,zaE,e1]
 all_goals (repeat' first | (with_reducible first | rfl | apply And.intro | assumption) | ((with_reducible show zaf _ _ = true); rfl)) <;> try first | omega | (simp only [InR]; omega)
 rw [h1]; clear h1 Q1; simp only [zaG,zan]
 refine zar fun Q1 h1 => ?_
 simp (maxSteps:=4000000) only [go_sem,AV.one,zae,zac,zad,zap,zas,zab,czb,cza,↓reduceIte,zam,zaa,zao,onz,zaE,hbX',e2]
 all_goals (repeat' first | (with_reducible first | rfl | apply And.intro | assumption) | ((with_reducible show zaf _ _ = true); rfl)) <;> try first | omega | (simp only [InR]; omega)
 rw [h1]; clear h1 Q1; simp only [zaG,zan]
 refine zar fun Q1 h1 => ?_
 simp (maxSteps:=4000000) only [go_sem,AV.one,zae,zac,zad,zap,zas,zab,czb,cza,↓reduceIte,zam,zaa,zao,onz,zaE,hws,hO,e3]
 all_goals (repeat' first | (with_reducible first | rfl | apply And.intro | assumption) | ((with_reducible show zaf _ _ = true); rfl)) <;> try first | omega | (simp only [InR]; omega)
 rw [h1]; clear h1 Q1; simp only [zaG,zan]
 refine zar fun Q1 h1 => ?_
 simp (maxSteps:=4000000) only [go_sem,AV.one,zae,zac,zad,zap,zas,zab,czb,cza,↓reduceIte,zam,zaa,zao,onz,zaE,hpl1,hpl2,hpl3,czz,bne_self_eq_false,decide_true,decide_false]
 all_goals (repeat' first | (with_reducible first | rfl | apply And.intro | assumption) | ((with_reducible show zaf _ _ = true); rfl)) <;> try first | omega | (simp only [InR]; omega)
 rw [h1]; clear h1 Q1; simp only [zaG,zan]
 refine zar fun Q1 h1 => ?_
 simp (maxSteps:=4000000) only [go_sem,AV.one,zae,zac,zad,zap,zas,zab,czb,cza,↓reduceIte,zam,zaa,zao,onz,zaE,decide_true,decide_false]
 all_goals (repeat' first | (with_reducible first | rfl | apply And.intro | assumption) | ((with_reducible show zaf _ _ = true); rfl)) <;> try first | omega | (simp only [InR]; omega)
 rw [h1]; clear h1 Q1; simp only [zaG,zan]
 refine zar fun Q1 h1 => ?_
 simp (maxSteps:=4000000) only [go_sem,AV.one,zae,zac,zad,zap,zas,zab,czb,cza,↓reduceIte,zam,zaa,zao,onz,zaE,ec,hgc,er,hgw,czz,hpl1,hpl2,hpl3,hg1,hg2,hg3,p1,p2,p3,p3',p4,p5,d4.2.2,gt_iff_lt,bne_self_eq_false,decide_true,decide_false]
 all_goals (repeat' first | (with_reducible first | rfl | apply And.intro | assumption) | ((with_reducible show zaf _ _ = true); rfl)) <;> try first | omega | (simp only [InR]; omega)
 rw [h1]; clear h1 Q1; simp only [zaG,zan]
 refine zar fun Q1 h1 => ?_
 simp (maxSteps:=4000000) only [go_sem,AV.one,zae,zac,zad,zap,zas,zab,czb,cza,↓reduceIte,zam,zaa,zao,onz,zaE,List.append_eq,ec,hgc,er,hgw,czz,hpl1,hpl2,hpl3,hg1,hg2,hg3,p1,p2,p3,p3',p4,p5,d4.2.2,gt_iff_lt,bne_self_eq_false,decide_true,decide_false]
 all_goals (repeat' first | (with_reducible first | rfl | apply And.intro | assumption) | ((with_reducible show zaf _ _ = true); rfl)) <;> try first | omega | (simp only [InR]; omega)
 rw [h1]; clear h1 Q1
 simp (maxSteps:=4000000) only [go_sem,AV.one,zae,zac,zad,zap,zas,zab,czb,cza,↓reduceIte,zam,zaa,zao,onz,zaE,decide_true,decide_false]
 all_goals (repeat' first | (with_reducible first | rfl | apply And.intro | assumption) | ((with_reducible show zaf _ _ = true); rfl)) <;> try first | omega | (simp only [InR]; omega)
 refine zbA (S1.free.length) [] [8,11,15,19,21] (fun i => [(22,.int .i64 i)]) (fun _ m => m) (fun _ => True) ?_ ?_ ?_ ?_
 ·trivial
 ·simp [AV.bare,zal,zaP,zaS,zak,zau,zag,tokz1,lk,zab,za4,zaE,-List.map_map]
 ·intro i hi _
  have hi':=czH.2 hi
  have hm1:=zbb hi
  have d0':w.contains (at_ S1.free i) = false:=d0.2 _ hm1
  have d9:decide (S1.rot ≤ at_ S1.free i) = false:=decide_eq_false (by have:=hlt1' _ hm1; omega)
  simp (maxSteps:=4000000) only [go_sem,AV.one,zae,zac,zad,zap,zas,zab,czb,cza,↓reduceIte,zam,zaa,zao,onz,zaE,gt_iff_lt,ge_iff_le,hi',ec,hgc,er,hgw,czz,hpl1,hg1,zat hi,d0',d9,decide_true,decide_false]
  all_goals (repeat' first | (with_reducible first | rfl | apply And.intro | assumption) | ((with_reducible show zaf _ _ = true); rfl)) <;> try first | omega | (simp only [InR]; omega)
  refine nxt hi trivial ?_
  simp [AV.bare,zal,zaP,zaS,zak,zau,zag,tokz1,lk,zab,za4,zaE,-List.map_map]
 ·intro _
  simp (maxSteps:=4000000) only [go_sem,AV.one,zae,zac,zad,zap,zas,zab,czb,cza,↓reduceIte,zam,zaa,zao,onz,zaE,hg1,hpl1,czA,decide_false]
  all_goals (repeat' first | (with_reducible first | rfl | apply And.intro | assumption) | ((with_reducible show zaf _ _ = true); rfl)) <;> try first | omega | (simp only [InR]; omega)
  refine zbA (S3.free.length) [] [8,11,19] (fun i => [(23,.int .i64 i)]) (fun _ m => m) (fun _ => True) ?_ ?_ ?_ ?_
  ·trivial
  ·simp [AV.bare,zal,zaP,zaS,zak,zau,zag,tokz1,lk,zab,za4,zaE,-List.map_map]
  ·intro i hi _
   have hi':=czH.2 hi
   have hm1:=zbb hi
   have d9:decide (S3.rot ≤ at_ S3.free i) = false:=decide_eq_false (by have:=hlt3' _ hm1; omega)
   simp (maxSteps:=4000000) only [go_sem,AV.one,zae,zac,zad,zap,zas,zab,czb,cza,↓reduceIte,zam,zaa,zao,onz,zaE,gt_iff_lt,ge_iff_le,hi',hpl3,hg3,zat hi,d9,decide_true,decide_false]
   all_goals (repeat' first | (with_reducible first | rfl | apply And.intro | assumption) | ((with_reducible show zaf _ _ = true); rfl)) <;> try first | omega | (simp only [InR]; omega)
   refine nxt hi trivial ?_
   simp [AV.bare,zal,zaP,zaS,zak,zau,zag,tokz1,lk,zab,za4,zaE,-List.map_map]
  ·intro _
   simp (maxSteps:=4000000) only [go_sem,AV.one,zae,zac,zad,zap,zas,zab,czb,cza,↓reduceIte,zam,zaa,zao,onz,zaE,hg3,hpl3,czA,decide_false]
   all_goals exact auz
end Go.Proofs
