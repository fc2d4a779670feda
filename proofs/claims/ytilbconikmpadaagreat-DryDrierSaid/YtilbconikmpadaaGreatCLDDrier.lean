/- The law DryDrier. -/
import Derived.Test.YtilbconikmpadaaGreatG23
import Derived.Test.YtilbconikmpadaaGreatCH56
set_option linter.all false
namespace Go.Proofs
open Go.Fs
set_option maxHeartbeats 4000000
set_option maxRecDepth 8000
def P159:zaJ:=vecT [43,127] P158
theorem P159_app (g:FuncId) (h:¬ (g = 4000000000)):P159 g = P158 g:=by unfold P159 vecT; rw [if_neg h]
theorem zmz:zaA Tryz.prog P159:=zpq P158_ok
theorem P159_flag (d:Nat):zaG P159 (some d) = if d ∈ ([43,127]:List Nat) then some d else none:=zhc _ _ d
attribute [go_sem] P159_app P159_flag
theorem zmF (y:Yd) (u:Int) (ws:List (Uk .u8)) (chair by':Int) (hu:InR .u16 u) (hws:WsOk ws) (hch:InR .u8 chair) (hby:InR .u8 by'):zaQ Tryz.prog 13 [Enc.enc y,AV.int .u16 u,Enc.enc ws,AV.int .u8 chair,AV.int .u8 by'] (· = Enc.enc true):=by
 cases c0:(zlG y && decide (zbQ y = 0))
 ·simp only [zb5]
  refine cpz zmz Tryz.func13 zaC ?_
  rw [Tryz.ntmps13]
  simp only [Tryz.f13,zah,zam]
  iterate 2 (
   refine zaB fun Q1 h1 => ?_
   simp (maxSteps:=4000000) only [go_sem,AV.one,zae,zac,zad,zan,zaq,zaa,czb,cza,↓reduceIte,zaE,zab,zay,onz,zbx,c0]
   all_goals (repeat' first | (with_reducible first | rfl | apply And.intro | assumption) | ((with_reducible show zaj _ _ = true); rfl)) <;> try first | omega | (simp only [InR]; omega)
   rw [h1]; clear h1 Q1; simp only [zaU,zat])
  simp (maxSteps:=4000000) only [go_sem,AV.one,zae,zac,zad,zan,zaq,zaa,czb,cza,↓reduceIte,zaE,zab,zay,onz,zbx]
  all_goals exact auz
 have c0':=c0
 simp only [czl,decide_eq_true_eq] at c0'
 have hv:=zjh c0'.2
 have hch':0 ≤ chair ∧ chair ≤ 255:=hch
 have hby':0 ≤ by' ∧ by' ≤ 255:=hby
 have hu':0 ≤ u ∧ u ≤ 65535:=hu
 obtain ⟨l1,l2,l3,l4,l5,l6⟩:=lens hv
 have hc5:=hv.c5
 by_cases hn:y.chairs.length = 0
 ·have hn':decide ((y.chairs.length:Int) = 0) = true:=by rw [hn]; rfl
  simp only [zb5]
  refine cpz zmz Tryz.func13 zaC ?_
  rw [Tryz.ntmps13]
  simp only [Tryz.f13,zah,zam]
  iterate 2 (
   refine zaB fun Q1 h1 => ?_
   simp (maxSteps:=4000000) only [go_sem,AV.one,zae,zac,zad,zan,zaq,zaa,czb,cza,↓reduceIte,zaE,zab,zay,onz,zbx,c0,hn']
   all_goals (repeat' first | (with_reducible first | rfl | apply And.intro | assumption) | ((with_reducible show zaj _ _ = true); rfl)) <;> try first | omega | (simp only [InR]; omega)
   rw [h1]; clear h1 Q1; simp only [zaU,zat])
  simp (maxSteps:=4000000) only [go_sem,AV.one,zae,zac,zad,zan,zaq,zaa,czb,cza,↓reduceIte,zaE,zab,zay,onz,zbx]
  all_goals exact auz
 have hn':decide ((y.chairs.length:Int) = 0) = false:=decide_eq_false (by omega)
 have q1:=Int.emod_nonneg chair (show (y.chairs.length:Int) ≠ 0 by omega)
 have q2:=Int.emod_lt_of_pos chair (show (0:Int) < y.chairs.length by omega)
 obtain ⟨c,ec⟩:=czu q1
 rw [ec] at q2
 have hcl:c < y.chairs.length:=by omega
 have hord:=ordW_ok y ws
 have hol:=zgc hord
 obtain ⟨O,hO⟩:∃ O,ordW y ws = O:=⟨_,rfl⟩
 rw [hO] at hord hol
 have hol4:O.length ≤ 4096:=by omega
 have hok:=(vy_hok hv).1
 have hlz:zce y.t ≠ []:=fun e => by
  obtain ⟨p,hp⟩:=List.exists_mem_of_ne_nil _ hv.tr
  unfold zaR at hp
  rw [e] at hp
  cases hp
 have hlp:=List.length_pos_iff.2 hlz
 have w1:=Int.emod_nonneg u (show ((zce y.t).length:Int) ≠ 0 by omega)
 have w2:=Int.emod_lt_of_pos u (show (0:Int) < (zce y.t).length by omega)
 obtain ⟨k,ek⟩:=czu w1
 rw [ek] at w2
 have hkl:k < (zce y.t).length:=by omega
 have hg:=zar (f:=EncE.cs) hkl
 have htm:za8 y.t (at_ (zce y.t) k) = true:=(zgC hv.fok.vok.hok hv.fok.vok.many _).1 (zbs hkl)
 have hll:=zld hok
 obtain ⟨T,hT⟩:∃ T,at_ (zce y.t) k = T:=⟨_,rfl⟩
 rw [hT] at hg htm
 obtain ⟨L,hL⟩:∃ L,zce y.t = L:=⟨_,rfl⟩
 rw [hL] at hg hkl hlp ek hll w2
 have hT4:T.length ≤ 4096:=by
  have:=zjj hv htm
  have:=hv.hrs
  omega
 have e1:=zpZ hv htm hord
 obtain ⟨hr0,hh0,hrt⟩:=hv.ch _ (zbs hcl)
 have hgc:=zar (f:=EncE.cs) hcl
 obtain ⟨C,hC⟩:∃ C,at_ y.chairs c = C:=⟨_,rfl⟩
 rw [hC] at hgc hr0 hh0 hrt
 have hlv0:y.t.levels.length ≠ 0:=fun e => by rw [e] at hr0; omega
 have v1:=Int.emod_nonneg (by' / 9) (show (y.t.levels.length:Int) ≠ 0 by omega)
 have v2:=Int.emod_lt_of_pos (by' / 9) (show (0:Int) < y.t.levels.length by omega)
 obtain ⟨r,er⟩:=czu v1
 rw [er] at v2
 have hrl:r < y.t.levels.length:=by omega
 obtain ⟨s,es⟩:=czu hr0.1
 have hsl:s < y.t.levels.length:=by omega
 have hgr:=zar (f:=EncE.cs) hrl
 have hgs:=zar (f:=EncE.cs) hsl
 obtain ⟨H,hH⟩:∃ H,max 0 (C.hours - by' % 3) = H:=⟨_,rfl⟩
 obtain ⟨R,hR⟩:∃ R,min 9 (C.rot + by' / 3 % 3) = R:=⟨_,rfl⟩
 have hH1:0 ≤ H ∧ H ≤ C.hours:=by omega
 have hR1:C.rot ≤ R ∧ R ≤ 9:=by omega
 have hCo:∀ w:Int,0 ≤ w → w < y.t.levels.length → VY (zc2 y c ⟨w,H,R⟩):=fun w h1 h2 => chair_ok hv ⟨⟨h1,h2⟩,⟨by show 0 ≤ H; omega,by show H ≤ 5; omega⟩,by show 1 ≤ R; omega,by show R ≤ 9; omega⟩
 have hset:∀ w:Int,(y.chairs.map EncE.cs).set c [.int .i64 w,.int .i64 H,.int .i64 R] = (y.chairs.set c ⟨w,H,R⟩).map EncE.cs:=fun w => by rw [List.map_set]; rfl
 have hgc1:=zqm (l:=y.chairs.map EncE.cs) (c:=c) (by rw [czz]; exact hcl)
 have hone:∀ x ∈ y.chairs.map EncE.cs,∀ c ∈ x,AV.one c = true:=fun x hx c hc => by
  obtain ⟨a,_,rfl⟩:=czx.1 hx
  simp only [EncE.cs,czn,czk,or_false] at hc
  rcases hc with rfl | rfl | rfl <;> rfl
 have hln:∀ x ∈ y.chairs.map EncE.cs,x.length = 3:=fun x hx => by
  obtain ⟨a,_,rfl⟩:=czx.1 hx
  rfl
 have hpl1:(zfJ y O T).length = y.chairs.length:=zia _ _ _
 have hg1:((zfJ y O T).map EncE.cs).getD c [] = EncE.cs (zek y O T c):=by rw [zar (by rw [hpl1]; exact hcl),zjF O T hcl]
 have hfb1:=zqo y O T c
 obtain ⟨P1,hP1⟩:∃ P,zek y O T c = P:=⟨_,rfl⟩
 rw [hP1] at hg1 hfb1
 have hrx:=hv.hrs
 have hf1:P1.free.length ≤ 4096:=by omega
 have hsr:C.row.toNat = s:=by omega
 cases cr:decide (at_ y.t.levels s ≤ at_ y.t.levels r)
 case false =>
  have hX:=hCo ((s:Int)) (by omega) (by omega)
  have hs:=hset ((s:Int))
  obtain ⟨b1,b2,b3⟩:=zls (C:=⟨(s:Int),H,R⟩) O T hcl (by rw [hC]; show at_ y.t.levels C.row.toNat ≤ at_ y.t.levels ((s:Int):Int).toNat; rw [hsr,czF]; exact Int.le_refl _) (by rw [hC]; exact hR1.1) (by rw [hC]; exact hH1.2)
  have hbX:(⟨⟨y.t.last,y.t.heights,y.t.step,y.t.levels,y.t.marks⟩,y.hands,y.chairs.set c ⟨(s:Int),H,R⟩,y.order,[]⟩:Yd) = zc2 y c ⟨(s:Int),H,R⟩:=rfl
  have hlc:(zc2 y c ⟨(s:Int),H,R⟩).chairs.length = y.chairs.length:=czt
  have e2:=zpZ hX htm (o:=O) (by rw [hlc]; exact hord)
  have htk:List.take y.chairs.length ((y.chairs.set c ⟨(s:Int),H,R⟩).map EncE.cs) = (y.chairs.set c ⟨(s:Int),H,R⟩).map EncE.cs:=cze (by rw [czz,czt]; exact czf _)
  have hpl2:(zfJ (zc2 y c ⟨(s:Int),H,R⟩) O T).length = y.chairs.length:=by rw [zia,hlc]
  have hg2:((zfJ (zc2 y c ⟨(s:Int),H,R⟩) O T).map EncE.cs).getD c [] = EncE.cs (zek (zc2 y c ⟨(s:Int),H,R⟩) O T c):=by rw [zar (by rw [hpl2]; exact hcl),zjF (y:=zc2 y c ⟨(s:Int),H,R⟩) O T (by rw [hlc]; exact hcl)]
  have hfb2:=zqo (zc2 y c ⟨(s:Int),H,R⟩) O T c
  obtain ⟨x1,x2,x3,x4,x5,x6⟩:=lens hX
  have hrX:hrs (zc2 y c ⟨(s:Int),H,R⟩) = hrs y:=rfl
  rw [hrX] at hfb2
  obtain ⟨X,hXe⟩:∃ X,zc2 y c ⟨(s:Int),H,R⟩ = X:=⟨_,rfl⟩
  rw [hXe] at b1 b2 b3 hbX hlc e2 hpl2 hg2 hfb2 x1 x2 x3 x4 x5 x6
  obtain ⟨Z,hZ⟩:∃ Z,y.chairs.set c ⟨(s:Int),H,R⟩ = Z:=⟨_,rfl⟩
  rw [hZ] at hs hbX htk
  obtain ⟨P2,hP2⟩:∃ P,zek X O T c = P:=⟨_,rfl⟩
  rw [hP1,hP2] at b1 b2 b3
  rw [hP2] at hg2 hfb2
  have hf2:P2.free.length ≤ 4096:=by omega
  have p1:decide (P1.rot ≤ P2.rot) = true:=decide_eq_true b2
  have p2:decide (P2.wet ≤ P1.wet) = true:=decide_eq_true b1
  simp only [zb5]
  refine cpz zmz Tryz.func13 zaC ?_
  rw [Tryz.ntmps13]
  simp only [Tryz.f13,zah,zam]
  iterate 2 (
   refine zaB fun Q1 h1 => ?_
   simp (maxSteps:=4000000) only [go_sem,AV.one,zae,zac,zad,zan,zaq,zaa,czb,cza,↓reduceIte,zaE,zab,zay,onz,zbx,c0,hn']
   all_goals (repeat' first | (with_reducible first | rfl | apply And.intro | assumption) | ((with_reducible show zaj _ _ = true); rfl)) <;> try first | omega | (simp only [InR]; omega)
   rw [h1]; clear h1 Q1; simp only [zaU,zat])
  iterate 2 (
   refine zaB fun Q1 h1 => ?_
   simp (maxSteps:=4000000) only [go_sem,AV.one,zae,zac,zad,zan,zaq,zaa,czb,cza,↓reduceIte,zaE,zab,zay,onz,zbx,ec]
   all_goals (repeat' first | (with_reducible first | rfl | apply And.intro | assumption) | ((with_reducible show zaj _ _ = true); rfl)) <;> try first | omega | (simp only [InR]; omega)
   rw [h1]; clear h1 Q1; simp only [zaU,zat])
  refine zaB fun Q1 h1 => ?_
  simp (maxSteps:=4000000) only [go_sem,AV.one,zae,zac,zad,zan,zaq,zaa,czb,cza,↓reduceIte,zaE,zab,zay,onz,zbx]
  all_goals (repeat' first | (with_reducible first | rfl | apply And.intro | assumption) | ((with_reducible show zaj _ _ = true); rfl)) <;> try first | omega | (simp only [InR]; omega)
  rw [h1]; clear h1 Q1; simp only [zaU,zat]
  refine zaB fun Q1 h1 => ?_
  simp (maxSteps:=4000000) only [go_sem,AV.one,zae,zac,zad,zan,zaq,zaa,czb,cza,↓reduceIte,zaE,zab,zay,onz,zbx]
  all_goals (repeat' first | (with_reducible first | rfl | apply And.intro | assumption) | ((with_reducible show zaj _ _ = true); rfl)) <;> try first | omega | (simp only [InR]; omega)
  rw [h1]; clear h1 Q1; simp only [zaU,zat]
  refine zaB fun Q1 h1 => ?_
  simp (maxSteps:=4000000) only [go_sem,zae,zac,zad,zan,zaq,zaa,czb,cza,↓reduceIte,zaE,zab,zay,onz,zbx,hone,hln]
  all_goals (repeat' first | (with_reducible first | rfl | apply And.intro | assumption) | ((with_reducible show zaj _ _ = true); rfl)) <;> try first | omega | (simp only [InR]; omega)
  rw [h1]; clear h1 Q1; simp only [zaU,zat]
  refine zaB fun Q1 h1 => ?_
  simp (maxSteps:=4000000) only [go_sem,AV.one,zae,zac,zad,zan,zaq,zaa,czb,cza,↓reduceIte,zaE,zab,zay,onz,zbx,hcl,ec]
  all_goals (repeat' first | (with_reducible first | rfl | apply And.intro | assumption) | ((with_reducible show zaj _ _ = true); rfl)) <;> try first | omega | (simp only [InR]; omega)
  rw [h1]; clear h1 Q1; simp only [zaU,zat]
  refine zaB fun Q1 h1 => ?_
  simp (maxSteps:=4000000) only [go_sem,AV.one,zae,zac,zad,zan,zaq,zaa,czb,cza,↓reduceIte,zaE,zab,zay,onz,zbx,hgc,hgc1,hcl,hH,hR,czt,czz,List.set_set]
  all_goals (repeat' first | (with_reducible first | rfl | apply And.intro | assumption) | ((with_reducible show zaj _ _ = true); rfl)) <;> try first | omega | (simp only [InR]; omega)
  rw [h1]; clear h1 Q1; simp only [zaU,zat]
  refine zaB fun Q1 h1 => ?_
  simp (maxSteps:=4000000) only [go_sem,AV.one,zae,zac,zad,zan,zaq,zaa,czb,cza,↓reduceIte,zaE,zab,zay,onz,zbx,er]
  all_goals (repeat' first | (with_reducible first | rfl | apply And.intro | assumption) | ((with_reducible show zaj _ _ = true); rfl)) <;> try first | omega | (simp only [InR]; omega)
  rw [h1]; clear h1 Q1; simp only [zaU,zat]
  refine zaB fun Q1 h1 => ?_
  simp (maxSteps:=4000000) only [go_sem,AV.one,zae,zac,zad,zan,zaq,zaa,czb,cza,↓reduceIte,zaE,zab,zay,onz,zbx,es,hgr,hgs,hgc1,hcl,ge_iff_le]
  all_goals (repeat' first | (with_reducible first | rfl | apply And.intro | assumption) | ((with_reducible show zaj _ _ = true); rfl)) <;> try first | omega | (simp only [InR]; omega)
  rw [h1]; clear h1 Q1; simp only [zaU,zat]
  refine zaB fun Q1 h1 => ?_
  simp (maxSteps:=4000000) only [go_sem,AV.one,zae,zac,zad,zan,zaq,zaa,czb,cza,↓reduceIte,zaE,zab,zay,onz,zbx,cr]
  all_goals (repeat' first | (with_reducible first | rfl | apply And.intro | assumption) | ((with_reducible show zaj _ _ = true); rfl)) <;> try first | omega | (simp only [InR]; omega)
  rw [h1]; clear h1 Q1; simp only [zaU,zat]
  refine zaB fun Q1 h1 => ?_
  simp (maxSteps:=4000000) only [go_sem,AV.one,zae,zac,zad,zan,zaq,zaa,czb,cza,↓reduceIte,zaE,zab,zay,onz,zbx,hok,hL]
  all_goals (repeat' first | (with_reducible first | rfl | apply And.intro | assumption) | ((with_reducible show zaj _ _ = true); rfl)) <;> try first | omega | (simp only [InR]; omega)
  rw [h1]; clear h1 Q1; simp only [zaU,zat]
  refine zaB fun Q1 h1 => ?_
  simp (maxSteps:=4000000) only [go_sem,AV.one,zae,zac,zad,zan,zaq,zaa,czb,cza,↓reduceIte,zaE,zab,zay,onz,zbx,ek,hg,dec_uk]
  all_goals (repeat' first | (with_reducible first | rfl | apply And.intro | assumption) | ((with_reducible show zaj _ _ = true); rfl)) <;> try first | omega | (simp only [InR]; omega)
  rw [h1]; clear h1 Q1; simp only [zaU,zat]
  refine zaB fun Q1 h1 => ?_
  simp (maxSteps:=4000000) only [go_sem,AV.one,zae,zac,zad,zan,zaq,zaa,czb,cza,↓reduceIte,zaE,zab,zay,onz,zbx,hws,hO]
  all_goals (repeat' first | (with_reducible first | rfl | apply And.intro | assumption) | ((with_reducible show zaj _ _ = true); rfl)) <;> try first | omega | (simp only [InR]; omega)
  rw [h1]; clear h1 Q1; simp only [zaU,zat]
  refine zaB fun Q1 h1 => ?_
  simp (maxSteps:=4000000) only [go_sem,AV.one,zae,zac,zad,zan,zaq,zaa,czb,cza,↓reduceIte,zaE,zab,zay,onz,zbx,e1]
  all_goals (repeat' first | (with_reducible first | rfl | apply And.intro | assumption) | ((with_reducible show zaj _ _ = true); rfl)) <;> try first | omega | (simp only [InR]; omega)
  rw [h1]; clear h1 Q1; simp only [zaU,zat]
  refine zaB fun Q1 h1 => ?_
  simp (maxSteps:=4000000) only [go_sem,AV.one,zae,zac,zad,zan,zaq,zaa,czb,cza,↓reduceIte,zaE,zab,zay,onz,zbx,es,hs,htk,hbX,e2]
  all_goals (repeat' first | (with_reducible first | rfl | apply And.intro | assumption) | ((with_reducible show zaj _ _ = true); rfl)) <;> try first | omega | (simp only [InR]; omega)
  rw [h1]; clear h1 Q1; simp only [zaU,zat]
  simp (maxSteps:=4000000) only [go_sem,AV.one,zae,zac,zad,zan,zaq,zaa,czb,cza,↓reduceIte,zaE,zab,zay,onz,zbx,hpl1,hpl2,hg1,hg2,hcl,p1,p2,b3,ge_iff_le,decide_true,decide_false]
  all_goals exact auz
 case true =>
  have hX:=hCo ((r:Int)) (by omega) (by omega)
  have hs:=hset ((r:Int))
  obtain ⟨b1,b2,b3⟩:=zls (C:=⟨(r:Int),H,R⟩) O T hcl (by rw [hC]; show at_ y.t.levels C.row.toNat ≤ at_ y.t.levels ((r:Int):Int).toNat; rw [hsr,czF]; exact of_decide_eq_true cr) (by rw [hC]; exact hR1.1) (by rw [hC]; exact hH1.2)
  have hbX:(⟨⟨y.t.last,y.t.heights,y.t.step,y.t.levels,y.t.marks⟩,y.hands,y.chairs.set c ⟨(r:Int),H,R⟩,y.order,[]⟩:Yd) = zc2 y c ⟨(r:Int),H,R⟩:=rfl
  have hlc:(zc2 y c ⟨(r:Int),H,R⟩).chairs.length = y.chairs.length:=czt
  have e2:=zpZ hX htm (o:=O) (by rw [hlc]; exact hord)
  have htk:List.take y.chairs.length ((y.chairs.set c ⟨(r:Int),H,R⟩).map EncE.cs) = (y.chairs.set c ⟨(r:Int),H,R⟩).map EncE.cs:=cze (by rw [czz,czt]; exact czf _)
  have hpl2:(zfJ (zc2 y c ⟨(r:Int),H,R⟩) O T).length = y.chairs.length:=by rw [zia,hlc]
  have hg2:((zfJ (zc2 y c ⟨(r:Int),H,R⟩) O T).map EncE.cs).getD c [] = EncE.cs (zek (zc2 y c ⟨(r:Int),H,R⟩) O T c):=by rw [zar (by rw [hpl2]; exact hcl),zjF (y:=zc2 y c ⟨(r:Int),H,R⟩) O T (by rw [hlc]; exact hcl)]
  have hfb2:=zqo (zc2 y c ⟨(r:Int),H,R⟩) O T c
  obtain ⟨x1,x2,x3,x4,x5,x6⟩:=lens hX
  have hrX:hrs (zc2 y c ⟨(r:Int),H,R⟩) = hrs y:=rfl
  rw [hrX] at hfb2
  obtain ⟨X,hXe⟩:∃ X,zc2 y c ⟨(r:Int),H,R⟩ = X:=⟨_,rfl⟩
  rw [hXe] at b1 b2 b3 hbX hlc e2 hpl2 hg2 hfb2 x1 x2 x3 x4 x5 x6
  obtain ⟨Z,hZ⟩:∃ Z,y.chairs.set c ⟨(r:Int),H,R⟩ = Z:=⟨_,rfl⟩
  rw [hZ] at hs hbX htk
  obtain ⟨P2,hP2⟩:∃ P,zek X O T c = P:=⟨_,rfl⟩
  rw [hP1,hP2] at b1 b2 b3
  rw [hP2] at hg2 hfb2
  have hf2:P2.free.length ≤ 4096:=by omega
  have p1:decide (P1.rot ≤ P2.rot) = true:=decide_eq_true b2
  have p2:decide (P2.wet ≤ P1.wet) = true:=decide_eq_true b1
  simp only [zb5]
  refine cpz zmz Tryz.func13 zaC ?_
  rw [Tryz.ntmps13]
  simp only [Tryz.f13,zah,zam]
  iterate 2 (
   refine zaB fun Q1 h1 => ?_
   simp (maxSteps:=4000000) only [go_sem,AV.one,zae,zac,zad,zan,zaq,zaa,czb,cza,↓reduceIte,zaE,zab,zay,onz,zbx,c0,hn']
   all_goals (repeat' first | (with_reducible first | rfl | apply And.intro | assumption) | ((with_reducible show zaj _ _ = true); rfl)) <;> try first | omega | (simp only [InR]; omega)
   rw [h1]; clear h1 Q1; simp only [zaU,zat])
  iterate 2 (
   refine zaB fun Q1 h1 => ?_
   simp (maxSteps:=4000000) only [go_sem,AV.one,zae,zac,zad,zan,zaq,zaa,czb,cza,↓reduceIte,zaE,zab,zay,onz,zbx,ec]
   all_goals (repeat' first | (with_reducible first | rfl | apply And.intro | assumption) | ((with_reducible show zaj _ _ = true); rfl)) <;> try first | omega | (simp only [InR]; omega)
   rw [h1]; clear h1 Q1; simp only [zaU,zat])
  refine zaB fun Q1 h1 => ?_
  simp (maxSteps:=4000000) only [go_sem,AV.one,zae,zac,zad,zan,zaq,zaa,czb,cza,↓reduceIte,zaE,zab,zay,onz,zbx]
  all_goals (repeat' first | (with_reducible first | rfl | apply And.intro | assumption) | ((with_reducible show zaj _ _ = true); rfl)) <;> try first | omega | (simp only [InR]; omega)
  rw [h1]; clear h1 Q1; simp only [zaU,zat]
  refine zaB fun Q1 h1 => ?_
  simp (maxSteps:=4000000) only [go_sem,AV.one,zae,zac,zad,zan,zaq,zaa,czb,cza,↓reduceIte,zaE,zab,zay,onz,zbx]
  all_goals (repeat' first | (with_reducible first | rfl | apply And.intro | assumption) | ((with_reducible show zaj _ _ = true); rfl)) <;> try first | omega | (simp only [InR]; omega)
  rw [h1]; clear h1 Q1; simp only [zaU,zat]
  refine zaB fun Q1 h1 => ?_
  simp (maxSteps:=4000000) only [go_sem,zae,zac,zad,zan,zaq,zaa,czb,cza,↓reduceIte,zaE,zab,zay,onz,zbx,hone,hln]
  all_goals (repeat' first | (with_reducible first | rfl | apply And.intro | assumption) | ((with_reducible show zaj _ _ = true); rfl)) <;> try first | omega | (simp only [InR]; omega)
  rw [h1]; clear h1 Q1; simp only [zaU,zat]
  refine zaB fun Q1 h1 => ?_
  simp (maxSteps:=4000000) only [go_sem,AV.one,zae,zac,zad,zan,zaq,zaa,czb,cza,↓reduceIte,zaE,zab,zay,onz,zbx,hcl,ec]
  all_goals (repeat' first | (with_reducible first | rfl | apply And.intro | assumption) | ((with_reducible show zaj _ _ = true); rfl)) <;> try first | omega | (simp only [InR]; omega)
  rw [h1]; clear h1 Q1; simp only [zaU,zat]
  refine zaB fun Q1 h1 => ?_
  simp (maxSteps:=4000000) only [go_sem,AV.one,zae,zac,zad,zan,zaq,zaa,czb,cza,↓reduceIte,zaE,zab,zay,onz,zbx,hgc,hgc1,hcl,hH,hR,czt,czz,List.set_set]
  all_goals (repeat' first | (with_reducible first | rfl | apply And.intro | assumption) | ((with_reducible show zaj _ _ = true); rfl)) <;> try first | omega | (simp only [InR]; omega)
  rw [h1]; clear h1 Q1; simp only [zaU,zat]
  refine zaB fun Q1 h1 => ?_
  simp (maxSteps:=4000000) only [go_sem,AV.one,zae,zac,zad,zan,zaq,zaa,czb,cza,↓reduceIte,zaE,zab,zay,onz,zbx,er]
  all_goals (repeat' first | (with_reducible first | rfl | apply And.intro | assumption) | ((with_reducible show zaj _ _ = true); rfl)) <;> try first | omega | (simp only [InR]; omega)
  rw [h1]; clear h1 Q1; simp only [zaU,zat]
  refine zaB fun Q1 h1 => ?_
  simp (maxSteps:=4000000) only [go_sem,AV.one,zae,zac,zad,zan,zaq,zaa,czb,cza,↓reduceIte,zaE,zab,zay,onz,zbx,es,hgr,hgs,hgc1,hcl,ge_iff_le]
  all_goals (repeat' first | (with_reducible first | rfl | apply And.intro | assumption) | ((with_reducible show zaj _ _ = true); rfl)) <;> try first | omega | (simp only [InR]; omega)
  rw [h1]; clear h1 Q1; simp only [zaU,zat]
  refine zaB fun Q1 h1 => ?_
  simp (maxSteps:=4000000) only [go_sem,AV.one,zae,zac,zad,zan,zaq,zaa,czb,cza,↓reduceIte,zaE,zab,zay,onz,zbx,cr,hgc1,hcl,czt,czz,List.set_set]
  all_goals (repeat' first | (with_reducible first | rfl | apply And.intro | assumption) | ((with_reducible show zaj _ _ = true); rfl)) <;> try first | omega | (simp only [InR]; omega)
  rw [h1]; clear h1 Q1; simp only [zaU,zat]
  refine zaB fun Q1 h1 => ?_
  simp (maxSteps:=4000000) only [go_sem,AV.one,zae,zac,zad,zan,zaq,zaa,czb,cza,↓reduceIte,zaE,zab,zay,onz,zbx,hok,hL]
  all_goals (repeat' first | (with_reducible first | rfl | apply And.intro | assumption) | ((with_reducible show zaj _ _ = true); rfl)) <;> try first | omega | (simp only [InR]; omega)
  rw [h1]; clear h1 Q1; simp only [zaU,zat]
  refine zaB fun Q1 h1 => ?_
  simp (maxSteps:=4000000) only [go_sem,AV.one,zae,zac,zad,zan,zaq,zaa,czb,cza,↓reduceIte,zaE,zab,zay,onz,zbx,ek,hg,dec_uk]
  all_goals (repeat' first | (with_reducible first | rfl | apply And.intro | assumption) | ((with_reducible show zaj _ _ = true); rfl)) <;> try first | omega | (simp only [InR]; omega)
  rw [h1]; clear h1 Q1; simp only [zaU,zat]
  refine zaB fun Q1 h1 => ?_
  simp (maxSteps:=4000000) only [go_sem,AV.one,zae,zac,zad,zan,zaq,zaa,czb,cza,↓reduceIte,zaE,zab,zay,onz,zbx,hws,hO]
  all_goals (repeat' first | (with_reducible first | rfl | apply And.intro | assumption) | ((with_reducible show zaj _ _ = true); rfl)) <;> try first | omega | (simp only [InR]; omega)
  rw [h1]; clear h1 Q1; simp only [zaU,zat]
  refine zaB fun Q1 h1 => ?_
  simp (maxSteps:=4000000) only [go_sem,AV.one,zae,zac,zad,zan,zaq,zaa,czb,cza,↓reduceIte,zaE,zab,zay,onz,zbx,e1]
  all_goals (repeat' first | (with_reducible first | rfl | apply And.intro | assumption) | ((with_reducible show zaj _ _ = true); rfl)) <;> try first | omega | (simp only [InR]; omega)
  rw [h1]; clear h1 Q1; simp only [zaU,zat]
  refine zaB fun Q1 h1 => ?_
  simp (maxSteps:=4000000) only [go_sem,AV.one,zae,zac,zad,zan,zaq,zaa,czb,cza,↓reduceIte,zaE,zab,zay,onz,zbx,hs,htk,hbX,e2]
  all_goals (repeat' first | (with_reducible first | rfl | apply And.intro | assumption) | ((with_reducible show zaj _ _ = true); rfl)) <;> try first | omega | (simp only [InR]; omega)
  rw [h1]; clear h1 Q1; simp only [zaU,zat]
  simp (maxSteps:=4000000) only [go_sem,AV.one,zae,zac,zad,zan,zaq,zaa,czb,cza,↓reduceIte,zaE,zab,zay,onz,zbx,hpl1,hpl2,hg1,hg2,hcl,p1,p2,b3,ge_iff_le,decide_true,decide_false]
  all_goals exact auz
end Go.Proofs
