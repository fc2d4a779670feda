/- The law DryLower. -/
import Derived.Test.YtilbconikmpadaaGreatG23
import Derived.Test.YtilbconikmpadaaGreatCH57
set_option linter.all false
namespace Go.Proofs
open Go.Fs
set_option maxHeartbeats 4000000
set_option maxRecDepth 8000
def zxv (y:Yd):Yd:=⟨⟨y.t.last,y.t.heights,y.t.step,y.t.levels,[]⟩,y.hands,y.chairs,y.order,y.hires⟩
theorem zog (y:Yd) (u v:Int) (ws:List (Uk .u8)) (hu:InR .u16 u) (hv':InR .u16 v) (hws:zxa ws):zaU Tryz.prog 14 [Enc.enc y,AV.int .u16 u,AV.int .u16 v,Enc.enc ws] (· = Enc.enc true):=by
 have hbx:(⟨⟨y.t.last,y.t.heights,y.t.step,y.t.levels,[]⟩,y.hands,y.chairs,y.order,y.hires⟩:Yd) = zxv y:=rfl
 cases c0:(zi1 (zxv y) && decide (zbB (zxv y) = 0))
 ·simp only [zbY]
  refine cpz zdt Tryz.func14 zaF ?_
  rw [Tryz.ntmps14]
  simp only [Tryz.f14,zah,zaq]
  iterate 3 (
   refine zar fun Q1 h1 => ?_
   simp (maxSteps:=4000000) only [go_sem,AV.one,zae,zac,zad,zap,zas,zab,czb,cza,↓reduceIte,zam,zaa,zao,onz,zaE]
   all_goals (repeat' first | (with_reducible first | rfl | apply And.intro | assumption) | ((with_reducible show zaf _ _ = true); rfl)) <;> try first | omega | (simp only [InR]; omega)
   rw [h1]; clear h1 Q1; simp only [zaG,zan])
  refine zar fun Q1 h1 => ?_
  simp (maxSteps:=4000000) only [go_sem,AV.one,zae,zac,zad,zap,zas,zab,czb,cza,↓reduceIte,zam,zaa,zao,onz,zaE,hbx,c0]
  all_goals (repeat' first | (with_reducible first | rfl | apply And.intro | assumption) | ((with_reducible show zaf _ _ = true); rfl)) <;> try first | omega | (simp only [InR]; omega)
  rw [h1]; clear h1 Q1; simp only [zaG,zan]
  refine zar fun Q1 h1 => ?_
  simp (maxSteps:=4000000) only [go_sem,AV.one,zae,zac,zad,zap,zas,zab,czb,cza,↓reduceIte,zam,zaa,zao,onz,zaE,decide_true,decide_false]
  all_goals (repeat' first | (with_reducible first | rfl | apply And.intro | assumption) | ((with_reducible show zaf _ _ = true); rfl)) <;> try first | omega | (simp only [InR]; omega)
  rw [h1]; clear h1 Q1; simp only [zaG,zan]
  simp (maxSteps:=4000000) only [go_sem,AV.one,zae,zac,zad,zap,zas,zab,czb,cza,↓reduceIte,zam,zaa,zao,onz,zaE]
  all_goals exact auz
 have c0':=c0
 simp only [czl,decide_eq_true_eq] at c0'
 have hv:=zhG c0'.2
 have hmk:(zxv y).t.marks = []:=rfl
 have hzb:∀ h:Rg,(⟨(zxv y).t,y.hands,y.chairs,y.order,[h]⟩:Yd) = oneY (zxv y) h:=fun _ => rfl
 have hbt:(⟨y.t.last,y.t.heights,y.t.step,y.t.levels,[]⟩:Tb) = (zxv y).t:=rfl
 have hbX:(⟨(zxv y).t,y.hands,y.chairs,y.order,y.hires⟩:Yd) = zxv y:=rfl
 have hXc:(zxv y).chairs = y.chairs:=rfl
 have hXh:(zxv y).hires = y.hires:=rfl
 obtain ⟨X,hX⟩:∃ X,zxv y = X:=⟨_,rfl⟩
 rw [hX] at c0 c0' hv hmk hbt hbX hXc hXh hbx
 simp only [hX] at hzb
 have hu':0 ≤ u ∧ u ≤ 65535:=hu
 have hv'':0 ≤ v ∧ v ≤ 65535:=hv'
 obtain ⟨l1,l2,l3,l4,l5,l6⟩:=lens hv
 have hc5:=hv.c5
 have hh5:=hv.r5
 rw [hXc] at hc5
 rw [hXh] at hh5
 have hord:=znB X ws
 have hol:=zev hord
 obtain ⟨O,hO⟩:∃ O,ordW X ws = O:=⟨_,rfl⟩
 rw [hO] at hord hol
 rw [hXc] at hol
 have hol4:O.length ≤ 4096:=by omega
 have hok:=(zty hv).1
 have hlz:zbH X.t ≠ []:=fun e => by
  obtain ⟨p,hp⟩:=List.exists_mem_of_ne_nil _ hv.tr
  unfold zaC at hp
  rw [e] at hp
  cases hp
 have hlp:=List.length_pos_iff.2 hlz
 have w1:=Int.emod_nonneg u (show ((zbH X.t).length:Int) ≠ 0 by omega)
 have w2:=Int.emod_lt_of_pos u (show (0:Int) < (zbH X.t).length by omega)
 obtain ⟨k,ek⟩:=czu w1
 have w3:=Int.emod_nonneg v (show ((zbH X.t).length:Int) ≠ 0 by omega)
 have w4:=Int.emod_lt_of_pos v (show (0:Int) < (zbH X.t).length by omega)
 obtain ⟨j,ej⟩:=czu w3
 rw [ek] at w2
 rw [ej] at w4
 have hkl:k < (zbH X.t).length:=by omega
 have hjl:j < (zbH X.t).length:=by omega
 have hg:=zat (f:=EncE.cs) hkl
 have hgj:=zat (f:=EncE.cs) hjl
 have hma:za3 X.t (at_ (zbH X.t) k) = true:=(zeQ hv.fok.vok.hok hv.fok.vok.many _).1 (zbb hkl)
 have hmb:za3 X.t (at_ (zbH X.t) j) = true:=(zeQ hv.fok.vok.hok hv.fok.vok.many _).1 (zbb hjl)
 have hll:=zhj hok
 obtain ⟨A,hA⟩:∃ A,at_ (zbH X.t) k = A:=⟨_,rfl⟩
 obtain ⟨B,hB⟩:∃ B,at_ (zbH X.t) j = B:=⟨_,rfl⟩
 rw [hA] at hg hma
 rw [hB] at hgj hmb
 obtain ⟨L,hL⟩:∃ L,zbH X.t = L:=⟨_,rfl⟩
 rw [hL] at hg hgj hkl hjl hlp ek ej hll w2 w4
 have hla:=zdf hv hma
 have hlb:=zdf hv hmb
 have hrx:=hv.hrs
 have hA4:A.length ≤ 4096:=by omega
 have hB4:B.length ≤ 4096:=by omega
 have hAB:A.length = B.length:=by omega
 have e1:=zgJ hv hma hord
 have e2:=zgJ hv (zmL hma hmb) hord
 have hlow:=fun (c:Nat) => low_play (y:=X) (o:=O) (c:Int) hAB hla
 have htl:(zgP A B).take A.length = zgP A B:=cze (by rw [ziA hAB]; exact czf _)
 have hlwl:=ziA hAB
 have hpa:=fun (c:Nat) (h:c < y.chairs.length) => (show ((zd9 X O A).map EncE.cs).getD c [] = EncE.cs (zbG X O A c) by rw [zat (by rw [zcN,hXc]; exact h),zeu O A (by rw [hXc]; exact h)])
 have hpb:=fun (c:Nat) (h:c < y.chairs.length) => (show ((zd9 X O (zgP A B)).map EncE.cs).getD c [] = EncE.cs (zbG X O (zgP A B) c) by rw [zat (by rw [zcN,hXc]; exact h),zeu O (zgP A B) (by rw [hXc]; exact h)])
 have hpl1:(zd9 X O A).length = y.chairs.length:=by rw [zcN,hXc]
 have hpl2:(zd9 X O (zgP A B)).length = y.chairs.length:=by rw [zcN,hXc]
 have hfa:=fun (c:Int) => zjf X O A c
 have hfb:=fun (c:Int) => zjf X O (zgP A B) c
 obtain ⟨ls,e3,hls,hin⟩:=zrS hv hmk
 have hfi:=fun (i:Nat) (h:i < X.hires.length) => zrT hv h
 rw [hXh] at hls hin hfi
 have hls4:(zbQ ls).length ≤ 4096:=by unfold zbQ; rw [czz]; omega
 obtain ⟨W,htk,htn,hw0,hwl⟩:∃ W:Nat → List Int,(∀ i,i < A.length → W (i + 1) = W i ++ [min (at_ A i) (at_ B i)]) ∧ (∀ i,i ≤ A.length → (W i).length = i) ∧ W 0 = [] ∧ W A.length = zgP A B :=
  ⟨fun i => (zgP A B).take i,fun i h => zl0 h hAB,fun i h => by rw [czO,hlwl]; omega,rfl,htl⟩
 simp only [zbY]
 refine cpz zdt Tryz.func14 zaF ?_
 rw [Tryz.ntmps14]
 simp only [Tryz.f14,zah,zaq]
 iterate 3 (
  refine zar fun Q1 h1 => ?_
  simp (maxSteps:=4000000) only [go_sem,AV.one,zae,zac,zad,zap,zas,zab,czb,cza,↓reduceIte,zam,zaa,zao,onz,zaE]
  all_goals (repeat' first | (with_reducible first | rfl | apply And.intro | assumption) | ((with_reducible show zaf _ _ = true); rfl)) <;> try first | omega | (simp only [InR]; omega)
  rw [h1]; clear h1 Q1; simp only [zaG,zan])
 refine zar fun Q1 h1 => ?_
 simp (maxSteps:=4000000) only [go_sem,AV.one,zae,zac,zad,zap,zas,zab,czb,cza,↓reduceIte,zam,zaa,zao,onz,zaE,hbx,hbt,hbX,c0]
 all_goals (repeat' first | (with_reducible first | rfl | apply And.intro | assumption) | ((with_reducible show zaf _ _ = true); rfl)) <;> try first | omega | (simp only [InR]; omega)
 rw [h1]; clear h1 Q1; simp only [zaG,zan]
 iterate 2 (
  refine zar fun Q1 h1 => ?_
  simp (maxSteps:=4000000) only [go_sem,AV.one,zae,zac,zad,zap,zas,zab,czb,cza,↓reduceIte,zam,zaa,zao,onz,zaE,hbt,hok,hL]
  all_goals (repeat' first | (with_reducible first | rfl | apply And.intro | assumption) | ((with_reducible show zaf _ _ = true); rfl)) <;> try first | omega | (simp only [InR]; omega)
  rw [h1]; clear h1 Q1; simp only [zaG,zan])
 refine zar fun Q1 h1 => ?_
 simp (maxSteps:=4000000) only [go_sem,AV.one,zae,zac,zad,zap,zas,zab,czb,cza,↓reduceIte,zam,zaa,zao,onz,zaE,ek,ej,hg,hgj,zuj]
 all_goals (repeat' first | (with_reducible first | rfl | apply And.intro | assumption) | ((with_reducible show zaf _ _ = true); rfl)) <;> try first | omega | (simp only [InR]; omega)
 rw [h1]; clear h1 Q1; simp only [zaG,zan]
 simp (maxSteps:=4000000) only [go_sem,AV.one,zae,zac,zad,zap,zas,zab,czb,cza,↓reduceIte,zam,zaa,zao,onz,zaE]
 all_goals (repeat' first | (with_reducible first | rfl | apply And.intro | assumption) | ((with_reducible show zaf _ _ = true); rfl)) <;> try first | omega | (simp only [InR]; omega)
 refine zbA (A.length) [.slot 13 1] [3,8,9,11,12] (fun i => [(14,.int .i64 i),(13,.sl ((W i).map EncE.cs) (.own 2))]) (fun i m => m.set 2 (.tok (W i).length 1)) (fun _ => True) ?_ ?_ ?_ ?_
 ·trivial
 ·simp [AV.bare,zal,zaP,zaS,zak,zau,zag,tokz1,lk,zab,za4,hw0,zaE,-List.map_map]
 ·intro i hi _
  have hi':=czH.2 hi
  have hi2:i < B.length:=by omega
  have hn:=htn i (by omega)
  have hs:=htk i hi
  obtain ⟨Q,hQ⟩:∃ Q,W i = Q:=⟨_,rfl⟩
  rw [hQ] at hn hs ⊢
  simp (maxSteps:=4000000) only [go_sem,zae,zac,zad,zap,zas,zab,czb,cza,↓reduceIte,zam,zaa,zao,onz,zaE,hi',zat hi,zat hi2,hn]
  all_goals (repeat' first | (with_reducible first | rfl | apply And.intro | assumption) | ((with_reducible show zaf _ _ = true); rfl)) <;> try first | omega | (simp only [InR]; omega)
  refine nxt hi trivial ?_
  simp [AV.bare,zal,zaP,zaS,zak,zau,zag,tokz1,lk,zab,za4,hs,hn,zaE,-List.map_map]
 ·intro _
  have hn:=htn A.length (czf _)
  rw [hwl] at hn ⊢
  obtain ⟨W,hW⟩:∃ W,zgP A B = W:=⟨_,rfl⟩
  simp only [hW] at *
  refine zar fun Q1 h1 => ?_
  simp (maxSteps:=4000000) only [go_sem,AV.one,zae,zac,zad,zap,zas,zab,czb,cza,↓reduceIte,zam,zaa,zao,onz,zaE,czA,decide_false]
  all_goals (repeat' first | (with_reducible first | rfl | apply And.intro | assumption) | ((with_reducible show zaf _ _ = true); rfl)) <;> try first | omega | (simp only [InR]; omega)
  rw [h1]; clear h1 Q1; simp only [zaG,zan]
  refine zar fun Q1 h1 => ?_
  simp (maxSteps:=4000000) only [go_sem,AV.one,zae,zac,zad,zap,zas,zab,czb,cza,↓reduceIte,zam,zaa,zao,onz,zaE,hbx,hbt,hbX,hws,hO]
  all_goals (repeat' first | (with_reducible first | rfl | apply And.intro | assumption) | ((with_reducible show zaf _ _ = true); rfl)) <;> try first | omega | (simp only [InR]; omega)
  rw [h1]; clear h1 Q1; simp only [zaG,zan]
  refine zar fun Q1 h1 => ?_
  simp (maxSteps:=4000000) only [go_sem,AV.one,zae,zac,zad,zap,zas,zab,czb,cza,↓reduceIte,zam,zaa,zao,onz,zaE,hbx,hbt,hbX,e1]
  all_goals (repeat' first | (with_reducible first | rfl | apply And.intro | assumption) | ((with_reducible show zaf _ _ = true); rfl)) <;> try first | omega | (simp only [InR]; omega)
  rw [h1]; clear h1 Q1; simp only [zaG,zan]
  refine zar fun Q1 h1 => ?_
  simp (maxSteps:=4000000) only [go_sem,AV.one,zae,zac,zad,zap,zas,zab,czb,cza,↓reduceIte,zam,zaa,zao,onz,zaE,hbx,hbt,hbX,e2]
  all_goals (repeat' first | (with_reducible first | rfl | apply And.intro | assumption) | ((with_reducible show zaf _ _ = true); rfl)) <;> try first | omega | (simp only [InR]; omega)
  rw [h1]; clear h1 Q1; simp only [zaG,zan]
  refine zar fun Q1 h1 => ?_
  simp (maxSteps:=4000000) only [go_sem,AV.one,zae,zac,zad,zap,zas,zab,czb,cza,↓reduceIte,zam,zaa,zao,onz,zaE,hbx,hbt,hbX,e3]
  all_goals (repeat' first | (with_reducible first | rfl | apply And.intro | assumption) | ((with_reducible show zaf _ _ = true); rfl)) <;> try first | omega | (simp only [InR]; omega)
  rw [h1]; clear h1 Q1; simp only [zaG,zan]
  refine zar fun Q1 h1 => ?_
  simp (maxSteps:=4000000) only [go_sem,AV.one,zae,zac,zad,zap,zas,zab,czb,cza,↓reduceIte,zam,zaa,zao,onz,zaE,hpl1,hpl2,bne_self_eq_false,decide_true,decide_false]
  all_goals (repeat' first | (with_reducible first | rfl | apply And.intro | assumption) | ((with_reducible show zaf _ _ = true); rfl)) <;> try first | omega | (simp only [InR]; omega)
  rw [h1]; clear h1 Q1; simp only [zaG,zan]
  simp (maxSteps:=4000000) only [go_sem,AV.one,zae,zac,zad,zap,zas,zab,czb,cza,↓reduceIte,zam,zaa,zao,onz,zaE,decide_true,decide_false]
  all_goals (repeat' first | (with_reducible first | rfl | apply And.intro | assumption) | ((with_reducible show zaf _ _ = true); rfl)) <;> try first | omega | (simp only [InR]; omega)
  refine zbA (y.chairs.length) [] [8,9,16,18,20] (fun i => [(22,.int .i64 i)]) (fun _ m => m) (fun _ => True) ?_ ?_ ?_ ?_
  ·trivial
  ·simp [AV.bare,zal,zaP,zaS,zak,zau,zag,tokz1,lk,zab,za4,zaE,-List.map_map]
  ·intro i hi _
   have hi':=czH.2 hi
   obtain ⟨b1,b2,b3⟩:=hlow i
   have hga:=hpa i hi
   have hgb:=hpb i hi
   have hf1:=hfa i
   have hf2:=hfb i
   obtain ⟨P1,hP1⟩:∃ P,zbG X O A i = P:=⟨_,rfl⟩
   obtain ⟨P2,hP2⟩:∃ P,zbG X O W i = P:=⟨_,rfl⟩
   rw [hP1] at b1 b2 b3 hga hf1
   rw [hP2] at b1 b2 b3 hgb hf2
   have hf1':P1.free.length ≤ 4096:=by omega
   have hf2':P2.free.length ≤ 4096:=by omega
   have p1:decide (P1.wet < P2.wet) = false:=decide_eq_false (by omega)
   have p2:decide (P2.rot < P1.rot) = false:=decide_eq_false (by omega)
   simp (maxSteps:=4000000) only [go_sem,AV.one,zae,zac,zad,zap,zas,zab,czb,cza,↓reduceIte,zam,zaa,zao,onz,zaE,hi',gt_iff_lt,hpl1,hpl2,hga,hgb,p1,p2,b3,decide_true,decide_false]
   all_goals (repeat' first | (with_reducible first | rfl | apply And.intro | assumption) | ((with_reducible show zaf _ _ = true); rfl)) <;> try first | omega | (simp only [InR]; omega)
   refine nxt hi trivial ?_
   simp [AV.bare,zal,zaP,zaS,zak,zau,zag,tokz1,lk,zab,za4,zaE,-List.map_map]
  ·intro _
   simp (maxSteps:=4000000) only [go_sem,AV.one,zae,zac,zad,zap,zas,zab,czb,cza,↓reduceIte,zam,zaa,zao,onz,zaE,hpl1,czA,decide_false]
   all_goals (repeat' first | (with_reducible first | rfl | apply And.intro | assumption) | ((with_reducible show zaf _ _ = true); rfl)) <;> try first | omega | (simp only [InR]; omega)
   refine zbA (y.hires.length) [] [8,9,20] (fun i => [(23,.int .i64 i)]) (fun _ m => m) (fun _ => True) ?_ ?_ ?_ ?_
   ·trivial
   ·simp [AV.bare,zal,zaP,zaS,zak,zau,zag,tokz1,lk,zab,za4,zaE,-List.map_map]
   ·intro i hi _
    have hi':=czH.2 hi
    have hz:=hzb (at_ y.hires i)
    have hc:=hin i hi
    obtain ⟨z1,z2,z3,z4,z5,z6⟩:=lens (one_ok hv (h:=at_ y.hires i) (by rw [hXh]; exact zbb hi))
    obtain ⟨Z,hZ⟩:∃ Z,oneY X (at_ y.hires i) = Z:=⟨_,rfl⟩
    rw [hZ] at z1 z2 z3 z4 z5 z6
    rcases hfi i hi with ⟨k1,m,k2⟩ | ⟨k1,k2⟩
    ·rw [decide_eq_true k1] at hc
     rw [hZ] at k2 hz
     simp (maxSteps:=4000000) only [go_sem,AV.one,zae,zac,zad,zap,zas,zab,czb,cza,↓reduceIte,zam,zaa,zao,onz,zaE,hi',zat hi,hbt,hz,k2,hc,hls4,bne_self_eq_false,decide_true,decide_false]
     all_goals (repeat' first | (with_reducible first | rfl | apply And.intro | assumption) | ((with_reducible show zaf _ _ = true); rfl)) <;> try first | omega | (simp only [InR]; omega)
     refine nxt hi trivial ?_
     simp [AV.bare,zal,zaP,zaS,zak,zau,zag,tokz1,lk,zab,za4,zaE,-List.map_map]
    ·rw [decide_eq_false k1] at hc
     rw [hZ] at k2 hz
     simp (maxSteps:=4000000) only [go_sem,AV.one,zae,zac,zad,zap,zas,zab,czb,cza,↓reduceIte,zam,zaa,zao,onz,zaE,hi',zat hi,hbt,hz,k2,hc,hls4,bne_self_eq_false,decide_true,decide_false]
     all_goals (repeat' first | (with_reducible first | rfl | apply And.intro | assumption) | ((with_reducible show zaf _ _ = true); rfl)) <;> try first | omega | (simp only [InR]; omega)
     refine nxt hi trivial ?_
     simp [AV.bare,zal,zaP,zaS,zak,zau,zag,tokz1,lk,zab,za4,zaE,-List.map_map]
   ·intro _
    simp (maxSteps:=4000000) only [go_sem,AV.one,zae,zac,zad,zap,zas,zab,czb,cza,↓reduceIte,zam,zaa,zao,onz,zaE,czA,decide_false]
    all_goals exact auz
end Go.Proofs
