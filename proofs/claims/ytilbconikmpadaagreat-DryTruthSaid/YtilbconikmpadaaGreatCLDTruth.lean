/- The law DryTruth. -/
import Derived.Test.YtilbconikmpadaaGreatG23
import Derived.Test.YtilbconikmpadaaGreatCH54
set_option linter.all false
namespace Go.Proofs
open Go.Fs
set_option maxHeartbeats 4000000
set_option maxRecDepth 8000
theorem zof (y:Yd) (u:Int) (ws:List (Uk .u8)) (hu:InR .u16 u) (hws:zxa ws):zaU Tryz.prog 9 [Enc.enc y,AV.int .u16 u,Enc.enc ws] (· = Enc.enc true):=by
 cases c0:(zi1 y && decide (zbB y = 0))
 ·simp only [zbY]
  refine cpz zdt Tryz.func9 zaF ?_
  rw [Tryz.ntmps9]
  simp only [Tryz.f9,zah,zaq]
  iterate 2 (
   refine zar fun Q1 h1 => ?_
   simp (maxSteps:=4000000) only [go_sem,AV.one,zae,zac,zad,zap,zas,zab,czb,cza,↓reduceIte,zam,zaa,zao,onz,zaE,c0]
   all_goals (repeat' first | (with_reducible first | rfl | apply And.intro | assumption) | ((with_reducible show zaf _ _ = true); rfl)) <;> try first | omega | (simp only [InR]; omega)
   rw [h1]; clear h1 Q1; simp only [zaG,zan])
  simp (maxSteps:=4000000) only [go_sem,AV.one,zae,zac,zad,zap,zas,zab,czb,cza,↓reduceIte,zam,zaa,zao,onz,zaE]
  all_goals exact auz
 have c0':=c0
 simp only [czl,decide_eq_true_eq] at c0'
 have hv:=zhG c0'.2
 obtain ⟨l1,l2,l3,l4,l5,l6⟩:=lens hv
 have hu0:0 ≤ u:=hu.1
 have hvX:=hired_ok hv hws u
 have hT:=zsb hv hu0 ws
 have hord:za2 (zjE y u ws).chairs.length (ordW y ws) = true:=znB y ws
 obtain ⟨X,hX⟩:∃ X,zjE y u ws = X:=⟨_,rfl⟩
 rw [hX] at hvX hT hord
 obtain ⟨T,hTe⟩:∃ T,zjt y u = T:=⟨_,rfl⟩
 rw [hTe] at hT
 obtain ⟨O,hO⟩:∃ O,ordW y ws = O:=⟨_,rfl⟩
 rw [hO] at hord
 obtain ⟨x1,x2,x3,x4,x5,x6⟩:=lens hvX
 have hxc5:=hvX.c5
 have hol:=zev hord
 have hol4:O.length ≤ 4096:=by omega
 have htX:zaJ X ≠ []:=fun e => by rw [e] at hT; cases hT
 have hW:=worst_mem hvX htX O
 have hwl:=zvl hvX htX O
 have e2:=zrW hvX htX hord
 obtain ⟨W,hWe⟩:∃ W,zmh X O = W:=⟨_,rfl⟩
 rw [hWe] at hW hwl e2
 have hTl:=zfx hvX (zb3.1 hT).1
 have hWl:=zfx hvX (zb3.1 hW).1
 have hTh:=zdf hvX hTl
 have hWh:=zdf hvX hWl
 have hrx:=hvX.hrs
 have hl0:=hvX.l0
 have hT4:T.length ≤ 4096:=by omega
 have hW4:W.length ≤ 4096:=by omega
 have e1:=zgJ hvX hTl hord
 have e3:=zr3 hvX htX
 have e4:=zlk hvX htX
 have e5:zik X T = true:=by rw [ztU hvX,ztB hvX hT]
 have e6:zik X W = true:=by rw [ztU hvX,ztB hvX hW]
 have e7:=zgJ hvX hWl hord
 have hpl1:=zcN X O T
 have hpl2:=zcN X O W
 have hlo:=loss_of (y:=X) (o:=O) hT
 obtain ⟨n,hn⟩:∃ n,zgQ X (zaJ X) O = n:=⟨_,rfl⟩
 rw [hn] at hlo hwl e2
 have hlo':=decide_eq_true hlo
 simp only [zbY]
 refine cpz zdt Tryz.func9 zaF ?_
 rw [Tryz.ntmps9]
 simp only [Tryz.f9,zah,zaq]
 iterate 2 (
  refine zar fun Q1 h1 => ?_
  simp (maxSteps:=4000000) only [go_sem,AV.one,zae,zac,zad,zap,zas,zab,czb,cza,↓reduceIte,zam,zaa,zao,onz,zaE,c0]
  all_goals (repeat' first | (with_reducible first | rfl | apply And.intro | assumption) | ((with_reducible show zaf _ _ = true); rfl)) <;> try first | omega | (simp only [InR]; omega)
  rw [h1]; clear h1 Q1; simp only [zaG,zan])
 iterate 2 (
  refine zar fun Q1 h1 => ?_
  simp (maxSteps:=4000000) only [go_sem,AV.one,zae,zac,zad,zap,zas,zab,czb,cza,↓reduceIte,zam,zaa,zao,onz,zaE,zuj,hv,hws,hX,hTe,hu]
  all_goals (repeat' first | (with_reducible first | rfl | apply And.intro | assumption) | ((with_reducible show zaf _ _ = true); rfl)) <;> try first | omega | (simp only [InR]; omega)
  rw [h1]; clear h1 Q1; simp only [zaG,zan])
 refine zar fun Q1 h1 => ?_
 simp (maxSteps:=4000000) only [go_sem,AV.one,zae,zac,zad,zap,zas,zab,czb,cza,↓reduceIte,zam,zaa,zao,onz,zaE,hws,hO]
 all_goals (repeat' first | (with_reducible first | rfl | apply And.intro | assumption) | ((with_reducible show zaf _ _ = true); rfl)) <;> try first | omega | (simp only [InR]; omega)
 rw [h1]; clear h1 Q1; simp only [zaG,zan]
 refine zar fun Q1 h1 => ?_
 simp (maxSteps:=4000000) only [go_sem,AV.one,zae,zac,zad,zap,zas,zab,czb,cza,↓reduceIte,zam,zaa,zao,onz,zaE,e1]
 all_goals (repeat' first | (with_reducible first | rfl | apply And.intro | assumption) | ((with_reducible show zaf _ _ = true); rfl)) <;> try first | omega | (simp only [InR]; omega)
 rw [h1]; clear h1 Q1; simp only [zaG,zan]
 refine zar fun Q1 h1 => ?_
 simp (maxSteps:=4000000) only [go_sem,AV.one,zae,zac,zad,zap,zas,zab,czb,cza,↓reduceIte,zam,zaa,zao,onz,zaE,e2]
 all_goals (repeat' first | (with_reducible first | rfl | apply And.intro | assumption) | ((with_reducible show zaf _ _ = true); rfl)) <;> try first | omega | (simp only [InR]; omega)
 rw [h1]; clear h1 Q1; simp only [zaG,zan]
 refine zar fun Q1 h1 => ?_
 simp (maxSteps:=4000000) only [go_sem,AV.one,zae,zac,zad,zap,zas,zab,czb,cza,↓reduceIte,zam,zaa,zao,onz,zaE,e3]
 all_goals (repeat' first | (with_reducible first | rfl | apply And.intro | assumption) | ((with_reducible show zaf _ _ = true); rfl)) <;> try first | omega | (simp only [InR]; omega)
 rw [h1]; clear h1 Q1; simp only [zaG,zan]
 refine zar fun Q1 h1 => ?_
 simp (maxSteps:=4000000) only [go_sem,AV.one,zae,zac,zad,zap,zas,zab,czb,cza,↓reduceIte,zam,zaa,zao,onz,zaE,e4]
 all_goals (repeat' first | (with_reducible first | rfl | apply And.intro | assumption) | ((with_reducible show zaf _ _ = true); rfl)) <;> try first | omega | (simp only [InR]; omega)
 rw [h1]; clear h1 Q1; simp only [zaG,zan]
 refine zar fun Q1 h1 => ?_
 simp (maxSteps:=4000000) only [go_sem,AV.one,zae,zac,zad,zap,zas,zab,czb,cza,↓reduceIte,zam,zaa,zao,onz,zaE,hpl1,e5,e6,hT4,hW4,bne_self_eq_false,decide_true,decide_false]
 all_goals (repeat' first | (with_reducible first | rfl | apply And.intro | assumption) | ((with_reducible show zaf _ _ = true); rfl)) <;> try first | omega | (simp only [InR]; omega)
 rw [h1]; clear h1 Q1; simp only [zaG,zan]
 iterate 2 (
  refine zar fun Q1 h1 => ?_
  simp (maxSteps:=4000000) only [go_sem,AV.one,zae,zac,zad,zap,zas,zab,czb,cza,↓reduceIte,zam,zaa,zao,onz,zaE,e7,decide_true,decide_false]
  all_goals (repeat' first | (with_reducible first | rfl | apply And.intro | assumption) | ((with_reducible show zaf _ _ = true); rfl)) <;> try first | omega | (simp only [InR]; omega)
  rw [h1]; clear h1 Q1; simp only [zaG,zan])
 refine zar fun Q1 h1 => ?_
 simp (maxSteps:=4000000) only [go_sem,AV.one,zae,zac,zad,zap,zas,zab,czb,cza,↓reduceIte,zam,zaa,zao,onz,zaE,hpl1,hpl2,bne_self_eq_false,decide_true,decide_false]
 all_goals (repeat' first | (with_reducible first | rfl | apply And.intro | assumption) | ((with_reducible show zaf _ _ = true); rfl)) <;> try first | omega | (simp only [InR]; omega)
 rw [h1]; clear h1 Q1; simp only [zaG,zan]
 simp (maxSteps:=4000000) only [go_sem,AV.one,zae,zac,zad,zap,zas,zab,czb,cza,↓reduceIte,zam,zaa,zao,onz,zaE,hpl1,hpl2,bne_self_eq_false,decide_true,decide_false]
 all_goals (repeat' first | (with_reducible first | rfl | apply And.intro | assumption) | ((with_reducible show zaf _ _ = true); rfl)) <;> try first | omega | (simp only [InR]; omega)
 have hz:∀ p,zcM X O p 0 = 0:=fun _ => rfl
 have i1:inB 1 1 3 = true:=rfl
 have i2:inB 2 1 3 = true:=rfl
 have i3:inB 3 1 3 = true:=rfl
 refine zbA (X.chairs.length) [] [6,7,9,10,12,19] (fun i => [(23,.int .i64 i),(21,.int .i64 (zcM X O T i)),(22,.int .i64 (zcM X O W i))]) (fun _ m => m) (fun _ => True) ?_ ?_ ?_ ?_
 ·trivial
 ·simp [AV.bare,zal,zaP,zaS,zak,zau,zag,tokz1,lk,zab,za4,hz,zaE,-List.map_map]
 ·intro i hi _
  have hi':=czH.2 hi
  have qh:zxw X O i = true:=by unfold zxw; rw [hord,(zbn _ _ _).2 (by omega)]; rfl
  have f1:=zkj hvX htX qh (by omega) (by omega)
  have f2:=zud hvX htX O (c:=(i:Int)) (by omega) (by omega) hT
  have hg1:((zd9 X O T).map EncE.cs).getD i [] = EncE.cs (zbG X O T i):=by rw [zat (by omega),zeu O T hi]
  have hg2:((zd9 X O W).map EncE.cs).getD i [] = EncE.cs (zbG X O W i):=by rw [zat (by omega),zeu O W hi]
  have hs1:=zgF X O T i
  have hs2:=zgF X O W i
  have hb1:=zeO X O T i
  have hb2:=zeO X O W i
  have hr1:(zbG X O T i).rot = (znt X O T i:Int):=rfl
  have hr2:(zbG X O W i).rot = (znt X O W i:Int):=rfl
  rw [← hr1] at hs1
  rw [← hr2] at hs2
  have hfb:=zjf X O T i
  have hfv:=fun k (hk:k < hrs X) => zsf (o:=O) (c:=(i:Int)) hk hT
  have hfo:=fun (k:Nat) (hk:k < hrs X) => zle (k:=(k:Int)) (c:=(i:Int)) (o:=O) hvX htX (by unfold zjl; rw [hord,(zbn _ _ _).2 (by omega),(zbn _ _ _).2 (by omega)]; rfl) (by omega) (by omega) (by omega) (by omega)
  obtain ⟨H,hH⟩:∃ H,zeG X (zaJ X) O i = H:=⟨_,rfl⟩
  rw [hH] at f1 f2
  obtain ⟨S1,hS1⟩:∃ S1,zbG X O T i = S1:=⟨_,rfl⟩
  obtain ⟨S2,hS2⟩:∃ S2,zbG X O W i = S2:=⟨_,rfl⟩
  rw [hS1] at f2 hg1 hs1 hfb
  simp only [hS1] at hfv
  rw [hS2] at hg2 hs2
  have hf4:S1.free.length ≤ 4096:=by omega
  obtain ⟨N1,hN1⟩:∃ N1,zcM X O T i = N1:=⟨_,rfl⟩
  obtain ⟨N2,hN2⟩:∃ N2,zcM X O W i = N2:=⟨_,rfl⟩
  rw [hN1] at hs1 hb1 ⊢
  rw [hN2] at hs2 hb2 ⊢
  have g1:=decide_eq_false (show ¬ (((S1.free.length:Nat):Int) < H.lo) by omega)
  have g2:=decide_eq_false (show ¬ (H.hi < ((S1.free.length:Nat):Int)) by omega)
  cases d1:decide (S1.rot ≤ X.t.last) <;> cases d2:decide (S2.rot ≤ X.t.last)
  all_goals
   have d1':=d1
   have d2':=d2
   simp only [decide_eq_true_eq,decide_eq_false_iff_not] at d1' d2'
   first | rw [if_pos d1'] at hs1 | rw [if_neg d1'] at hs1
   first | rw [if_pos d2'] at hs2 | rw [if_neg d2'] at hs2
   simp (maxSteps:=4000000) only [go_sem,AV.one,zae,zac,zad,zap,zas,zab,czb,cza,↓reduceIte,zam,zaa,zao,onz,zaE,gt_iff_lt,hi',hpl1,hpl2,f1,hg1,hg2,g1,g2,d1,d2,decide_true,decide_false]
   all_goals (repeat' first | (with_reducible first | rfl | apply And.intro | assumption) | ((with_reducible show zaf _ _ = true); rfl)) <;> try first | omega | (simp only [InR]; omega)
   refine zbA (hrs X) [] [6,7,9,10,12,19,21,22,23,24,25] (fun k => [(26,.int .i64 k)]) (fun _ m => m) (fun _ => True) ?_ ?_ ?_ ?_
   ·trivial
   ·simp [AV.bare,zal,zaP,zaS,zak,zau,zag,tokz1,lk,zab,za4,zaE,-List.map_map]
   ·intro k hk _
    have hk':((k:Nat):Int) ≤ X.t.last:=by omega
    have w1:=hfo k hk
    refine zlU fun Q0 hQ0 => ?_
    rcases hfv k hk with ⟨v1,v2⟩ | ⟨v1,v2⟩ | v1
    ·rw [v1] at w1
     simp (maxSteps:=4000000) only [go_sem,AV.one,zae,zac,zad,zap,zas,zab,czb,cza,↓reduceIte,zam,zaa,zao,onz,zaE,hk',w1,hpl1,hg1,hf4,v2,i1,hi',decide_true,decide_false]
     all_goals (repeat' first | (with_reducible first | rfl | apply And.intro | assumption) | ((with_reducible show zaf _ _ = true); rfl)) <;> try first | omega | (simp only [InR]; omega)
     rw [hQ0]
     simp only [zaG]
     refine nxt hk trivial ?_
     simp [AV.bare,zal,zaP,zaS,zak,zau,zag,tokz1,lk,zab,za4,zaE,-List.map_map]
    ·rw [v1] at w1
     simp (maxSteps:=4000000) only [go_sem,AV.one,zae,zac,zad,zap,zas,zab,czb,cza,↓reduceIte,zam,zaa,zao,onz,zaE,hk',w1,hpl1,hg1,hf4,v2,i2,hi',decide_true,decide_false]
     all_goals (repeat' first | (with_reducible first | rfl | apply And.intro | assumption) | ((with_reducible show zaf _ _ = true); rfl)) <;> try first | omega | (simp only [InR]; omega)
     rw [hQ0]
     simp only [zaG]
     refine nxt hk trivial ?_
     simp [AV.bare,zal,zaP,zaS,zak,zau,zag,tokz1,lk,zab,za4,zaE,-List.map_map]
    ·rw [v1] at w1
     obtain ⟨B,hB⟩:∃ B,S1.free.contains (k:Int) = B:=⟨_,rfl⟩
     simp (maxSteps:=4000000) only [go_sem,AV.one,zae,zac,zad,zap,zas,zab,czb,cza,↓reduceIte,zam,zaa,zao,onz,zaE,hk',w1,hpl1,hg1,hf4,hB,i3,hi',decide_true,decide_false]
     all_goals (repeat' first | (with_reducible first | rfl | apply And.intro | assumption) | ((with_reducible show zaf _ _ = true); rfl)) <;> try first | omega | (simp only [InR]; omega)
     rw [hQ0]
     simp only [zaG]
     refine nxt hk trivial ?_
     simp [AV.bare,zal,zaP,zaS,zak,zau,zag,tokz1,lk,zab,za4,zaE,-List.map_map]
   ·intro _
    have hk':¬ ((hrs X:Nat):Int) ≤ X.t.last:=by omega
    simp (maxSteps:=4000000) only [go_sem,AV.one,zae,zac,zad,zap,zas,zab,czb,cza,↓reduceIte,zam,zaa,zao,onz,zaE,hk',decide_true,decide_false]
    all_goals (repeat' first | (with_reducible first | rfl | apply And.intro | assumption) | ((with_reducible show zaf _ _ = true); rfl)) <;> try first | omega | (simp only [InR]; omega)
    refine nxt hi trivial ?_
    simp [AV.bare,zal,zaP,zaS,zak,zau,zag,tokz1,lk,zab,za4,hs1,hs2,zaE,-List.map_map]
 ·intro _
  have n1:zcM X O T X.chairs.length = zb7 X O T:=rfl
  have n2:zcM X O W X.chairs.length = n:=hwl
  rw [n1,n2]
  simp (maxSteps:=4000000) only [go_sem,AV.one,zae,zac,zad,zap,zas,zab,czb,cza,↓reduceIte,zam,zaa,zao,onz,zaE,hpl1,hlo',czA,decide_true,decide_false]
  all_goals exact auz
end Go.Proofs
