/- The law DryFrees. -/
import Derived.Test.YtilbconikmpadaaGreatG23
set_option linter.all false
namespace Go.Proofs
open Go.Fs
set_option maxHeartbeats 4000000
set_option maxRecDepth 8000
theorem znK (y:Yd) (o:List Int) (c k:Int):zaQ Tryz.prog 4 [Enc.enc y,Enc.enc o,Enc.enc c,Enc.enc k] (· = Enc.enc true):=by
 cases c1:ziC y
 ·simp only [zbz]
  refine cpz zbX Tryz.func4 zaD ?_
  rw [Tryz.ntmps4]
  simp only [Tryz.f4,zag,zap]
  iterate 2 (
   refine zar fun Q1 h1 => ?_
   simp (maxSteps:=4000000) only [go_sem,AV.one,zae,zac,zad,zaq,zas,zab,czb,cza,↓reduceIte,zan,zaa,zao,onz,c1]
   all_goals (repeat' first | (with_reducible first | rfl | apply And.intro | assumption) | ((with_reducible show zaf _ _ = true); rfl)) <;> try first | omega | (simp only [InR]; omega)
   rw [h1]; clear h1 Q1; simp only [zaE,zam])
  simp (maxSteps:=4000000) only [go_sem,AV.one,zae,zac,zad,zaq,zas,zab,czb,cza,↓reduceIte,zan,zaa,zao,onz]
  all_goals exact auz
 have hl:=zfl c1
 by_cases c2:(7:Int) < o.length
 ·simp only [zbz]
  refine cpz zbX Tryz.func4 zaD ?_
  rw [Tryz.ntmps4]
  simp only [Tryz.f4,zag,zap]
  iterate 2 (
   refine zar fun Q1 h1 => ?_
   simp (maxSteps:=4000000) only [go_sem,AV.one,zae,zac,zad,zaq,zas,zab,czb,cza,↓reduceIte,zan,zaa,zao,onz,c1,gt_iff_lt,c2,decide_true]
   all_goals (repeat' first | (with_reducible first | rfl | apply And.intro | assumption) | ((with_reducible show zaf _ _ = true); rfl)) <;> try first | omega | (simp only [InR]; omega)
   rw [h1]; clear h1 Q1; simp only [zaE,zam])
  simp (maxSteps:=4000000) only [go_sem,AV.one,zae,zac,zad,zaq,zas,zab,czb,cza,↓reduceIte,zan,zaa,zao,onz]
  all_goals exact auz
 have c2':=decide_eq_false c2
 have ho:o.length ≤ 7:=by omega
 have ho4:o.length ≤ 4096:=by omega
 by_cases cf:za9 y = 0
 case neg =>
  have e1:=zjL (k:=k) (o:=o) (c:=c) (zk2 cf _) cf
  have e2:=zig (o:=o) (c:=c) (zk2 cf _) cf
  have e3:zdG y = ([],za9 y):=by unfold zdG; rw [if_neg cf]
  obtain ⟨X,hX⟩:∃ X,za9 y = X:=⟨_,rfl⟩
  rw [hX] at cf e1 e2 e3
  have cf':=decide_eq_false cf
  simp only [zbz]
  refine cpz zbX Tryz.func4 zaD ?_
  rw [Tryz.ntmps4]
  simp only [Tryz.f4,zag,zap]
  iterate 2 (
   refine zar fun Q1 h1 => ?_
   simp (maxSteps:=4000000) only [go_sem,AV.one,zae,zac,zad,zaq,zas,zab,czb,cza,↓reduceIte,zan,zaa,zao,onz,c1,gt_iff_lt,c2',decide_false]
   all_goals (repeat' first | (with_reducible first | rfl | apply And.intro | assumption) | ((with_reducible show zaf _ _ = true); rfl)) <;> try first | omega | (simp only [InR]; omega)
   rw [h1]; clear h1 Q1; simp only [zaE,zam])
  iterate 5 (
   refine zar fun Q1 h1 => ?_
   simp (maxSteps:=4000000) only [go_sem,AV.one,zae,zac,zad,zaq,zas,zab,czb,cza,↓reduceIte,zan,zaa,zao,onz,e1,e2,e3,hX]
   all_goals (repeat' first | (with_reducible first | rfl | apply And.intro | assumption) | ((with_reducible show zaf _ _ = true); rfl)) <;> try first | omega | (simp only [InR]; omega)
   rw [h1]; clear h1 Q1; simp only [zaE,zam])
  iterate 4 (
   refine zar fun Q1 h1 => ?_
   simp (maxSteps:=4000000) only [go_sem,AV.one,zae,zac,zad,zaq,zas,zab,czb,cza,↓reduceIte,zan,zaa,zao,onz,hX,cf',decide_true,decide_false]
   all_goals (repeat' first | (with_reducible first | rfl | apply And.intro | assumption) | ((with_reducible show zaf _ _ = true); rfl)) <;> try first | omega | (simp only [InR]; omega)
   rw [h1]; clear h1 Q1; simp only [zaE,zam])
  iterate 2 (
   refine zar fun Q1 h1 => ?_
   simp (maxSteps:=4000000) only [go_sem,AV.one,zae,zac,zad,zaq,zas,zab,czb,cza,↓reduceIte,zan,zaa,zao,onz,cf',decide_true,decide_false]
   all_goals (repeat' first | (with_reducible first | rfl | apply And.intro | assumption) | ((with_reducible show zaf _ _ = true); rfl)) <;> try first | omega | (simp only [InR]; omega)
   rw [h1]; clear h1 Q1; simp only [zaE,zam])
  refine zar fun Q1 h1 => ?_
  simp (maxSteps:=4000000) only [go_sem,AV.one,zae,zac,zad,zaq,zas,zab,czb,cza,↓reduceIte,zan,zaa,zao,onz,cf',decide_true,decide_false]
  all_goals (repeat' first | (with_reducible first | rfl | apply And.intro | assumption) | ((with_reducible show zaf _ _ = true); rfl)) <;> try first | omega | (simp only [InR]; omega)
  rw [h1]; clear h1 Q1; simp only [zaE,zam]
  simp (maxSteps:=4000000) only [go_sem,AV.one,zae,zac,zad,zaq,zas,zab,czb,cza,↓reduceIte,zan,zaa,zao,onz,cf',decide_true,decide_false]
  all_goals exact auz
 have hv:=zg9 cf
 have hc5:=hv.c5
 have hco:y.chairs.length ≤ 4096:=by omega
 by_cases b:(zaG y.chairs.length o && inB c 0 ((y.chairs.length:Int) - 1)) = false
 ·have q1:ziV y o c k = false:=by unfold ziV; rw [b,Bool.false_and]
  have q2:zxr y o c = false:=b
  have e1:=zjL (e:=2) (k:=k) (o:=o) (c:=c) (by rw [q1]; exact zpi hv) (by decide)
  have e2:=zig (e:=2) (o:=o) (c:=c) (by rw [q2]; exact zpi hv) (by decide)
  obtain ⟨L,W,e3⟩:∃ L W,zdG y = (L,W):=⟨_,_,rfl⟩
  obtain ⟨Kb,hKb⟩:∃ Kb,inB k 0 y.t.last = Kb:=⟨_,rfl⟩
  cases co:zaG y.chairs.length o
  ·cases Kb
   all_goals
    simp only [zbz]
    refine cpz zbX Tryz.func4 zaD ?_
    rw [Tryz.ntmps4]
    simp only [Tryz.f4,zag,zap]
    iterate 2 (
     refine zar fun Q1 h1 => ?_
     simp (maxSteps:=4000000) only [go_sem,AV.one,zae,zac,zad,zaq,zas,zab,czb,cza,↓reduceIte,zan,zaa,zao,onz,c1,gt_iff_lt,c2',decide_false]
     all_goals (repeat' first | (with_reducible first | rfl | apply And.intro | assumption) | ((with_reducible show zaf _ _ = true); rfl)) <;> try first | omega | (simp only [InR]; omega)
     rw [h1]; clear h1 Q1; simp only [zaE,zam])
    iterate 5 (
     refine zar fun Q1 h1 => ?_
     simp (maxSteps:=4000000) only [go_sem,AV.one,zae,zac,zad,zaq,zas,zab,czb,cza,↓reduceIte,zan,zaa,zao,onz,e1,e2,e3]
     all_goals (repeat' first | (with_reducible first | rfl | apply And.intro | assumption) | ((with_reducible show zaf _ _ = true); rfl)) <;> try first | omega | (simp only [InR]; omega)
     rw [h1]; clear h1 Q1; simp only [zaE,zam])
    iterate 4 (
     refine zar fun Q1 h1 => ?_
     simp (maxSteps:=4000000) only [go_sem,AV.one,zae,zac,zad,zaq,zas,zab,czb,cza,↓reduceIte,zan,zaa,zao,onz,cf,co,hKb,decide_true,decide_false]
     all_goals (repeat' first | (with_reducible first | rfl | apply And.intro | assumption) | ((with_reducible show zaf _ _ = true); rfl)) <;> try first | omega | (simp only [InR]; omega)
     rw [h1]; clear h1 Q1; simp only [zaE,zam])
    iterate 2 (
     refine zar fun Q1 h1 => ?_
     simp (maxSteps:=4000000) only [go_sem,AV.one,zae,zac,zad,zaq,zas,zab,czb,cza,↓reduceIte,zan,zaa,zao,onz,decide_true,decide_false]
     all_goals (repeat' first | (with_reducible first | rfl | apply And.intro | assumption) | ((with_reducible show zaf _ _ = true); rfl)) <;> try first | omega | (simp only [InR]; omega)
     rw [h1]; clear h1 Q1; simp only [zaE,zam])
    refine zar fun Q1 h1 => ?_
    simp (maxSteps:=4000000) only [go_sem,AV.one,zae,zac,zad,zaq,zas,zab,czb,cza,↓reduceIte,zan,zaa,zao,onz,decide_true,decide_false]
    all_goals (repeat' first | (with_reducible first | rfl | apply And.intro | assumption) | ((with_reducible show zaf _ _ = true); rfl)) <;> try first | omega | (simp only [InR]; omega)
    rw [h1]; clear h1 Q1; simp only [zaE,zam]
    simp (maxSteps:=4000000) only [go_sem,AV.one,zae,zac,zad,zaq,zas,zab,czb,cza,↓reduceIte,zan,zaa,zao,onz,decide_true,decide_false]
    all_goals (repeat' first | (with_reducible first | rfl | apply And.intro | assumption) | ((with_reducible show zaf _ _ = true); rfl)) <;> try first | omega | (simp only [InR]; omega)
  ·have cb:inB c 0 ((y.chairs.length:Int) - 1) = false:=by rw [co,Bool.true_and] at b; exact b
   cases Kb
   all_goals
    simp only [zbz]
    refine cpz zbX Tryz.func4 zaD ?_
    rw [Tryz.ntmps4]
    simp only [Tryz.f4,zag,zap]
    iterate 2 (
     refine zar fun Q1 h1 => ?_
     simp (maxSteps:=4000000) only [go_sem,AV.one,zae,zac,zad,zaq,zas,zab,czb,cza,↓reduceIte,zan,zaa,zao,onz,c1,gt_iff_lt,c2',decide_false]
     all_goals (repeat' first | (with_reducible first | rfl | apply And.intro | assumption) | ((with_reducible show zaf _ _ = true); rfl)) <;> try first | omega | (simp only [InR]; omega)
     rw [h1]; clear h1 Q1; simp only [zaE,zam])
    iterate 5 (
     refine zar fun Q1 h1 => ?_
     simp (maxSteps:=4000000) only [go_sem,AV.one,zae,zac,zad,zaq,zas,zab,czb,cza,↓reduceIte,zan,zaa,zao,onz,e1,e2,e3]
     all_goals (repeat' first | (with_reducible first | rfl | apply And.intro | assumption) | ((with_reducible show zaf _ _ = true); rfl)) <;> try first | omega | (simp only [InR]; omega)
     rw [h1]; clear h1 Q1; simp only [zaE,zam])
    iterate 4 (
     refine zar fun Q1 h1 => ?_
     simp (maxSteps:=4000000) only [go_sem,AV.one,zae,zac,zad,zaq,zas,zab,czb,cza,↓reduceIte,zan,zaa,zao,onz,cf,co,cb,hKb,decide_true,decide_false]
     all_goals (repeat' first | (with_reducible first | rfl | apply And.intro | assumption) | ((with_reducible show zaf _ _ = true); rfl)) <;> try first | omega | (simp only [InR]; omega)
     rw [h1]; clear h1 Q1; simp only [zaE,zam])
    iterate 2 (
     refine zar fun Q1 h1 => ?_
     simp (maxSteps:=4000000) only [go_sem,AV.one,zae,zac,zad,zaq,zas,zab,czb,cza,↓reduceIte,zan,zaa,zao,onz,decide_true,decide_false]
     all_goals (repeat' first | (with_reducible first | rfl | apply And.intro | assumption) | ((with_reducible show zaf _ _ = true); rfl)) <;> try first | omega | (simp only [InR]; omega)
     rw [h1]; clear h1 Q1; simp only [zaE,zam])
    refine zar fun Q1 h1 => ?_
    simp (maxSteps:=4000000) only [go_sem,AV.one,zae,zac,zad,zaq,zas,zab,czb,cza,↓reduceIte,zan,zaa,zao,onz,decide_true,decide_false]
    all_goals (repeat' first | (with_reducible first | rfl | apply And.intro | assumption) | ((with_reducible show zaf _ _ = true); rfl)) <;> try first | omega | (simp only [InR]; omega)
    rw [h1]; clear h1 Q1; simp only [zaE,zam]
    simp (maxSteps:=4000000) only [go_sem,AV.one,zae,zac,zad,zaq,zas,zab,czb,cza,↓reduceIte,zan,zaa,zao,onz,decide_true,decide_false]
    all_goals (repeat' first | (with_reducible first | rfl | apply And.intro | assumption) | ((with_reducible show zaf _ _ = true); rfl)) <;> try first | omega | (simp only [InR]; omega)
 simp only [Bool.not_eq_false,czl] at b
 obtain ⟨co,cb⟩:=b
 have hcb:=(zbJ _ _ _).1 cb
 have q2:zxr y o c = true:=by unfold zxr; rw [co,cb]; rfl
 cases hKb:inB k 0 y.t.last
 ·have q1:ziV y o c k = false:=by unfold ziV; rw [hKb,Bool.and_false]
  have e1:=zjL (e:=2) (k:=k) (o:=o) (c:=c) (by rw [q1]; exact zpi hv) (by decide)
  by_cases ht:zaV y = []
  ·have e2:=zig (e:=11) (o:=o) (c:=c) (by rw [q2]; exact zg7 hv ht) (by decide)
   have e3:zdG y = ([],11):=by unfold zdG; rw [if_pos cf,if_pos ht]
   simp only [zbz]
   refine cpz zbX Tryz.func4 zaD ?_
   rw [Tryz.ntmps4]
   simp only [Tryz.f4,zag,zap]
   iterate 2 (
    refine zar fun Q1 h1 => ?_
    simp (maxSteps:=4000000) only [go_sem,AV.one,zae,zac,zad,zaq,zas,zab,czb,cza,↓reduceIte,zan,zaa,zao,onz,c1,gt_iff_lt,c2',decide_false]
    all_goals (repeat' first | (with_reducible first | rfl | apply And.intro | assumption) | ((with_reducible show zaf _ _ = true); rfl)) <;> try first | omega | (simp only [InR]; omega)
    rw [h1]; clear h1 Q1; simp only [zaE,zam])
   iterate 5 (
    refine zar fun Q1 h1 => ?_
    simp (maxSteps:=4000000) only [go_sem,AV.one,zae,zac,zad,zaq,zas,zab,czb,cza,↓reduceIte,zan,zaa,zao,onz,e1,e2,e3]
    all_goals (repeat' first | (with_reducible first | rfl | apply And.intro | assumption) | ((with_reducible show zaf _ _ = true); rfl)) <;> try first | omega | (simp only [InR]; omega)
    rw [h1]; clear h1 Q1; simp only [zaE,zam])
   iterate 4 (
    refine zar fun Q1 h1 => ?_
    simp (maxSteps:=4000000) only [go_sem,AV.one,zae,zac,zad,zaq,zas,zab,czb,cza,↓reduceIte,zan,zaa,zao,onz,cf,co,cb,hKb,decide_true,decide_false]
    all_goals (repeat' first | (with_reducible first | rfl | apply And.intro | assumption) | ((with_reducible show zaf _ _ = true); rfl)) <;> try first | omega | (simp only [InR]; omega)
    rw [h1]; clear h1 Q1; simp only [zaE,zam])
   iterate 2 (
    refine zar fun Q1 h1 => ?_
    simp (maxSteps:=4000000) only [go_sem,AV.one,zae,zac,zad,zaq,zas,zab,czb,cza,↓reduceIte,zan,zaa,zao,onz,decide_true,decide_false]
    all_goals (repeat' first | (with_reducible first | rfl | apply And.intro | assumption) | ((with_reducible show zaf _ _ = true); rfl)) <;> try first | omega | (simp only [InR]; omega)
    rw [h1]; clear h1 Q1; simp only [zaE,zam])
   refine zar fun Q1 h1 => ?_
   simp (maxSteps:=4000000) only [go_sem,AV.one,zae,zac,zad,zaq,zas,zab,czb,cza,↓reduceIte,zan,zaa,zao,onz,decide_true,decide_false]
   all_goals (repeat' first | (with_reducible first | rfl | apply And.intro | assumption) | ((with_reducible show zaf _ _ = true); rfl)) <;> try first | omega | (simp only [InR]; omega)
   rw [h1]; clear h1 Q1; simp only [zaE,zam]
   simp (maxSteps:=4000000) only [go_sem,AV.one,zae,zac,zad,zaq,zas,zab,czb,cza,↓reduceIte,zan,zaa,zao,onz,decide_true,decide_false]
   all_goals exact auz
  ·have e2:=zto hv ht q2 hcb.1 (by omega)
   have e3:zdG y = (zaV y,0):=by unfold zdG; rw [if_pos cf,if_neg ht]
   have hls:=zfM hv
   obtain ⟨H,hH⟩:∃ H,zfr y (zaV y) o c = H:=⟨_,rfl⟩
   rw [hH] at e2
   obtain ⟨L,hL⟩:∃ L,zaV y = L:=⟨_,rfl⟩
   rw [hL] at e3 hls hH
   have c0:0 ≤ c:=hcb.1
   have c9:c < y.chairs.length:=by omega
   simp only [zbz]
   refine cpz zbX Tryz.func4 zaD ?_
   rw [Tryz.ntmps4]
   simp only [Tryz.f4,zag,zap]
   iterate 2 (
    refine zar fun Q1 h1 => ?_
    simp (maxSteps:=4000000) only [go_sem,AV.one,zae,zac,zad,zaq,zas,zab,czb,cza,↓reduceIte,zan,zaa,zao,onz,c1,gt_iff_lt,c2',decide_false]
    all_goals (repeat' first | (with_reducible first | rfl | apply And.intro | assumption) | ((with_reducible show zaf _ _ = true); rfl)) <;> try first | omega | (simp only [InR]; omega)
    rw [h1]; clear h1 Q1; simp only [zaE,zam])
   iterate 5 (
    refine zar fun Q1 h1 => ?_
    simp (maxSteps:=4000000) only [go_sem,AV.one,zae,zac,zad,zaq,zas,zab,czb,cza,↓reduceIte,zan,zaa,zao,onz,e1,e2,e3]
    all_goals (repeat' first | (with_reducible first | rfl | apply And.intro | assumption) | ((with_reducible show zaf _ _ = true); rfl)) <;> try first | omega | (simp only [InR]; omega)
    rw [h1]; clear h1 Q1; simp only [zaE,zam])
   iterate 4 (
    refine zar fun Q1 h1 => ?_
    simp (maxSteps:=4000000) only [go_sem,AV.one,zae,zac,zad,zaq,zas,zab,czb,cza,↓reduceIte,zan,zaa,zao,onz,cf,co,cb,hKb,decide_true,decide_false]
    all_goals (repeat' first | (with_reducible first | rfl | apply And.intro | assumption) | ((with_reducible show zaf _ _ = true); rfl)) <;> try first | omega | (simp only [InR]; omega)
    rw [h1]; clear h1 Q1; simp only [zaE,zam])
   iterate 2 (
    refine zar fun Q1 h1 => ?_
    simp (maxSteps:=4000000) only [go_sem,AV.one,zae,zac,zad,zaq,zas,zab,czb,cza,↓reduceIte,zan,zaa,zao,onz,decide_true,decide_false]
    all_goals (repeat' first | (with_reducible first | rfl | apply And.intro | assumption) | ((with_reducible show zaf _ _ = true); rfl)) <;> try first | omega | (simp only [InR]; omega)
    rw [h1]; clear h1 Q1; simp only [zaE,zam])
   iterate 2 (
    refine zar fun Q1 h1 => ?_
    simp (maxSteps:=4000000) only [go_sem,AV.one,zae,zac,zad,zaq,zas,zab,czb,cza,↓reduceIte,zan,zaa,zao,onz,decide_true,decide_false]
    all_goals (repeat' first | (with_reducible first | rfl | apply And.intro | assumption) | ((with_reducible show zaf _ _ = true); rfl)) <;> try first | omega | (simp only [InR]; omega)
    rw [h1]; clear h1 Q1; simp only [zaE,zam])
   refine zar fun Q1 h1 => ?_
   simp (maxSteps:=4000000) only [go_sem,AV.one,zae,zac,zad,zaq,zas,zab,czb,cza,↓reduceIte,zan,zaa,zao,onz,hls,ho4,c0,c9,hH,decide_true,decide_false]
   all_goals (repeat' first | (with_reducible first | rfl | apply And.intro | assumption) | ((with_reducible show zaf _ _ = true); rfl)) <;> try first | omega | (simp only [InR]; omega)
   rw [h1]; clear h1 Q1; simp only [zaE,zam]
   simp (maxSteps:=4000000) only [go_sem,AV.one,zae,zac,zad,zaq,zas,zab,czb,cza,↓reduceIte,zan,zaa,zao,onz,hls,ho4,c0,c9,hH,decide_true,decide_false]
   all_goals exact auz
 have hkb:=(zbJ _ _ _).1 hKb
 have q1:ziV y o c k = true:=by unfold ziV; rw [co,cb,hKb]; rfl
 by_cases ht:zaV y = []
 ·have e1:=zjL (e:=11) (k:=k) (o:=o) (c:=c) (by rw [q1]; exact zg7 hv ht) (by decide)
  have e2:=zig (e:=11) (o:=o) (c:=c) (by rw [q2]; exact zg7 hv ht) (by decide)
  have e3:zdG y = ([],11):=by unfold zdG; rw [if_pos cf,if_pos ht]
  simp only [zbz]
  refine cpz zbX Tryz.func4 zaD ?_
  rw [Tryz.ntmps4]
  simp only [Tryz.f4,zag,zap]
  iterate 2 (
   refine zar fun Q1 h1 => ?_
   simp (maxSteps:=4000000) only [go_sem,AV.one,zae,zac,zad,zaq,zas,zab,czb,cza,↓reduceIte,zan,zaa,zao,onz,c1,gt_iff_lt,c2',decide_false]
   all_goals (repeat' first | (with_reducible first | rfl | apply And.intro | assumption) | ((with_reducible show zaf _ _ = true); rfl)) <;> try first | omega | (simp only [InR]; omega)
   rw [h1]; clear h1 Q1; simp only [zaE,zam])
  iterate 5 (
   refine zar fun Q1 h1 => ?_
   simp (maxSteps:=4000000) only [go_sem,AV.one,zae,zac,zad,zaq,zas,zab,czb,cza,↓reduceIte,zan,zaa,zao,onz,e1,e2,e3]
   all_goals (repeat' first | (with_reducible first | rfl | apply And.intro | assumption) | ((with_reducible show zaf _ _ = true); rfl)) <;> try first | omega | (simp only [InR]; omega)
   rw [h1]; clear h1 Q1; simp only [zaE,zam])
  iterate 4 (
   refine zar fun Q1 h1 => ?_
   simp (maxSteps:=4000000) only [go_sem,AV.one,zae,zac,zad,zaq,zas,zab,czb,cza,↓reduceIte,zan,zaa,zao,onz,cf,co,cb,hKb,decide_true,decide_false]
   all_goals (repeat' first | (with_reducible first | rfl | apply And.intro | assumption) | ((with_reducible show zaf _ _ = true); rfl)) <;> try first | omega | (simp only [InR]; omega)
   rw [h1]; clear h1 Q1; simp only [zaE,zam])
  iterate 2 (
   refine zar fun Q1 h1 => ?_
   simp (maxSteps:=4000000) only [go_sem,AV.one,zae,zac,zad,zaq,zas,zab,czb,cza,↓reduceIte,zan,zaa,zao,onz,decide_true,decide_false]
   all_goals (repeat' first | (with_reducible first | rfl | apply And.intro | assumption) | ((with_reducible show zaf _ _ = true); rfl)) <;> try first | omega | (simp only [InR]; omega)
   rw [h1]; clear h1 Q1; simp only [zaE,zam])
  refine zar fun Q1 h1 => ?_
  simp (maxSteps:=4000000) only [go_sem,AV.one,zae,zac,zad,zaq,zas,zab,czb,cza,↓reduceIte,zan,zaa,zao,onz,decide_true,decide_false]
  all_goals (repeat' first | (with_reducible first | rfl | apply And.intro | assumption) | ((with_reducible show zaf _ _ = true); rfl)) <;> try first | omega | (simp only [InR]; omega)
  rw [h1]; clear h1 Q1; simp only [zaE,zam]
  simp (maxSteps:=4000000) only [go_sem,AV.one,zae,zac,zad,zaq,zas,zab,czb,cza,↓reduceIte,zan,zaa,zao,onz,decide_true,decide_false]
  all_goals exact auz
 have e1:=free_ok hv ht q1 hcb.1 (by omega) hkb.1 hkb.2
 have e2:=zto hv ht q2 hcb.1 (by omega)
 have e3:zdG y = (zaV y,0):=by unfold zdG; rw [if_pos cf,if_neg ht]
 have hls:=zfM hv
 obtain ⟨H,hH⟩:∃ H,zfr y (zaV y) o c = H:=⟨_,rfl⟩
 obtain ⟨V,hV⟩:∃ V,zrD y (zaV y) o c k = V:=⟨_,rfl⟩
 rw [hH] at e2
 rw [hV] at e1
 obtain ⟨L,hL⟩:∃ L,zaV y = L:=⟨_,rfl⟩
 rw [hL] at e3 hls hH hV
 have c0:0 ≤ c:=hcb.1
 have c9:c < y.chairs.length:=by omega
 obtain ⟨k0,k9⟩:=hkb
 simp only [zbz]
 refine cpz zbX Tryz.func4 zaD ?_
 rw [Tryz.ntmps4]
 simp only [Tryz.f4,zag,zap]
 iterate 2 (
  refine zar fun Q1 h1 => ?_
  simp (maxSteps:=4000000) only [go_sem,AV.one,zae,zac,zad,zaq,zas,zab,czb,cza,↓reduceIte,zan,zaa,zao,onz,c1,gt_iff_lt,c2',decide_false]
  all_goals (repeat' first | (with_reducible first | rfl | apply And.intro | assumption) | ((with_reducible show zaf _ _ = true); rfl)) <;> try first | omega | (simp only [InR]; omega)
  rw [h1]; clear h1 Q1; simp only [zaE,zam])
 iterate 5 (
  refine zar fun Q1 h1 => ?_
  simp (maxSteps:=4000000) only [go_sem,AV.one,zae,zac,zad,zaq,zas,zab,czb,cza,↓reduceIte,zan,zaa,zao,onz,e1,e2,e3]
  all_goals (repeat' first | (with_reducible first | rfl | apply And.intro | assumption) | ((with_reducible show zaf _ _ = true); rfl)) <;> try first | omega | (simp only [InR]; omega)
  rw [h1]; clear h1 Q1; simp only [zaE,zam])
 iterate 4 (
  refine zar fun Q1 h1 => ?_
  simp (maxSteps:=4000000) only [go_sem,AV.one,zae,zac,zad,zaq,zas,zab,czb,cza,↓reduceIte,zan,zaa,zao,onz,cf,co,cb,hKb,decide_true,decide_false]
  all_goals (repeat' first | (with_reducible first | rfl | apply And.intro | assumption) | ((with_reducible show zaf _ _ = true); rfl)) <;> try first | omega | (simp only [InR]; omega)
  rw [h1]; clear h1 Q1; simp only [zaE,zam])
 iterate 2 (
  refine zar fun Q1 h1 => ?_
  simp (maxSteps:=4000000) only [go_sem,AV.one,zae,zac,zad,zaq,zas,zab,czb,cza,↓reduceIte,zan,zaa,zao,onz,decide_true,decide_false]
  all_goals (repeat' first | (with_reducible first | rfl | apply And.intro | assumption) | ((with_reducible show zaf _ _ = true); rfl)) <;> try first | omega | (simp only [InR]; omega)
  rw [h1]; clear h1 Q1; simp only [zaE,zam])
 iterate 2 (
  refine zar fun Q1 h1 => ?_
  simp (maxSteps:=4000000) only [go_sem,AV.one,zae,zac,zad,zaq,zas,zab,czb,cza,↓reduceIte,zan,zaa,zao,onz,decide_true,decide_false]
  all_goals (repeat' first | (with_reducible first | rfl | apply And.intro | assumption) | ((with_reducible show zaf _ _ = true); rfl)) <;> try first | omega | (simp only [InR]; omega)
  rw [h1]; clear h1 Q1; simp only [zaE,zam])
 refine zar fun Q1 h1 => ?_
 simp (maxSteps:=4000000) only [go_sem,AV.one,zae,zac,zad,zaq,zas,zab,czb,cza,↓reduceIte,zan,zaa,zao,onz,hls,ho4,c0,c9,hH,decide_true,decide_false]
 all_goals (repeat' first | (with_reducible first | rfl | apply And.intro | assumption) | ((with_reducible show zaf _ _ = true); rfl)) <;> try first | omega | (simp only [InR]; omega)
 rw [h1]; clear h1 Q1; simp only [zaE,zam]
 simp (maxSteps:=4000000) only [go_sem,AV.one,zae,zac,zad,zaq,zas,zab,czb,cza,↓reduceIte,zan,zaa,zao,onz,hls,ho4,c0,c9,k0,k9,hH,hV,decide_true,decide_false]
 all_goals exact auz
end Go.Proofs
