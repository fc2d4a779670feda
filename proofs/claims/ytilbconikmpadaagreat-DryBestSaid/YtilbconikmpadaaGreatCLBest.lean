/- The law DryBest. -/
import Derived.Test.YtilbconikmpadaaGreatG23
set_option linter.all false
namespace Go.Proofs
open Go.Fs
set_option maxHeartbeats 4000000
set_option maxRecDepth 8000
theorem zqm (y:Yd):zaQ Tryz.prog 6 [Enc.enc y] (· = Enc.enc true):=by
 cases c1:ziC y
 ·simp only [zbz]
  refine cpz zbX Tryz.func6 zaD ?_
  rw [Tryz.ntmps6]
  simp only [Tryz.f6,zag,zap]
  iterate 2 (
   refine zar fun Q1 h1 => ?_
   simp (maxSteps:=4000000) only [go_sem,AV.one,zae,zac,zad,zaq,zas,zab,czb,cza,↓reduceIte,zan,zaa,zao,onz,c1]
   all_goals (repeat' first | (with_reducible first | rfl | apply And.intro | assumption) | ((with_reducible show zaf _ _ = true); rfl)) <;> try first | omega | (simp only [InR]; omega)
   rw [h1]; clear h1 Q1; simp only [zaE,zam])
  simp (maxSteps:=4000000) only [go_sem,AV.one,zae,zac,zad,zaq,zas,zab,czb,cza,↓reduceIte,zan,zaa,zao,onz]
  all_goals exact auz
 have hl:=zfl c1
 by_cases cf:za9 y = 0
 case neg =>
  have e1:=ztx (zk2 cf true) cf
  have e2:zdG y = ([],za9 y):=by unfold zdG; rw [if_neg cf]
  obtain ⟨X,hX⟩:∃ X,za9 y = X:=⟨_,rfl⟩
  rw [hX] at cf e1 e2
  have cf':=decide_eq_false cf
  simp only [zbz]
  refine cpz zbX Tryz.func6 zaD ?_
  rw [Tryz.ntmps6]
  simp only [Tryz.f6,zag,zap]
  iterate 2 (
   refine zar fun Q1 h1 => ?_
   simp (maxSteps:=4000000) only [go_sem,AV.one,zae,zac,zad,zaq,zas,zab,czb,cza,↓reduceIte,zan,zaa,zao,onz,c1]
   all_goals (repeat' first | (with_reducible first | rfl | apply And.intro | assumption) | ((with_reducible show zaf _ _ = true); rfl)) <;> try first | omega | (simp only [InR]; omega)
   rw [h1]; clear h1 Q1; simp only [zaE,zam])
  iterate 3 (
   refine zar fun Q1 h1 => ?_
   simp (maxSteps:=4000000) only [go_sem,AV.one,zae,zac,zad,zaq,zas,zab,czb,cza,↓reduceIte,zan,zaa,zao,onz,e1,e2]
   all_goals (repeat' first | (with_reducible first | rfl | apply And.intro | assumption) | ((with_reducible show zaf _ _ = true); rfl)) <;> try first | omega | (simp only [InR]; omega)
   rw [h1]; clear h1 Q1; simp only [zaE,zam])
  refine zar fun Q1 h1 => ?_
  simp (maxSteps:=4000000) only [go_sem,AV.one,zae,zac,zad,zaq,zas,zab,czb,cza,↓reduceIte,zan,zaa,zao,onz,cf',decide_true,decide_false]
  all_goals (repeat' first | (with_reducible first | rfl | apply And.intro | assumption) | ((with_reducible show zaf _ _ = true); rfl)) <;> try first | omega | (simp only [InR]; omega)
  rw [h1]; clear h1 Q1; simp only [zaE,zam]
  simp (maxSteps:=4000000) only [go_sem,AV.one,zae,zac,zad,zaq,zas,zab,czb,cza,↓reduceIte,zan,zaa,zao,onz,cf',decide_true,decide_false]
  all_goals exact auz
 have hv:=zg9 cf
 by_cases ht:zaV y = []
 ·have e1:=ztx (zg7 hv ht) (by decide)
  have e2:zdG y = ([],11):=by unfold zdG; rw [if_pos cf,if_pos ht]
  simp only [zbz]
  refine cpz zbX Tryz.func6 zaD ?_
  rw [Tryz.ntmps6]
  simp only [Tryz.f6,zag,zap]
  iterate 2 (
   refine zar fun Q1 h1 => ?_
   simp (maxSteps:=4000000) only [go_sem,AV.one,zae,zac,zad,zaq,zas,zab,czb,cza,↓reduceIte,zan,zaa,zao,onz,c1]
   all_goals (repeat' first | (with_reducible first | rfl | apply And.intro | assumption) | ((with_reducible show zaf _ _ = true); rfl)) <;> try first | omega | (simp only [InR]; omega)
   rw [h1]; clear h1 Q1; simp only [zaE,zam])
  iterate 3 (
   refine zar fun Q1 h1 => ?_
   simp (maxSteps:=4000000) only [go_sem,AV.one,zae,zac,zad,zaq,zas,zab,czb,cza,↓reduceIte,zan,zaa,zao,onz,e1,e2]
   all_goals (repeat' first | (with_reducible first | rfl | apply And.intro | assumption) | ((with_reducible show zaf _ _ = true); rfl)) <;> try first | omega | (simp only [InR]; omega)
   rw [h1]; clear h1 Q1; simp only [zaE,zam])
  refine zar fun Q1 h1 => ?_
  simp (maxSteps:=4000000) only [go_sem,AV.one,zae,zac,zad,zaq,zas,zab,czb,cza,↓reduceIte,zan,zaa,zao,onz,decide_true,decide_false]
  all_goals (repeat' first | (with_reducible first | rfl | apply And.intro | assumption) | ((with_reducible show zaf _ _ = true); rfl)) <;> try first | omega | (simp only [InR]; omega)
  rw [h1]; clear h1 Q1; simp only [zaE,zam]
  simp (maxSteps:=4000000) only [go_sem,AV.one,zae,zac,zad,zaq,zas,zab,czb,cza,↓reduceIte,zan,zaa,zao,onz,decide_true,decide_false]
  all_goals exact auz
 have e1:=zxi hv ht
 have e2:zdG y = (zaV y,0):=by unfold zdG; rw [if_pos cf,if_neg ht]
 obtain ⟨g1,g2,g3⟩:=zw7 (y:=y) ht
 have hls:=zfM hv
 have hme:=(zl3 (y:=y) ht y.chairs.length [] (by simp) (by simp [zaG])).eq g3
 have hle:zfq y (zaV y) [] = (zhA y (zaV y)).2:=by
  unfold zfq
  rw [czy,Nat.sub_zero]
  exact hme
 have hoe:zaG y.chairs.length [] = true:=by simp [zaG]
 have hol:=zcY g1
 have hc5:=hv.c5
 have hco:y.chairs.length ≤ 4096:=by omega
 obtain ⟨B,hB⟩:∃ B,(zhA y (zaV y)).1 = B:=⟨_,rfl⟩
 obtain ⟨M,hM⟩:∃ M,(zhA y (zaV y)).2 = M:=⟨_,rfl⟩
 rw [hB,hM] at e1
 rw [hB] at g1 g2 hol
 rw [hM] at g2 hle
 have hol':B.length ≤ 4096:=by omega
 obtain ⟨L,hL⟩:∃ L,zaV y = L:=⟨_,rfl⟩
 rw [hL] at e2 hls hle g2
 simp only [zbz]
 refine cpz zbX Tryz.func6 zaD ?_
 rw [Tryz.ntmps6]
 simp only [Tryz.f6,zag,zap]
 iterate 2 (
  refine zar fun Q1 h1 => ?_
  simp (maxSteps:=4000000) only [go_sem,AV.one,zae,zac,zad,zaq,zas,zab,czb,cza,↓reduceIte,zan,zaa,zao,onz,c1]
  all_goals (repeat' first | (with_reducible first | rfl | apply And.intro | assumption) | ((with_reducible show zaf _ _ = true); rfl)) <;> try first | omega | (simp only [InR]; omega)
  rw [h1]; clear h1 Q1; simp only [zaE,zam])
 iterate 3 (
  refine zar fun Q1 h1 => ?_
  simp (maxSteps:=4000000) only [go_sem,AV.one,zae,zac,zad,zaq,zas,zab,czb,cza,↓reduceIte,zan,zaa,zao,onz,e1,e2]
  all_goals (repeat' first | (with_reducible first | rfl | apply And.intro | assumption) | ((with_reducible show zaf _ _ = true); rfl)) <;> try first | omega | (simp only [InR]; omega)
  rw [h1]; clear h1 Q1; simp only [zaE,zam])
 refine zar fun Q1 h1 => ?_
 simp (maxSteps:=4000000) only [go_sem,AV.one,zae,zac,zad,zaq,zas,zab,czb,cza,↓reduceIte,zan,zaa,zao,onz,decide_true,decide_false]
 all_goals (repeat' first | (with_reducible first | rfl | apply And.intro | assumption) | ((with_reducible show zaf _ _ = true); rfl)) <;> try first | omega | (simp only [InR]; omega)
 rw [h1]; clear h1 Q1; simp only [zaE,zam]
 simp (maxSteps:=4000000) only [go_sem,AV.one,zae,zac,zad,zaq,zas,zab,czb,cza,↓reduceIte,zan,zaa,zao,onz,hle,hls,hoe,hol',hco,g1,g2,decide_true,decide_false]
 all_goals exact auz
end Go.Proofs
