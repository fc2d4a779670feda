/- The law DryFirst. -/
import Derived.Test.YtilbconikmpadaaGreatG23
import Derived.Test.YtilbconikmpadaaGreatCH52
set_option linter.all false
namespace Go.Proofs
open Go.Fs
set_option maxHeartbeats 4000000
set_option maxRecDepth 8000
theorem zw9 (y:Yd):zaQ Tryz.prog 16 [Enc.enc y] (· = Enc.enc true):=by
 cases c0:(ziC y && decide (za9 y = 0))
 ·simp only [zbz]
  refine cpz zbX Tryz.func16 zaD ?_
  rw [Tryz.ntmps16]
  simp only [Tryz.f16,zag,zap]
  iterate 2 (
   refine zar fun Q1 h1 => ?_
   simp (maxSteps:=4000000) only [go_sem,AV.one,zae,zac,zad,zaq,zas,zab,czb,cza,↓reduceIte,zan,zaa,zao,onz,zdZ,c0]
   all_goals (repeat' first | (with_reducible first | rfl | apply And.intro | assumption) | ((with_reducible show zaf _ _ = true); rfl)) <;> try first | omega | (simp only [InR]; omega)
   rw [h1]; clear h1 Q1; simp only [zaE,zam])
  simp (maxSteps:=4000000) only [go_sem,AV.one,zae,zac,zad,zaq,zas,zab,czb,cza,↓reduceIte,zan,zaa,zao,onz,zdZ]
  all_goals exact auz
 have c0':=c0
 simp only [czl,decide_eq_true_eq] at c0'
 have hv:=zg9 c0'.2
 obtain ⟨l1,l2,l3,l4,l5,l6⟩:=lens hv
 rcases zxh hv with ⟨e1,ht⟩ | ⟨m,hm,e1,ht,hn⟩
 ·have e2:=zwU hv ht (zwQ _)
  simp only [zbz]
  refine cpz zbX Tryz.func16 zaD ?_
  rw [Tryz.ntmps16]
  simp only [Tryz.f16,zag,zap]
  iterate 2 (
   refine zar fun Q1 h1 => ?_
   simp (maxSteps:=4000000) only [go_sem,AV.one,zae,zac,zad,zaq,zas,zab,czb,cza,↓reduceIte,zan,zaa,zao,onz,zdZ,c0]
   all_goals (repeat' first | (with_reducible first | rfl | apply And.intro | assumption) | ((with_reducible show zaf _ _ = true); rfl)) <;> try first | omega | (simp only [InR]; omega)
   rw [h1]; clear h1 Q1; simp only [zaE,zam])
  iterate 2 (
   refine zar fun Q1 h1 => ?_
   simp (maxSteps:=4000000) only [go_sem,AV.one,zae,zac,zad,zaq,zas,zab,czb,cza,↓reduceIte,zan,zaa,zao,onz,zdZ,e1]
   all_goals (repeat' first | (with_reducible first | rfl | apply And.intro | assumption) | ((with_reducible show zaf _ _ = true); rfl)) <;> try first | omega | (simp only [InR]; omega)
   rw [h1]; clear h1 Q1; simp only [zaE,zam])
  iterate 2 (
   refine zar fun Q1 h1 => ?_
   simp (maxSteps:=4000000) only [go_sem,AV.one,zae,zac,zad,zaq,zas,zab,czb,cza,↓reduceIte,zan,zaa,zao,onz,zdZ,decide_true,decide_false,e2]
   all_goals (repeat' first | (with_reducible first | rfl | apply And.intro | assumption) | ((with_reducible show zaf _ _ = true); rfl)) <;> try first | omega | (simp only [InR]; omega)
   rw [h1]; clear h1 Q1; simp only [zaE,zam])
  simp (maxSteps:=4000000) only [go_sem,AV.one,zae,zac,zad,zaq,zas,zab,czb,cza,↓reduceIte,zan,zaa,zao,onz,zdZ,decide_true,decide_false]
  all_goals exact auz
 ·have hv1:=zw5 hv ((2:Int) ^ m - 1)
  have hv2:=zw5 hv (2 * (2:Int) ^ m - 1)
  have e2:=zwU hv1 ht (zwQ _)
  have e3:=zw3 hv2 hn (zwQ _)
  have hr5:=hv.r5
  have hp:=zok m (by omega)
  have hp2:=zok (m + 1) (by omega)
  rw [Int.pow_succ] at hp2
  have hin:inB (m:Int) 0 ((y.hires.length:Int) - 1) = true:=(zbJ _ _ _).2 (by omega)
  obtain ⟨a1,a2,a3,a4,a5,a6⟩:=lens hv1
  obtain ⟨b1,b2,b3,b4,b5,b6⟩:=lens hv2
  obtain ⟨Y1,hY1⟩:∃ Y1,zwR y ((2:Int) ^ m - 1) = Y1:=⟨_,rfl⟩
  obtain ⟨Y2,hY2⟩:∃ Y2,zwR y (2 * (2:Int) ^ m - 1) = Y2:=⟨_,rfl⟩
  rw [hY1] at e2 a1 a2 a3 a4 a5 a6
  rw [hY2] at e3 b1 b2 b3 b4 b5 b6
  simp only [zbz]
  refine cpz zbX Tryz.func16 zaD ?_
  rw [Tryz.ntmps16]
  simp only [Tryz.f16,zag,zap]
  iterate 2 (
   refine zar fun Q1 h1 => ?_
   simp (maxSteps:=4000000) only [go_sem,AV.one,zae,zac,zad,zaq,zas,zab,czb,cza,↓reduceIte,zan,zaa,zao,onz,zdZ,c0]
   all_goals (repeat' first | (with_reducible first | rfl | apply And.intro | assumption) | ((with_reducible show zaf _ _ = true); rfl)) <;> try first | omega | (simp only [InR]; omega)
   rw [h1]; clear h1 Q1; simp only [zaE,zam])
  iterate 2 (
   refine zar fun Q1 h1 => ?_
   simp (maxSteps:=4000000) only [go_sem,AV.one,zae,zac,zad,zaq,zas,zab,czb,cza,↓reduceIte,zan,zaa,zao,onz,zdZ,e1]
   all_goals (repeat' first | (with_reducible first | rfl | apply And.intro | assumption) | ((with_reducible show zaf _ _ = true); rfl)) <;> try first | omega | (simp only [InR]; omega)
   rw [h1]; clear h1 Q1; simp only [zaE,zam])
  iterate 2 (
   refine zar fun Q1 h1 => ?_
   simp (maxSteps:=4000000) only [go_sem,AV.one,zae,zac,zad,zaq,zas,zab,czb,cza,↓reduceIte,zan,zaa,zao,onz,zdZ,decide_true,decide_false]
   all_goals (repeat' first | (with_reducible first | rfl | apply And.intro | assumption) | ((with_reducible show zaf _ _ = true); rfl)) <;> try first | omega | (simp only [InR]; omega)
   rw [h1]; clear h1 Q1; simp only [zaE,zam])
  refine zar fun Q1 h1 => ?_
  simp (maxSteps:=4000000) only [go_sem,AV.one,zae,zac,zad,zaq,zas,zab,czb,cza,↓reduceIte,zan,zaa,zao,onz,zdZ,hin]
  all_goals (repeat' first | (with_reducible first | rfl | apply And.intro | assumption) | ((with_reducible show zaf _ _ = true); rfl)) <;> try first | omega | (simp only [InR]; omega)
  rw [h1]; clear h1 Q1; simp only [zaE,zam]
  refine zar fun Q1 h1 => ?_
  simp (maxSteps:=4000000) only [go_sem,AV.one,zae,zac,zad,zaq,zas,zab,czb,cza,↓reduceIte,zan,zaa,zao,onz,zdZ,decide_true,decide_false]
  all_goals (repeat' first | (with_reducible first | rfl | apply And.intro | assumption) | ((with_reducible show zaf _ _ = true); rfl)) <;> try first | omega | (simp only [InR]; omega)
  rw [h1]; clear h1 Q1; simp only [zaE,zam]
  refine zar fun Q1 h1 => ?_
  simp (maxSteps:=4000000) only [go_sem,AV.one,zae,zac,zad,zaq,zas,zab,czb,cza,↓reduceIte,zan,zaa,zao,onz,zdZ,Int.one_mul,zmp,hY1,e2]
  all_goals (repeat' first | (with_reducible first | rfl | apply And.intro | assumption) | ((with_reducible show zaf _ _ = true); rfl)) <;> try first | omega | (simp only [InR]; omega)
  rw [h1]; clear h1 Q1; simp only [zaE,zam]
  refine zar fun Q1 h1 => ?_
  simp (maxSteps:=4000000) only [go_sem,AV.one,zae,zac,zad,zaq,zas,zab,czb,cza,↓reduceIte,zan,zaa,zao,onz,zdZ,Int.one_mul,zmp,hY2,e3]
  all_goals (repeat' first | (with_reducible first | rfl | apply And.intro | assumption) | ((with_reducible show zaf _ _ = true); rfl)) <;> try first | omega | (simp only [InR]; omega)
  rw [h1]; clear h1 Q1; simp only [zaE,zam]
  simp (maxSteps:=4000000) only [go_sem,AV.one,zae,zac,zad,zaq,zas,zab,czb,cza,↓reduceIte,zan,zaa,zao,onz,zdZ,decide_true,decide_false]
  all_goals exact auz
end Go.Proofs
