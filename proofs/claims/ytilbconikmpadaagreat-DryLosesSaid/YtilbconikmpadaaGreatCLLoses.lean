/- The law DryLoses. -/
import Derived.Test.YtilbconikmpadaaGreatG23
set_option linter.all false
namespace Go.Proofs
open Go.Fs
set_option maxHeartbeats 4000000
set_option maxRecDepth 8000
theorem znJ (y:Yd) (o:List Int) (n:Int):zaQ Tryz.prog 5 [Enc.enc y,Enc.enc o,Enc.enc n] (· = Enc.enc true):=by
 cases c1:ziC y
 ·simp only [zbz]
  refine cpz zbX Tryz.func5 zaD ?_
  rw [Tryz.ntmps5]
  simp only [Tryz.f5,zag,zap]
  iterate 2 (
   refine zar fun Q1 h1 => ?_
   simp (maxSteps:=4000000) only [go_sem,AV.one,zae,zac,zad,zaq,zas,zab,czb,cza,↓reduceIte,zan,zaa,zao,onz,c1]
   all_goals (repeat' first | (with_reducible first | rfl | apply And.intro | assumption) | ((with_reducible show zaf _ _ = true); rfl)) <;> try first | omega | (simp only [InR]; omega)
   rw [h1]; clear h1 Q1; simp only [zaE,zam])
  simp (maxSteps:=4000000) only [go_sem,AV.one,zae,zac,zad,zaq,zas,zab,czb,cza,↓reduceIte,zan,zaa,zao,onz]
  all_goals exact auz
 have hl:=zfl c1
 by_cases c2:(7:Int) < o.length
 ·simp only [zbz]
  refine cpz zbX Tryz.func5 zaD ?_
  rw [Tryz.ntmps5]
  simp only [Tryz.f5,zag,zap]
  iterate 2 (
   refine zar fun Q1 h1 => ?_
   simp (maxSteps:=4000000) only [go_sem,AV.one,zae,zac,zad,zaq,zas,zab,czb,cza,↓reduceIte,zan,zaa,zao,onz,c1,gt_iff_lt,c2,decide_true]
   all_goals (repeat' first | (with_reducible first | rfl | apply And.intro | assumption) | ((with_reducible show zaf _ _ = true); rfl)) <;> try first | omega | (simp only [InR]; omega)
   rw [h1]; clear h1 Q1; simp only [zaE,zam])
  simp (maxSteps:=4000000) only [go_sem,AV.one,zae,zac,zad,zaq,zas,zab,czb,cza,↓reduceIte,zan,zaa,zao,onz]
  all_goals exact auz
 have c2':=decide_eq_false c2
 have ho:o.length ≤ 7:=by omega
 by_cases cf:za9 y = 0
 case neg =>
  have e1:=lost_bad cf o
  have e3:zeo y o n = false:=ziG (zk2 cf _) cf n
  have e2:zdG y = ([],za9 y):=by unfold zdG; rw [if_neg cf]
  obtain ⟨X,hX⟩:∃ X,za9 y = X:=⟨_,rfl⟩
  rw [hX] at cf e1 e2
  have cf':=decide_eq_false cf
  simp only [zbz]
  refine cpz zbX Tryz.func5 zaD ?_
  rw [Tryz.ntmps5]
  simp only [Tryz.f5,zag,zap]
  iterate 2 (
   refine zar fun Q1 h1 => ?_
   simp (maxSteps:=4000000) only [go_sem,AV.one,zae,zac,zad,zaq,zas,zab,czb,cza,↓reduceIte,zan,zaa,zao,onz,c1,gt_iff_lt,c2',decide_false]
   all_goals (repeat' first | (with_reducible first | rfl | apply And.intro | assumption) | ((with_reducible show zaf _ _ = true); rfl)) <;> try first | omega | (simp only [InR]; omega)
   rw [h1]; clear h1 Q1; simp only [zaE,zam])
  iterate 4 (
   refine zar fun Q1 h1 => ?_
   simp (maxSteps:=4000000) only [go_sem,AV.one,zae,zac,zad,zaq,zas,zab,czb,cza,↓reduceIte,zan,zaa,zao,onz,e1,e2,e3]
   all_goals (repeat' first | (with_reducible first | rfl | apply And.intro | assumption) | ((with_reducible show zaf _ _ = true); rfl)) <;> try first | omega | (simp only [InR]; omega)
   rw [h1]; clear h1 Q1; simp only [zaE,zam])
  iterate 3 (
   refine zar fun Q1 h1 => ?_
   simp (maxSteps:=4000000) only [go_sem,AV.one,zae,zac,zad,zaq,zas,zab,czb,cza,↓reduceIte,zan,zaa,zao,onz,hX,cf',decide_true,decide_false]
   all_goals (repeat' first | (with_reducible first | rfl | apply And.intro | assumption) | ((with_reducible show zaf _ _ = true); rfl)) <;> try first | omega | (simp only [InR]; omega)
   rw [h1]; clear h1 Q1; simp only [zaE,zam])
  simp (maxSteps:=4000000) only [go_sem,AV.one,zae,zac,zad,zaq,zas,zab,czb,cza,↓reduceIte,zan,zaa,zao,onz,cf',decide_true,decide_false]
  all_goals exact auz
 have hv:=zg9 cf
 have hc5:=hv.c5
 have hco:y.chairs.length ≤ 4096:=by omega
 cases co:zaG y.chairs.length o
 ·have e1:=lost_no hv co
  have e3:zeo y o n = false:=ziG (e:=2) (by rw [co]; exact zpi hv) (by decide) n
  by_cases ht:zaV y = []
  ·have e2:zdG y = ([],11):=by unfold zdG; rw [if_pos cf,if_pos ht]
   simp only [zbz]
   refine cpz zbX Tryz.func5 zaD ?_
   rw [Tryz.ntmps5]
   simp only [Tryz.f5,zag,zap]
   iterate 2 (
    refine zar fun Q1 h1 => ?_
    simp (maxSteps:=4000000) only [go_sem,AV.one,zae,zac,zad,zaq,zas,zab,czb,cza,↓reduceIte,zan,zaa,zao,onz,c1,gt_iff_lt,c2',decide_false]
    all_goals (repeat' first | (with_reducible first | rfl | apply And.intro | assumption) | ((with_reducible show zaf _ _ = true); rfl)) <;> try first | omega | (simp only [InR]; omega)
    rw [h1]; clear h1 Q1; simp only [zaE,zam])
   iterate 4 (
    refine zar fun Q1 h1 => ?_
    simp (maxSteps:=4000000) only [go_sem,AV.one,zae,zac,zad,zaq,zas,zab,czb,cza,↓reduceIte,zan,zaa,zao,onz,e1,e2,e3]
    all_goals (repeat' first | (with_reducible first | rfl | apply And.intro | assumption) | ((with_reducible show zaf _ _ = true); rfl)) <;> try first | omega | (simp only [InR]; omega)
    rw [h1]; clear h1 Q1; simp only [zaE,zam])
   iterate 3 (
    refine zar fun Q1 h1 => ?_
    simp (maxSteps:=4000000) only [go_sem,AV.one,zae,zac,zad,zaq,zas,zab,czb,cza,↓reduceIte,zan,zaa,zao,onz,cf,co,decide_true,decide_false]
    all_goals (repeat' first | (with_reducible first | rfl | apply And.intro | assumption) | ((with_reducible show zaf _ _ = true); rfl)) <;> try first | omega | (simp only [InR]; omega)
    rw [h1]; clear h1 Q1; simp only [zaE,zam])
   simp (maxSteps:=4000000) only [go_sem,AV.one,zae,zac,zad,zaq,zas,zab,czb,cza,↓reduceIte,zan,zaa,zao,onz,decide_true,decide_false]
   all_goals exact auz
  ·have e2:zdG y = (zaV y,0):=by unfold zdG; rw [if_pos cf,if_neg ht]
   simp only [zbz]
   refine cpz zbX Tryz.func5 zaD ?_
   rw [Tryz.ntmps5]
   simp only [Tryz.f5,zag,zap]
   iterate 2 (
    refine zar fun Q1 h1 => ?_
    simp (maxSteps:=4000000) only [go_sem,AV.one,zae,zac,zad,zaq,zas,zab,czb,cza,↓reduceIte,zan,zaa,zao,onz,c1,gt_iff_lt,c2',decide_false]
    all_goals (repeat' first | (with_reducible first | rfl | apply And.intro | assumption) | ((with_reducible show zaf _ _ = true); rfl)) <;> try first | omega | (simp only [InR]; omega)
    rw [h1]; clear h1 Q1; simp only [zaE,zam])
   iterate 4 (
    refine zar fun Q1 h1 => ?_
    simp (maxSteps:=4000000) only [go_sem,AV.one,zae,zac,zad,zaq,zas,zab,czb,cza,↓reduceIte,zan,zaa,zao,onz,e1,e2,e3]
    all_goals (repeat' first | (with_reducible first | rfl | apply And.intro | assumption) | ((with_reducible show zaf _ _ = true); rfl)) <;> try first | omega | (simp only [InR]; omega)
    rw [h1]; clear h1 Q1; simp only [zaE,zam])
   iterate 3 (
    refine zar fun Q1 h1 => ?_
    simp (maxSteps:=4000000) only [go_sem,AV.one,zae,zac,zad,zaq,zas,zab,czb,cza,↓reduceIte,zan,zaa,zao,onz,cf,co,decide_true,decide_false]
    all_goals (repeat' first | (with_reducible first | rfl | apply And.intro | assumption) | ((with_reducible show zaf _ _ = true); rfl)) <;> try first | omega | (simp only [InR]; omega)
    rw [h1]; clear h1 Q1; simp only [zaE,zam])
   simp (maxSteps:=4000000) only [go_sem,AV.one,zae,zac,zad,zaq,zas,zab,czb,cza,↓reduceIte,zan,zaa,zao,onz,decide_true,decide_false]
   all_goals exact auz
 by_cases ht:zaV y = []
 ·have e1:=zw3 hv ht co
  have e3:zeo y o n = false:=ziG (e:=11) (by rw [co]; exact zg7 hv ht) (by decide) n
  have e2:zdG y = ([],11):=by unfold zdG; rw [if_pos cf,if_pos ht]
  simp only [zbz]
  refine cpz zbX Tryz.func5 zaD ?_
  rw [Tryz.ntmps5]
  simp only [Tryz.f5,zag,zap]
  iterate 2 (
   refine zar fun Q1 h1 => ?_
   simp (maxSteps:=4000000) only [go_sem,AV.one,zae,zac,zad,zaq,zas,zab,czb,cza,↓reduceIte,zan,zaa,zao,onz,c1,gt_iff_lt,c2',decide_false]
   all_goals (repeat' first | (with_reducible first | rfl | apply And.intro | assumption) | ((with_reducible show zaf _ _ = true); rfl)) <;> try first | omega | (simp only [InR]; omega)
   rw [h1]; clear h1 Q1; simp only [zaE,zam])
  iterate 4 (
   refine zar fun Q1 h1 => ?_
   simp (maxSteps:=4000000) only [go_sem,AV.one,zae,zac,zad,zaq,zas,zab,czb,cza,↓reduceIte,zan,zaa,zao,onz,e1,e2,e3]
   all_goals (repeat' first | (with_reducible first | rfl | apply And.intro | assumption) | ((with_reducible show zaf _ _ = true); rfl)) <;> try first | omega | (simp only [InR]; omega)
   rw [h1]; clear h1 Q1; simp only [zaE,zam])
  iterate 3 (
   refine zar fun Q1 h1 => ?_
   simp (maxSteps:=4000000) only [go_sem,AV.one,zae,zac,zad,zaq,zas,zab,czb,cza,↓reduceIte,zan,zaa,zao,onz,cf,co,decide_true,decide_false]
   all_goals (repeat' first | (with_reducible first | rfl | apply And.intro | assumption) | ((with_reducible show zaf _ _ = true); rfl)) <;> try first | omega | (simp only [InR]; omega)
   rw [h1]; clear h1 Q1; simp only [zaE,zam])
  simp (maxSteps:=4000000) only [go_sem,AV.one,zae,zac,zad,zaq,zas,zab,czb,cza,↓reduceIte,zan,zaa,zao,onz,decide_true,decide_false]
  all_goals exact auz
 have e1:=zwU hv ht co
 have e3:=zxa hv ht co n
 have e2:zdG y = (zaV y,0):=by unfold zdG; rw [if_pos cf,if_neg ht]
 have hwm:=worst_mem hv ht o
 have hwl:=zus hv ht o
 have hls:=zfM hv
 obtain ⟨h1,h2⟩:=zfJ.1 hwm
 have hit:=(zfK hv.fok.vok _).1 h1
 have hlh:=zee hv h1
 have hh:=hv.hrs
 obtain ⟨W,hW⟩:∃ W,zsO y o = W:=⟨_,rfl⟩
 rw [hW] at e1 hwl hlh hit h2
 have hiy:ze6 y W = true:=by unfold ze6; rw [hit,h2]; rfl
 have hra:RAll y o W:=⟨fun c hc => rpre hv (by omega) hlh (by omega) (by omega),hv.c5⟩
 have hwl':W.length ≤ 4096:=by omega
 obtain ⟨L,hL⟩:∃ L,zaV y = L:=⟨_,rfl⟩
 rw [hL] at e1 e2 e3 hls hwl
 obtain ⟨M,hM⟩:∃ M,zc2 y L o = M:=⟨_,rfl⟩
 rw [hM] at e1 e3 hwl
 obtain ⟨d,hd⟩:∃ d,decide (M ≤ n) = d:=⟨_,rfl⟩
 rw [hd] at e3
 simp only [zbz]
 refine cpz zbX Tryz.func5 zaD ?_
 rw [Tryz.ntmps5]
 simp only [Tryz.f5,zag,zap]
 iterate 2 (
  refine zar fun Q1 h1 => ?_
  simp (maxSteps:=4000000) only [go_sem,AV.one,zae,zac,zad,zaq,zas,zab,czb,cza,↓reduceIte,zan,zaa,zao,onz,c1,gt_iff_lt,c2',decide_false]
  all_goals (repeat' first | (with_reducible first | rfl | apply And.intro | assumption) | ((with_reducible show zaf _ _ = true); rfl)) <;> try first | omega | (simp only [InR]; omega)
  rw [h1]; clear h1 Q1; simp only [zaE,zam])
 iterate 4 (
  refine zar fun Q1 h1 => ?_
  simp (maxSteps:=4000000) only [go_sem,AV.one,zae,zac,zad,zaq,zas,zab,czb,cza,↓reduceIte,zan,zaa,zao,onz,e1,e2,e3]
  all_goals (repeat' first | (with_reducible first | rfl | apply And.intro | assumption) | ((with_reducible show zaf _ _ = true); rfl)) <;> try first | omega | (simp only [InR]; omega)
  rw [h1]; clear h1 Q1; simp only [zaE,zam])
 iterate 2 (
  refine zar fun Q1 h1 => ?_
  simp (maxSteps:=4000000) only [go_sem,AV.one,zae,zac,zad,zaq,zas,zab,czb,cza,↓reduceIte,zan,zaa,zao,onz,cf,co,decide_true,decide_false]
  all_goals (repeat' first | (with_reducible first | rfl | apply And.intro | assumption) | ((with_reducible show zaf _ _ = true); rfl)) <;> try first | omega | (simp only [InR]; omega)
  rw [h1]; clear h1 Q1; simp only [zaE,zam])
 refine zar fun Q1 h1 => ?_
 simp (maxSteps:=4000000) only [go_sem,AV.one,zae,zac,zad,zaq,zas,zab,czb,cza,↓reduceIte,zan,zaa,zao,onz,hls,hM,decide_true,decide_false]
 all_goals (repeat' first | (with_reducible first | rfl | apply And.intro | assumption) | ((with_reducible show zaf _ _ = true); rfl)) <;> try first | omega | (simp only [InR]; omega)
 rw [h1]; clear h1 Q1; simp only [zaE,zam]
 simp (maxSteps:=4000000) only [go_sem,AV.one,zae,zac,zad,zaq,zas,zab,czb,cza,↓reduceIte,zan,zaa,zao,onz,hls,hM,hv,hiy,hra,hwl,hwl',hd,beq_self_eq_true,decide_true,decide_false]
 all_goals exact auz
end Go.Proofs
