/- The law DryPlays. -/
import Derived.Test.YtilbconikmpadaaGreatG23
set_option linter.all false
namespace Go.Proofs
open Go.Fs
set_option maxHeartbeats 4000000
set_option maxRecDepth 8000
theorem znI (y:Yd) (o hs:List Int):zaQ Tryz.prog 3 [Enc.enc y,Enc.enc o,Enc.enc hs] (· = Enc.enc true):=by
 cases c1:ziC y
 ·simp only [zbz]
  refine cpz zbX Tryz.func3 zaD ?_
  rw [Tryz.ntmps3]
  simp only [Tryz.f3,zag,zap]
  iterate 2 (
   refine zar fun Q1 h1 => ?_
   simp (maxSteps:=4000000) only [go_sem,AV.one,zae,zac,zad,zaq,zas,zab,czb,cza,↓reduceIte,zan,zaa,zao,onz,c1]
   all_goals (repeat' first | (with_reducible first | rfl | apply And.intro | assumption) | ((with_reducible show zaf _ _ = true); rfl)) <;> try first | omega | (simp only [InR]; omega)
   rw [h1]; clear h1 Q1; simp only [zaE,zam])
  simp (maxSteps:=4000000) only [go_sem,AV.one,zae,zac,zad,zaq,zas,zab,czb,cza,↓reduceIte,zan,zaa,zao,onz]
  all_goals exact auz
 have hl:=zfl c1
 by_cases c2:(7:Int) < o.length
 ·simp only [zbz]
  refine cpz zbX Tryz.func3 zaD ?_
  rw [Tryz.ntmps3]
  simp only [Tryz.f3,zag,zap]
  iterate 2 (
   refine zar fun Q1 h1 => ?_
   simp (maxSteps:=4000000) only [go_sem,AV.one,zae,zac,zad,zaq,zas,zab,czb,cza,↓reduceIte,zan,zaa,zao,onz,c1,gt_iff_lt,c2,decide_true]
   all_goals (repeat' first | (with_reducible first | rfl | apply And.intro | assumption) | ((with_reducible show zaf _ _ = true); rfl)) <;> try first | omega | (simp only [InR]; omega)
   rw [h1]; clear h1 Q1; simp only [zaE,zam])
  simp (maxSteps:=4000000) only [go_sem,AV.one,zae,zac,zad,zaq,zas,zab,czb,cza,↓reduceIte,zan,zaa,zao,onz]
  all_goals exact auz
 have c2':=decide_eq_false c2
 by_cases c3:(14:Int) < hs.length
 ·simp only [zbz]
  refine cpz zbX Tryz.func3 zaD ?_
  rw [Tryz.ntmps3]
  simp only [Tryz.f3,zag,zap]
  iterate 2 (
   refine zar fun Q1 h1 => ?_
   simp (maxSteps:=4000000) only [go_sem,AV.one,zae,zac,zad,zaq,zas,zab,czb,cza,↓reduceIte,zan,zaa,zao,onz,c1,gt_iff_lt,c2',c3,decide_true]
   all_goals (repeat' first | (with_reducible first | rfl | apply And.intro | assumption) | ((with_reducible show zaf _ _ = true); rfl)) <;> try first | omega | (simp only [InR]; omega)
   rw [h1]; clear h1 Q1; simp only [zaE,zam])
  simp (maxSteps:=4000000) only [go_sem,AV.one,zae,zac,zad,zaq,zas,zab,czb,cza,↓reduceIte,zan,zaa,zao,onz]
  all_goals exact auz
 have c3':=decide_eq_false c3
 have ho:o.length ≤ 7:=by omega
 have hh:hs.length ≤ 14:=by omega
 by_cases cf:za9 y = 0
 case neg =>
  have e1:=play_bad cf o hs
  have e2:=prove_bad cf hs
  obtain ⟨E,hE⟩:∃ E,za9 y = E:=⟨_,rfl⟩
  rw [hE] at cf e1
  have cf':decide (E = 0) = false:=decide_eq_false cf
  simp only [zbz]
  refine cpz zbX Tryz.func3 zaD ?_
  rw [Tryz.ntmps3]
  simp only [Tryz.f3,zag,zap]
  iterate 2 (
   refine zar fun Q1 h1 => ?_
   simp (maxSteps:=4000000) only [go_sem,AV.one,zae,zac,zad,zaq,zas,zab,czb,cza,↓reduceIte,zan,zaa,zao,onz,c1,gt_iff_lt,c2',c3',decide_false]
   all_goals (repeat' first | (with_reducible first | rfl | apply And.intro | assumption) | ((with_reducible show zaf _ _ = true); rfl)) <;> try first | omega | (simp only [InR]; omega)
   rw [h1]; clear h1 Q1; simp only [zaE,zam])
  iterate 4 (
   refine zar fun Q1 h1 => ?_
   simp (maxSteps:=4000000) only [go_sem,AV.one,zae,zac,zad,zaq,zas,zab,czb,cza,↓reduceIte,zan,zaa,zao,onz,e1,e2,hE]
   all_goals (repeat' first | (with_reducible first | rfl | apply And.intro | assumption) | ((with_reducible show zaf _ _ = true); rfl)) <;> try first | omega | (simp only [InR]; omega)
   rw [h1]; clear h1 Q1; simp only [zaE,zam])
  iterate 6 (
   refine zar fun Q1 h1 => ?_
   simp (maxSteps:=4000000) only [go_sem,AV.one,zae,zac,zad,zaq,zas,zab,czb,cza,↓reduceIte,zan,zaa,zao,onz,hE,cf',Bool.true_bne,Bool.false_bne,bne_self_eq_false,decide_true,decide_false]
   all_goals (repeat' first | (with_reducible first | rfl | apply And.intro | assumption) | ((with_reducible show zaf _ _ = true); rfl)) <;> try first | omega | (simp only [InR]; omega)
   rw [h1]; clear h1 Q1; simp only [zaE,zam])
  simp (maxSteps:=4000000) only [go_sem,AV.one,zae,zac,zad,zaq,zas,zab,czb,cza,↓reduceIte,zan,zaa,zao,onz,cf',decide_true,decide_false]
  all_goals exact auz
 have hv:=zg9 cf
 have hc5:=hv.c5
 have e2:=prove_eq hv hs
 have hco:y.chairs.length ≤ 4096:=by omega
 have hok:=(zhG hv).1
 obtain ⟨T,hT⟩:∃ T,ze6 y hs = T:=⟨_,rfl⟩
 rw [hT] at e2
 by_cases b:(za4 y.t hs && zaG y.chairs.length o) = false
 ·have e1:=play_no hv b
  cases cl:za4 y.t hs <;> cases co:zaG y.chairs.length o
  all_goals try (rw [cl,co] at b; cases b; done)
  all_goals
   simp only [zbz]
   refine cpz zbX Tryz.func3 zaD ?_
   rw [Tryz.ntmps3]
   simp only [Tryz.f3,zag,zap]
   iterate 2 (
    refine zar fun Q1 h1 => ?_
    simp (maxSteps:=4000000) only [go_sem,AV.one,zae,zac,zad,zaq,zas,zab,czb,cza,↓reduceIte,zan,zaa,zao,onz,c1,gt_iff_lt,c2',c3',decide_false]
    all_goals (repeat' first | (with_reducible first | rfl | apply And.intro | assumption) | ((with_reducible show zaf _ _ = true); rfl)) <;> try first | omega | (simp only [InR]; omega)
    rw [h1]; clear h1 Q1; simp only [zaE,zam])
   iterate 4 (
    refine zar fun Q1 h1 => ?_
    simp (maxSteps:=4000000) only [go_sem,AV.one,zae,zac,zad,zaq,zas,zab,czb,cza,↓reduceIte,zan,zaa,zao,onz,e1,e2,cf]
    all_goals (repeat' first | (with_reducible first | rfl | apply And.intro | assumption) | ((with_reducible show zaf _ _ = true); rfl)) <;> try first | omega | (simp only [InR]; omega)
    rw [h1]; clear h1 Q1; simp only [zaE,zam])
   iterate 5 (
    refine zar fun Q1 h1 => ?_
    simp (maxSteps:=4000000) only [go_sem,AV.one,zae,zac,zad,zaq,zas,zab,czb,cza,↓reduceIte,zan,zaa,zao,onz,cf,hT,hv,cl,co,Bool.true_bne,Bool.false_bne,bne_self_eq_false,decide_true,decide_false]
    all_goals (repeat' first | (with_reducible first | rfl | apply And.intro | assumption) | ((with_reducible show zaf _ _ = true); rfl)) <;> try first | omega | (simp only [InR]; omega)
    rw [h1]; clear h1 Q1; simp only [zaE,zam])
   simp (maxSteps:=4000000) only [go_sem,AV.one,zae,zac,zad,zaq,zas,zab,czb,cza,↓reduceIte,zan,zaa,zao,onz,decide_true,decide_false]
   all_goals (repeat' first | (with_reducible first | rfl | apply And.intro | assumption) | ((with_reducible show zaf _ _ = true); rfl)) <;> try first | omega | (simp only [InR]; omega)
 simp only [Bool.not_eq_false,czl] at b
 obtain ⟨cl,co⟩:=b
 have e1:=play_ok hv cl co
 have hlh:=zhi hv cl
 have hpl:=zu5 y o hs
 simp only [zbz]
 refine cpz zbX Tryz.func3 zaD ?_
 rw [Tryz.ntmps3]
 simp only [Tryz.f3,zag,zap]
 iterate 2 (
  refine zar fun Q1 h1 => ?_
  simp (maxSteps:=4000000) only [go_sem,AV.one,zae,zac,zad,zaq,zas,zab,czb,cza,↓reduceIte,zan,zaa,zao,onz,c1,gt_iff_lt,c2',c3',decide_false]
  all_goals (repeat' first | (with_reducible first | rfl | apply And.intro | assumption) | ((with_reducible show zaf _ _ = true); rfl)) <;> try first | omega | (simp only [InR]; omega)
  rw [h1]; clear h1 Q1; simp only [zaE,zam])
 iterate 4 (
  refine zar fun Q1 h1 => ?_
  simp (maxSteps:=4000000) only [go_sem,AV.one,zae,zac,zad,zaq,zas,zab,czb,cza,↓reduceIte,zan,zaa,zao,onz,e1,e2,cf]
  all_goals (repeat' first | (with_reducible first | rfl | apply And.intro | assumption) | ((with_reducible show zaf _ _ = true); rfl)) <;> try first | omega | (simp only [InR]; omega)
  rw [h1]; clear h1 Q1; simp only [zaE,zam])
 iterate 6 (
  refine zar fun Q1 h1 => ?_
  simp (maxSteps:=4000000) only [go_sem,AV.one,zae,zac,zad,zaq,zas,zab,czb,cza,↓reduceIte,zan,zaa,zao,onz,cf,hT,hv,cl,co,hpl,Bool.true_bne,Bool.false_bne,bne_self_eq_false,decide_true,decide_false]
  all_goals (repeat' first | (with_reducible first | rfl | apply And.intro | assumption) | ((with_reducible show zaf _ _ = true); rfl)) <;> try first | omega | (simp only [InR]; omega)
  rw [h1]; clear h1 Q1; simp only [zaE,zam])
 simp (maxSteps:=4000000) only [go_sem,AV.one,zae,zac,zad,zaq,zas,zab,czb,cza,↓reduceIte,zan,zaa,zao,onz,hpl,bne_self_eq_false,decide_true,decide_false]
 all_goals (repeat' first | (with_reducible first | rfl | apply And.intro | assumption) | ((with_reducible show zaf _ _ = true); rfl)) <;> try first | omega | (simp only [InR]; omega)
 refine zbv (y.chairs.length) [] [1,2,3,6,7] (fun i => [(11,.int .i64 i)]) (fun _ m => m) (fun _ => True) ?_ ?_ ?_ ?_
 ·trivial
 ·simp [AV.bare,zal,zaN,zaS,zak,zat,zah,tokz1,lk,zab,za2,-List.map_map]
 ·intro i hi _
  have hi':=czH.2 hi
  have hpre:=rpre hv (o:=o) (by omega) hlh (c:=(i:Int)) (by omega) (by omega)
  have hg:((zki y o hs).map EncE.cs).getD i [] = EncE.cs (zdt y o hs i):=by
   rw [zax (by omega),playsY_at o hs hi]
  have hfb:=zrC y o hs i
  have hhr:=hv.hrs
  obtain ⟨S,hS⟩:∃ S,zdt y o hs i = S:=⟨_,rfl⟩
  rw [hS] at hg hfb
  have hf:S.free.length ≤ 4096:=by omega
  simp (maxSteps:=4000000) only [go_sem,AV.one,zae,zac,zad,zaq,zas,zab,czb,cza,↓reduceIte,zan,zaa,zao,onz,hi',hpl,hg,hS,hpre,hf,bne_self_eq_false,decide_true,decide_false]
  all_goals (repeat' first | (with_reducible first | rfl | apply And.intro | assumption) | ((with_reducible show zaf _ _ = true); rfl)) <;> try first | omega | (simp only [InR]; omega)
  refine nxt hi trivial ?_
  simp [AV.bare,zal,zaN,zaS,zak,zat,zah,tokz1,lk,zab,za2,-List.map_map]
 ·intro _
  simp (maxSteps:=4000000) only [go_sem,AV.one,zae,zac,zad,zaq,zas,zab,czb,cza,↓reduceIte,zan,zaa,zao,onz,hpl,czA,decide_true,decide_false]
  all_goals exact auz
end Go.Proofs
