/- The law DryNoBetter. -/
import Derived.Test.YtilbconikmpadaaGreatG23
import Derived.Test.YtilbconikmpadaaGreatCH52
set_option linter.all false
namespace Go.Proofs
open Go.Fs
set_option maxHeartbeats 4000000
set_option maxRecDepth 8000
theorem zwZ (y:Yd) (ws:List (Uk .u8)) (cut more:Int) (hws:WsOk ws) (hcut:InR .u8 cut) (hmore:InR .u8 more):zaQ Tryz.prog 12 [Enc.enc y,Enc.enc ws,AV.int .u8 cut,AV.int .u8 more] (· = Enc.enc true):=by
 cases c0:(ziC y && decide (za9 y = 0))
 ·simp only [zbz]
  refine cpz zbX Tryz.func12 zaD ?_
  rw [Tryz.ntmps12]
  simp only [Tryz.f12,zag,zap]
  iterate 2 (
   refine zar fun Q1 h1 => ?_
   simp (maxSteps:=4000000) only [go_sem,AV.one,zae,zac,zad,zaq,zas,zab,czb,cza,↓reduceIte,zan,zaa,zao,onz,zdZ,c0]
   all_goals (repeat' first | (with_reducible first | rfl | apply And.intro | assumption) | ((with_reducible show zaf _ _ = true); rfl)) <;> try first | omega | (simp only [InR]; omega)
   rw [h1]; clear h1 Q1; simp only [zaE,zam])
  simp (maxSteps:=4000000) only [go_sem,AV.one,zae,zac,zad,zaq,zas,zab,czb,cza,↓reduceIte,zan,zaa,zao,onz,zdZ]
  all_goals exact auz
 have c0':=c0
 simp only [czl,decide_eq_true_eq] at c0'
 have hv:=zg9 c0'.2
 have hcut':0 ≤ cut ∧ cut ≤ 255:=hcut
 have hmore':0 ≤ more ∧ more ≤ 255:=hmore
 obtain ⟨l1,l2,l3,l4,l5,l6⟩:=lens hv
 have hvX:=bare_ok hv
 obtain ⟨x1,x2,x3,x4,x5,x6⟩:=lens hvX
 have hm1:=Int.emod_nonneg more (show (3:Int) ≠ 0 by omega)
 have hm2:=Int.emod_lt_of_pos more (show (0:Int) < 3 by omega)
 have hh0:=hv.h0
 have hh5:=hv.h5
 have hhm:y.hands ≤ min 5 (y.hands + more % 3):=by omega
 have hhb:0 ≤ min 5 (y.hands + more % 3) ∧ min 5 (y.hands + more % 3) ≤ 5:=by omega
 have hbX:(⟨⟨y.t.last,y.t.heights,y.t.step,y.t.levels,y.t.marks⟩,y.hands,y.chairs,[],[]⟩:Yd) = zwP y:=rfl
 have hbZ:∀ h,(⟨⟨y.t.last,y.t.heights,y.t.step,y.t.levels,y.t.marks⟩,h,y.chairs,[],[]⟩:Yd) = zwX (zwP y) h:=fun _ => rfl
 have hvZ:=hands_ok hvX hhb.1 hhb.2
 obtain ⟨z1,z2,z3,z4,z5,z6⟩:=lens hvZ
 have hord:zaG y.chairs.length (ordW (zwP y) ws) = true:=ordW_ok (zwP y) ws
 have hol:=zcY hord
 have hc5:=hv.c5
 obtain ⟨htX,htZ⟩:=zw4 hv (min 5 (y.hands + more % 3))
 have hnb:=no_better hv hhm hord
 have e3:=zxi hvX htX
 have e4:=zxi hvZ (by rw [htZ]; exact htX)
 rw [htZ] at e4
 have e1:=fun o (h:zaG y.chairs.length o = true) => zwU hvX htX (o:=o) h
 have e5:=fun o (h:zaG y.chairs.length o = true) n => zxa hvX htX (o:=o) h n
 generalize hZ:zwX (zwP y) (min 5 (y.hands + more % 3)) = Z at hvZ z1 z2 z3 z4 z5 z6 e4 hnb
 have hbZ':=hbZ (min 5 (y.hands + more % 3))
 rw [hZ] at hbZ'
 generalize hh:min 5 (y.hands + more % 3) = h at hbZ' hhm hhb
 generalize hX:zwP y = X at hbX hvX x1 x2 x3 x4 x5 x6 hord hol hnb e1 e3 e4 e5 htX
 generalize hO:ordW X ws = O at hord hol hnb
 have k1:=Int.emod_nonneg cut (show ((O.length:Int) + 1) ≠ 0 by omega)
 have k2:=Int.emod_lt_of_pos cut (show (0:Int) < (O.length:Int) + 1 by omega)
 obtain ⟨k,ek⟩:=czu k1
 rw [ek] at k2
 obtain ⟨n1,n2,n3,n4,n5⟩:=hnb k
 have hcc:0 ≤ (zhA X (zaV X)).2 ∧ (zhA X (zaV X)).2 ≤ X.chairs.length:=by rw [← n4]; exact zm6 _ _ _
 have hordk:=zgx hord k
 have f1:=e1 O hord
 have f2:=e1 (O.take k) hordk
 have f3:=e5 (zhA X (zaV X)).1 n5 (zhA X (zaV X)).2
 have f4:=e5 O hord ((zhA X (zaV X)).2 - 1)
 have hmt:(O.map EncE.cs).take k = (O.take k).map EncE.cs:=by rw [List.map_take]
 have ht0:((k:Int) - 0).toNat = k:=by omega
 have hlk:(O.take k).length ≤ 4096:=by rw [czO]; omega
 have hol4:O.length ≤ 4096:=by omega
 have hpl:=zcY n5
 have hpl4:(zhA X (zaV X)).1.length ≤ 4096:=by omega
 generalize zsO X O = w1 at f1
 generalize zsO X (O.take k) = w2 at f2
 generalize (zhA Z (zaV X)).1 = P2 at e4
 generalize (zhA Z (zaV X)).2 = C2 at e4 n3
 generalize (zhA X (zaV X)).1 = P1 at e3 f3 n4 n5 hpl hpl4
 generalize (zhA X (zaV X)).2 = C1 at e3 f3 f4 n1 n3 n4 hcc
 rw [n4,decide_eq_true (Int.le_refl _)] at f3
 generalize zc2 X (zaV X) O = A1 at f1 f4 n1 n2
 generalize zc2 X (zaV X) (O.take k) = A2 at f2 n2
 rw [decide_eq_false (by omega)] at f4
 generalize O.take k = Ok at f2 hmt hlk
 have d1:=decide_eq_true n1
 have d2:=decide_eq_true n2
 have d3:=decide_eq_true n3
 simp only [zbz]
 refine cpz zbX Tryz.func12 zaD ?_
 rw [Tryz.ntmps12]
 simp only [Tryz.f12,zag,zap]
 iterate 2 (
  refine zar fun Q1 h1 => ?_
  simp (maxSteps:=4000000) only [go_sem,AV.one,zae,zac,zad,zaq,zas,zab,czb,cza,↓reduceIte,zan,zaa,zao,onz,zdZ,c0]
  all_goals (repeat' first | (with_reducible first | rfl | apply And.intro | assumption) | ((with_reducible show zaf _ _ = true); rfl)) <;> try first | omega | (simp only [InR]; omega)
  rw [h1]; clear h1 Q1; simp only [zaE,zam])
 iterate 5 (
  refine zar fun Q1 h1 => ?_
  simp (maxSteps:=4000000) only [go_sem,AV.one,zae,zac,zad,zaq,zas,zab,czb,cza,↓reduceIte,zan,zaa,zao,onz,zdZ,hh,hbX]
  all_goals (repeat' first | (with_reducible first | rfl | apply And.intro | assumption) | ((with_reducible show zaf _ _ = true); rfl)) <;> try first | omega | (simp only [InR]; omega)
  rw [h1]; clear h1 Q1; simp only [zaE,zam])
 refine zar fun Q1 h1 => ?_
 simp (maxSteps:=4000000) only [go_sem,AV.one,zae,zac,zad,zaq,zas,zab,czb,cza,↓reduceIte,zan,zaa,zao,onz,zdZ,hbX,hws,hO]
 all_goals (repeat' first | (with_reducible first | rfl | apply And.intro | assumption) | ((with_reducible show zaf _ _ = true); rfl)) <;> try first | omega | (simp only [InR]; omega)
 rw [h1]; clear h1 Q1; simp only [zaE,zam]
 refine zar fun Q1 h1 => ?_
 simp (maxSteps:=4000000) only [go_sem,AV.one,zae,zac,zad,zaq,zas,zab,czb,cza,↓reduceIte,zan,zaa,zao,onz,zdZ,hbX,f1]
 all_goals (repeat' first | (with_reducible first | rfl | apply And.intro | assumption) | ((with_reducible show zaf _ _ = true); rfl)) <;> try first | omega | (simp only [InR]; omega)
 rw [h1]; clear h1 Q1; simp only [zaE,zam]
 refine zar fun Q1 h1 => ?_
 simp (maxSteps:=4000000) only [go_sem,AV.one,zae,zac,zad,zaq,zas,zab,czb,cza,↓reduceIte,zan,zaa,zao,onz,zdZ,hbX,ek,ht0,hmt,f2]
 all_goals (repeat' first | (with_reducible first | rfl | apply And.intro | assumption) | ((with_reducible show zaf _ _ = true); rfl)) <;> try first | omega | (simp only [InR]; omega)
 rw [h1]; clear h1 Q1; simp only [zaE,zam]
 refine zar fun Q1 h1 => ?_
 simp (maxSteps:=4000000) only [go_sem,AV.one,zae,zac,zad,zaq,zas,zab,czb,cza,↓reduceIte,zan,zaa,zao,onz,zdZ,hbX,e3]
 all_goals (repeat' first | (with_reducible first | rfl | apply And.intro | assumption) | ((with_reducible show zaf _ _ = true); rfl)) <;> try first | omega | (simp only [InR]; omega)
 rw [h1]; clear h1 Q1; simp only [zaE,zam]
 refine zar fun Q1 h1 => ?_
 simp (maxSteps:=4000000) only [go_sem,AV.one,zae,zac,zad,zaq,zas,zab,czb,cza,↓reduceIte,zan,zaa,zao,onz,zdZ,hbZ',e4]
 all_goals (repeat' first | (with_reducible first | rfl | apply And.intro | assumption) | ((with_reducible show zaf _ _ = true); rfl)) <;> try first | omega | (simp only [InR]; omega)
 rw [h1]; clear h1 Q1; simp only [zaE,zam]
 simp (maxSteps:=4000000) only [go_sem,AV.one,zae,zac,zad,zaq,zas,zab,czb,cza,↓reduceIte,zan,zaa,zao,onz,zdZ,hbX,ge_iff_le,d1,d2,d3,f3,f4,decide_true,decide_false]
 all_goals exact auz
end Go.Proofs
