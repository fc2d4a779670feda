/- The law DryMore. -/
import Derived.Test.YtilbconikmpadaaGreatG23
import Derived.Test.YtilbconikmpadaaGreatCH53
set_option linter.all false
namespace Go.Proofs
open Go.Fs
set_option maxHeartbeats 4000000
set_option maxRecDepth 8000
theorem room16 {n:Nat} (h:n * 16 ≤ 140737488351232):(n + n / 4 + 704) * 16 ≤ 281474976710656 ∧ (n + 1 + (n + 1) / 4 + 704) * 16 ≤ 281474976710656:=by omega
theorem zqY (y:Yd) (m:Rg) (ws:List (Uk .u8)) (chair:Int) (hN:y.hires.length * 16 ≤ 140737488351232) (hws:zxa ws) (hch:InR .u8 chair):zaU Tryz.prog 15 [Enc.enc y,Enc.enc m,Enc.enc ws,AV.int .u8 chair] (· = Enc.enc true):=by
 have hmm:y.hires.map EncE.cs ++ [[AV.int .i64 m.lo,AV.int .i64 m.hi]] = (y.hires ++ [m]).map EncE.cs:=by rw [List.map_append]; rfl
 have hbX:(⟨⟨y.t.last,y.t.heights,y.t.step,y.t.levels,y.t.marks⟩,y.hands,y.chairs,y.order,y.hires ++ [m]⟩:Yd) = zcv y m:=rfl
 have hone:∀ x ∈ y.hires.map EncE.cs,∀ c ∈ x,AV.one c = true:=fun x hx c hc => by
  obtain ⟨a,_,rfl⟩:=czx.1 hx
  simp only [EncE.cs,czn,czk,or_false] at hc
  rcases hc with rfl | rfl <;> rfl
 have hln:∀ x ∈ y.hires.map EncE.cs,x.length = 2:=fun x hx => by
  obtain ⟨a,_,rfl⟩:=czx.1 hx
  rfl
 obtain ⟨k1,k2⟩:=room16 hN
 clear hN
 cases c0:(zi1 y && decide (zbB y = 0))
 ·simp only [zbY]
  refine cpz zdt Tryz.func15 zaF ?_
  rw [Tryz.ntmps15]
  simp only [Tryz.f15,zah,zaq]
  refine zar fun Q1 h1 => ?_
  simp (maxSteps:=4000000) only [go_sem,zae,zac,zad,zap,zas,zab,czb,cza,↓reduceIte,zam,zaa,zao,onz,zaE]
  all_goals (repeat' first | (with_reducible first | rfl | apply And.intro | assumption) | ((with_reducible show zaf _ _ = true); rfl)) <;> try first | omega | (simp only [InR]; omega)
  rw [h1]; clear h1 Q1; simp only [zaG,zan]
  refine zar fun Q1 h1 => ?_
  simp (maxSteps:=4000000) only [go_sem,zae,zac,zad,zap,zas,zab,czb,cza,↓reduceIte,zam,zaa,zao,onz,zaE]
  all_goals (repeat' first | (with_reducible first | rfl | apply And.intro | assumption) | ((with_reducible show zaf _ _ = true); rfl)) <;> try first | omega | (simp only [InR]; omega)
  rw [h1]; clear h1 Q1; simp only [zaG,zan]
  refine zar fun Q1 h1 => ?_
  simp (maxSteps:=4000000) only [go_sem,zae,zac,zad,zap,zas,zab,czb,cza,↓reduceIte,zam,zaa,zao,onz,zaE,hmm]
  refine ⟨by rfl,?_⟩
  repeat' with_reducible apply And.intro
  all_goals (try first | with_reducible rfl | with_reducible assumption)
  rw [h1]; clear h1 Q1; simp only [zaG,zan]
  refine zar fun Q1 h1 => ?_
  simp (maxSteps:=4000000) only [go_sem,AV.one,zae,zac,zad,zap,zas,zab,czb,cza,↓reduceIte,zam,zaa,zao,onz,zaE,c0,hbX]
  all_goals (repeat' first | (with_reducible first | rfl | apply And.intro | assumption) | ((with_reducible show zaf _ _ = true); rfl)) <;> try first | omega | (simp only [InR]; omega)
  rw [h1]; clear h1 Q1; simp only [zaG,zan]
  simp (maxSteps:=4000000) only [go_sem,AV.one,zae,zac,zad,zap,zas,zab,czb,cza,↓reduceIte,zam,zaa,zao,onz,zaE]
  all_goals exact auz
 cases c1:(zi1 (zcv y m) && decide (zbB (zcv y m) = 0))
 ·simp only [zbY]
  refine cpz zdt Tryz.func15 zaF ?_
  rw [Tryz.ntmps15]
  simp only [Tryz.f15,zah,zaq]
  refine zar fun Q1 h1 => ?_
  simp (maxSteps:=4000000) only [go_sem,zae,zac,zad,zap,zas,zab,czb,cza,↓reduceIte,zam,zaa,zao,onz,zaE]
  all_goals (repeat' first | (with_reducible first | rfl | apply And.intro | assumption) | ((with_reducible show zaf _ _ = true); rfl)) <;> try first | omega | (simp only [InR]; omega)
  rw [h1]; clear h1 Q1; simp only [zaG,zan]
  refine zar fun Q1 h1 => ?_
  simp (maxSteps:=4000000) only [go_sem,zae,zac,zad,zap,zas,zab,czb,cza,↓reduceIte,zam,zaa,zao,onz,zaE]
  all_goals (repeat' first | (with_reducible first | rfl | apply And.intro | assumption) | ((with_reducible show zaf _ _ = true); rfl)) <;> try first | omega | (simp only [InR]; omega)
  rw [h1]; clear h1 Q1; simp only [zaG,zan]
  refine zar fun Q1 h1 => ?_
  simp (maxSteps:=4000000) only [go_sem,zae,zac,zad,zap,zas,zab,czb,cza,↓reduceIte,zam,zaa,zao,onz,zaE,hmm]
  refine ⟨by rfl,?_⟩
  repeat' with_reducible apply And.intro
  all_goals (try first | with_reducible rfl | with_reducible assumption)
  rw [h1]; clear h1 Q1; simp only [zaG,zan]
  refine zar fun Q1 h1 => ?_
  simp (maxSteps:=4000000) only [go_sem,AV.one,zae,zac,zad,zap,zas,zab,czb,cza,↓reduceIte,zam,zaa,zao,onz,zaE,c0,c1,hbX]
  all_goals (repeat' first | (with_reducible first | rfl | apply And.intro | assumption) | ((with_reducible show zaf _ _ = true); rfl)) <;> try first | omega | (simp only [InR]; omega)
  rw [h1]; clear h1 Q1; simp only [zaG,zan]
  simp (maxSteps:=4000000) only [go_sem,AV.one,zae,zac,zad,zap,zas,zab,czb,cza,↓reduceIte,zam,zaa,zao,onz,zaE]
  all_goals exact auz
 have c0':=c0
 have c1':=c1
 simp only [czl,decide_eq_true_eq] at c0' c1'
 have hv:=zhG c0'.2
 have hx:=zhG c1'.2
 have hXc:(zcv y m).chairs = y.chairs:=rfl
 have hXt:(zcv y m).t = y.t:=rfl
 have hXl:(zcv y m).hires.length = y.hires.length + 1:=zit y m
 have hch':0 ≤ chair ∧ chair ≤ 255:=hch
 obtain ⟨l1,l2,l3,l4,l5,l6⟩:=lens hv
 have hc5:=hv.c5
 have hm:=hx.hi (at_ (zcv y m).hires y.hires.length) (zbb (by rw [hXl]; omega))
 rw [show at_ (zcv y m).hires y.hires.length = m from zjk _ _,hXc,hXt] at hm
 obtain ⟨ls,e1,g1⟩:=zdZ (psY hv)
 obtain ⟨lx,e2,g2⟩:=zdZ (psY hx)
 have f1:=ziI hv
 rw [e1] at f1
 have f2:=ziI hx
 rw [e2] at f2
 obtain ⟨n1,n2⟩:=zv0 g1 g2
 have hi1:=zr6 g1.inc
 have hi2:=zr6 g2.inc
 rw [hXl] at hi2
 have hr5:=hv.r5
 have b1:(zbQ ls).length = ls.length:=by unfold zbQ; rw [czz]
 have b2:(zbQ lx).length = lx.length:=by unfold zbQ; rw [czz]
 have d1:decide ((lx.length:Int) < ls.length) = false:=decide_eq_false (by omega)
 have d2:decide (((ls.length:Int) + 1) < lx.length) = false:=decide_eq_false (by omega)
 have hposs:=more_poss g2
 obtain ⟨A,hA⟩:∃ A,zbQ ls = A:=⟨_,rfl⟩
 obtain ⟨B,hB⟩:∃ B,zbQ lx = B:=⟨_,rfl⟩
 rw [hA] at b1 f1
 rw [hB] at b2 f2
 rw [← b1,← b2] at d1 d2
 have hA4:A.length ≤ 4096:=by omega
 have hB4:B.length ≤ 4096:=by omega
 obtain ⟨x1,x2,x3,x4,x5,x6⟩:=lens hx
 by_cases hz:lx = []
 case neg =>
  have d3:decide ((0:Int) < B.length) = true:=decide_eq_true (by have:=List.length_pos_iff.2 hz; omega)
  obtain ⟨X,hX⟩:∃ X,zcv y m = X:=⟨_,rfl⟩
  rw [hX] at hbX f2 c1 hXc hXt x1 x2 x3 x4 x5 x6
  simp only [zbY]
  refine cpz zdt Tryz.func15 zaF ?_
  rw [Tryz.ntmps15]
  simp only [Tryz.f15,zah,zaq]
  refine zar fun Q1 h1 => ?_
  simp (maxSteps:=4000000) only [go_sem,zae,zac,zad,zap,zas,zab,czb,cza,↓reduceIte,zam,zaa,zao,onz,zaE]
  all_goals (repeat' first | (with_reducible first | rfl | apply And.intro | assumption) | ((with_reducible show zaf _ _ = true); rfl)) <;> try first | omega | (simp only [InR]; omega)
  rw [h1]; clear h1 Q1; simp only [zaG,zan]
  refine zar fun Q1 h1 => ?_
  simp (maxSteps:=4000000) only [go_sem,zae,zac,zad,zap,zas,zab,czb,cza,↓reduceIte,zam,zaa,zao,onz,zaE]
  all_goals (repeat' first | (with_reducible first | rfl | apply And.intro | assumption) | ((with_reducible show zaf _ _ = true); rfl)) <;> try first | omega | (simp only [InR]; omega)
  rw [h1]; clear h1 Q1; simp only [zaG,zan]
  refine zar fun Q1 h1 => ?_
  simp (maxSteps:=4000000) only [go_sem,zae,zac,zad,zap,zas,zab,czb,cza,↓reduceIte,zam,zaa,zao,onz,zaE,hmm]
  refine ⟨by rfl,?_⟩
  repeat' with_reducible apply And.intro
  all_goals (try first | with_reducible rfl | with_reducible assumption)
  rw [h1]; clear h1 Q1; simp only [zaG,zan]
  refine zar fun Q1 h1 => ?_
  simp (maxSteps:=4000000) only [go_sem,AV.one,zae,zac,zad,zap,zas,zab,czb,cza,↓reduceIte,zam,zaa,zao,onz,zaE,c0,c1,hbX]
  all_goals (repeat' first | (with_reducible first | rfl | apply And.intro | assumption) | ((with_reducible show zaf _ _ = true); rfl)) <;> try first | omega | (simp only [InR]; omega)
  rw [h1]; clear h1 Q1; simp only [zaG,zan]
  iterate 2 (
   refine zar fun Q1 h1 => ?_
   simp (maxSteps:=4000000) only [go_sem,AV.one,zae,zac,zad,zap,zas,zab,czb,cza,↓reduceIte,zam,zaa,zao,onz,zaE,f1]
   all_goals (repeat' first | (with_reducible first | rfl | apply And.intro | assumption) | ((with_reducible show zaf _ _ = true); rfl)) <;> try first | omega | (simp only [InR]; omega)
   rw [h1]; clear h1 Q1; simp only [zaG,zan])
  refine zar fun Q1 h1 => ?_
  simp (maxSteps:=4000000) only [go_sem,AV.one,zae,zac,zad,zap,zas,zab,czb,cza,↓reduceIte,zam,zaa,zao,onz,zaE,hbX,f2]
  all_goals (repeat' first | (with_reducible first | rfl | apply And.intro | assumption) | ((with_reducible show zaf _ _ = true); rfl)) <;> try first | omega | (simp only [InR]; omega)
  rw [h1]; clear h1 Q1; simp only [zaG,zan]
  refine zar fun Q1 h1 => ?_
  simp (maxSteps:=4000000) only [go_sem,AV.one,zae,zac,zad,zap,zas,zab,czb,cza,↓reduceIte,zam,zaa,zao,onz,zaE,d1,d2,gt_iff_lt,bne_self_eq_false,decide_true,decide_false]
  all_goals (repeat' first | (with_reducible first | rfl | apply And.intro | assumption) | ((with_reducible show zaf _ _ = true); rfl)) <;> try first | omega | (simp only [InR]; omega)
  rw [h1]; clear h1 Q1; simp only [zaG,zan]
  iterate 2 (
   refine zar fun Q1 h1 => ?_
   simp (maxSteps:=4000000) only [go_sem,AV.one,zae,zac,zad,zap,zas,zab,czb,cza,↓reduceIte,zam,zaa,zao,onz,zaE,gt_iff_lt,d3]
   all_goals (repeat' first | (with_reducible first | rfl | apply And.intro | assumption) | ((with_reducible show zaf _ _ = true); rfl)) <;> try first | omega | (simp only [InR]; omega)
   rw [h1]; clear h1 Q1; simp only [zaG,zan])
  simp (maxSteps:=4000000) only [go_sem,AV.one,zae,zac,zad,zap,zas,zab,czb,cza,↓reduceIte,zam,zaa,zao,onz,zaE,gt_iff_lt,d3]
  all_goals exact auz
 have d3:decide ((0:Int) < B.length) = false:=decide_eq_false (by rw [b2,hz]; simp)
 have htX:=hposs hz
 have hty:zaJ y ≠ []:=fun e => by
  obtain ⟨p,hp⟩:=List.exists_mem_of_ne_nil _ htX
  have:=(zeh.1 hp).1
  rw [e] at this
  cases this
 have hn0:y.chairs.length ≠ 0:=fun e => by rw [e] at hm; omega
 have q1:=Int.emod_nonneg chair (show (y.chairs.length:Int) ≠ 0 by omega)
 have q2:=Int.emod_lt_of_pos chair (show (0:Int) < y.chairs.length by omega)
 obtain ⟨c,ec⟩:=czu q1
 rw [ec] at q2
 have hord:=znB y ws
 have hol:=zev hord
 obtain ⟨O,hO⟩:∃ O,ordW y ws = O:=⟨_,rfl⟩
 rw [hO] at hord hol
 have hol4:O.length ≤ 4096:=by omega
 have qh:zxw y O c = true:=by unfold zxw; rw [hord,(zbn _ _ _).2 (by omega)]; rfl
 have qX:zxw (zcv y m) O c = true:=qh
 have qf:zjl y O c m.hi = true:=by unfold zjl; rw [hord,(zbn _ _ _).2 (by omega),(zbn _ _ _).2 (by omega)]; rfl
 have qfX:zjl (zcv y m) O c m.hi = true:=qf
 have qw:zjl (zcv y m) y.order m.lo m.hi = true:=by
  unfold zjl
  rw [hXc,hXt,hv.ord,(zbn _ _ _).2 (by omega),(zbn _ _ _).2 (by omega)]
  rfl
 have t1:=zkj hv hty qh (by omega) (by omega)
 have t2:=zkj hx htX qX (by omega) (by rw [hXc]; omega)
 obtain ⟨hh1,hh2⟩:=zv1 hv hx htX hty O (c:=(c:Int)) (by omega) (by omega)
 have t3:=zle hv hty qf (by omega) (by omega) (by omega) (by omega)
 have t4:=zle hx htX qfX (by omega) (by rw [hXc]; omega) (by omega) (by rw [hXt]; omega)
 have hfr:=more_free (m:=m) htX hty O c m.hi
 have t5:=zrW hv hty hord
 have t6:=zrW (y:=zcv y m) hx htX hord
 have hls:=more_loss (y:=y) (m:=m) O
 have t7:=zle hx htX qw (by omega) (by rw [hXc]; omega) (by omega) (by rw [hXt]; omega)
 rw [zrR] at t7
 obtain ⟨H1,hH1⟩:∃ H,zeG y (zaJ y) O c = H:=⟨_,rfl⟩
 obtain ⟨H2,hH2⟩:∃ H,zeG (zcv y m) (zaJ (zcv y m)) O c = H:=⟨_,rfl⟩
 obtain ⟨F1,hF1⟩:∃ F,zdR y (zaJ y) O c m.hi = F:=⟨_,rfl⟩
 obtain ⟨F2,hF2⟩:∃ F,zdR (zcv y m) (zaJ (zcv y m)) O c m.hi = F:=⟨_,rfl⟩
 obtain ⟨Z1,hZ1⟩:∃ Z,zgQ y (zaJ y) O = Z:=⟨_,rfl⟩
 obtain ⟨Z2,hZ2⟩:∃ Z,zgQ (zcv y m) (zaJ (zcv y m)) O = Z:=⟨_,rfl⟩
 obtain ⟨W1,hW1⟩:∃ W,zmh y O = W:=⟨_,rfl⟩
 obtain ⟨W2,hW2⟩:∃ W,zmh (zcv y m) O = W:=⟨_,rfl⟩
 rw [hH1] at t1 hh1 hh2
 rw [hH2] at t2 hh1 hh2
 rw [hF1] at t3 hfr
 rw [hF2] at t4 hfr
 rw [hZ1,hW1] at t5
 rw [hZ2,hW2] at t6
 rw [hZ1,hZ2] at hls
 have p1:=decide_eq_true hh1
 have p2:=decide_eq_true hh2
 have p3:=decide_eq_true hls
 have hO':=hv.ord
 have ho4:y.order.length ≤ 4096:=by omega
 obtain ⟨X,hX⟩:∃ X,zcv y m = X:=⟨_,rfl⟩
 rw [hX] at hbX f2 c1 hXc hXt t2 t4 t6 t7 x1 x2 x3 x4 x5 x6
 simp only [zbY]
 refine cpz zdt Tryz.func15 zaF ?_
 rw [Tryz.ntmps15]
 simp only [Tryz.f15,zah,zaq]
 refine zar fun Q1 h1 => ?_
 simp (maxSteps:=4000000) only [go_sem,zae,zac,zad,zap,zas,zab,czb,cza,↓reduceIte,zam,zaa,zao,onz,zaE]
 all_goals (repeat' first | (with_reducible first | rfl | apply And.intro | assumption) | ((with_reducible show zaf _ _ = true); rfl)) <;> try first | omega | (simp only [InR]; omega)
 rw [h1]; clear h1 Q1; simp only [zaG,zan]
 refine zar fun Q1 h1 => ?_
 simp (maxSteps:=4000000) only [go_sem,zae,zac,zad,zap,zas,zab,czb,cza,↓reduceIte,zam,zaa,zao,onz,zaE]
 all_goals (repeat' first | (with_reducible first | rfl | apply And.intro | assumption) | ((with_reducible show zaf _ _ = true); rfl)) <;> try first | omega | (simp only [InR]; omega)
 rw [h1]; clear h1 Q1; simp only [zaG,zan]
 refine zar fun Q1 h1 => ?_
 simp (maxSteps:=4000000) only [go_sem,zae,zac,zad,zap,zas,zab,czb,cza,↓reduceIte,zam,zaa,zao,onz,zaE,hmm]
 refine ⟨by rfl,?_⟩
 repeat' with_reducible apply And.intro
 all_goals (try first | with_reducible rfl | with_reducible assumption)
 rw [h1]; clear h1 Q1; simp only [zaG,zan]
 refine zar fun Q1 h1 => ?_
 simp (maxSteps:=4000000) only [go_sem,AV.one,zae,zac,zad,zap,zas,zab,czb,cza,↓reduceIte,zam,zaa,zao,onz,zaE,c0,c1,hbX]
 all_goals (repeat' first | (with_reducible first | rfl | apply And.intro | assumption) | ((with_reducible show zaf _ _ = true); rfl)) <;> try first | omega | (simp only [InR]; omega)
 rw [h1]; clear h1 Q1; simp only [zaG,zan]
 iterate 2 (
  refine zar fun Q1 h1 => ?_
  simp (maxSteps:=4000000) only [go_sem,AV.one,zae,zac,zad,zap,zas,zab,czb,cza,↓reduceIte,zam,zaa,zao,onz,zaE,f1]
  all_goals (repeat' first | (with_reducible first | rfl | apply And.intro | assumption) | ((with_reducible show zaf _ _ = true); rfl)) <;> try first | omega | (simp only [InR]; omega)
  rw [h1]; clear h1 Q1; simp only [zaG,zan])
 refine zar fun Q1 h1 => ?_
 simp (maxSteps:=4000000) only [go_sem,AV.one,zae,zac,zad,zap,zas,zab,czb,cza,↓reduceIte,zam,zaa,zao,onz,zaE,hbX,f2]
 all_goals (repeat' first | (with_reducible first | rfl | apply And.intro | assumption) | ((with_reducible show zaf _ _ = true); rfl)) <;> try first | omega | (simp only [InR]; omega)
 rw [h1]; clear h1 Q1; simp only [zaG,zan]
 refine zar fun Q1 h1 => ?_
 simp (maxSteps:=4000000) only [go_sem,AV.one,zae,zac,zad,zap,zas,zab,czb,cza,↓reduceIte,zam,zaa,zao,onz,zaE,d1,d2,gt_iff_lt,bne_self_eq_false,decide_true,decide_false]
 all_goals (repeat' first | (with_reducible first | rfl | apply And.intro | assumption) | ((with_reducible show zaf _ _ = true); rfl)) <;> try first | omega | (simp only [InR]; omega)
 rw [h1]; clear h1 Q1; simp only [zaG,zan]
 iterate 2 (
  refine zar fun Q1 h1 => ?_
  simp (maxSteps:=4000000) only [go_sem,AV.one,zae,zac,zad,zap,zas,zab,czb,cza,↓reduceIte,zam,zaa,zao,onz,zaE,gt_iff_lt,d3]
  all_goals (repeat' first | (with_reducible first | rfl | apply And.intro | assumption) | ((with_reducible show zaf _ _ = true); rfl)) <;> try first | omega | (simp only [InR]; omega)
  rw [h1]; clear h1 Q1; simp only [zaG,zan])
 iterate 2 (
  refine zar fun Q1 h1 => ?_
  simp (maxSteps:=4000000) only [go_sem,AV.one,zae,zac,zad,zap,zas,zab,czb,cza,↓reduceIte,zam,zaa,zao,onz,zaE,hO,hws,ec,decide_true,decide_false]
  all_goals (repeat' first | (with_reducible first | rfl | apply And.intro | assumption) | ((with_reducible show zaf _ _ = true); rfl)) <;> try first | omega | (simp only [InR]; omega)
  rw [h1]; clear h1 Q1; simp only [zaG,zan])
 refine zar fun Q1 h1 => ?_
 simp (maxSteps:=4000000) only [go_sem,AV.one,zae,zac,zad,zap,zas,zab,czb,cza,↓reduceIte,zam,zaa,zao,onz,zaE,t1]
 all_goals (repeat' first | (with_reducible first | rfl | apply And.intro | assumption) | ((with_reducible show zaf _ _ = true); rfl)) <;> try first | omega | (simp only [InR]; omega)
 rw [h1]; clear h1 Q1; simp only [zaG,zan]
 refine zar fun Q1 h1 => ?_
 simp (maxSteps:=4000000) only [go_sem,AV.one,zae,zac,zad,zap,zas,zab,czb,cza,↓reduceIte,zam,zaa,zao,onz,zaE,hbX,t2]
 all_goals (repeat' first | (with_reducible first | rfl | apply And.intro | assumption) | ((with_reducible show zaf _ _ = true); rfl)) <;> try first | omega | (simp only [InR]; omega)
 rw [h1]; clear h1 Q1; simp only [zaG,zan]
 refine zar fun Q1 h1 => ?_
 simp (maxSteps:=4000000) only [go_sem,AV.one,zae,zac,zad,zap,zas,zab,czb,cza,↓reduceIte,zam,zaa,zao,onz,zaE,t3]
 all_goals (repeat' first | (with_reducible first | rfl | apply And.intro | assumption) | ((with_reducible show zaf _ _ = true); rfl)) <;> try first | omega | (simp only [InR]; omega)
 rw [h1]; clear h1 Q1; simp only [zaG,zan]
 refine zar fun Q1 h1 => ?_
 simp (maxSteps:=4000000) only [go_sem,AV.one,zae,zac,zad,zap,zas,zab,czb,cza,↓reduceIte,zam,zaa,zao,onz,zaE,hbX,t4]
 all_goals (repeat' first | (with_reducible first | rfl | apply And.intro | assumption) | ((with_reducible show zaf _ _ = true); rfl)) <;> try first | omega | (simp only [InR]; omega)
 rw [h1]; clear h1 Q1; simp only [zaG,zan]
 refine zar fun Q1 h1 => ?_
 simp (maxSteps:=4000000) only [go_sem,AV.one,zae,zac,zad,zap,zas,zab,czb,cza,↓reduceIte,zam,zaa,zao,onz,zaE,t5]
 all_goals (repeat' first | (with_reducible first | rfl | apply And.intro | assumption) | ((with_reducible show zaf _ _ = true); rfl)) <;> try first | omega | (simp only [InR]; omega)
 rw [h1]; clear h1 Q1; simp only [zaG,zan]
 refine zar fun Q1 h1 => ?_
 simp (maxSteps:=4000000) only [go_sem,AV.one,zae,zac,zad,zap,zas,zab,czb,cza,↓reduceIte,zam,zaa,zao,onz,zaE,hbX,t6]
 all_goals (repeat' first | (with_reducible first | rfl | apply And.intro | assumption) | ((with_reducible show zaf _ _ = true); rfl)) <;> try first | omega | (simp only [InR]; omega)
 rw [h1]; clear h1 Q1; simp only [zaG,zan]
 refine zar fun Q1 h1 => ?_
 simp (maxSteps:=4000000) only [go_sem,AV.one,zae,zac,zad,zap,zas,zab,czb,cza,↓reduceIte,zam,zaa,zao,onz,zaE,hbX,t7]
 all_goals (repeat' first | (with_reducible first | rfl | apply And.intro | assumption) | ((with_reducible show zaf _ _ = true); rfl)) <;> try first | omega | (simp only [InR]; omega)
 rw [h1]; clear h1 Q1; simp only [zaG,zan]
 rcases hfr with hfr | hfr
 ·have p4:decide (F1 = 3) = true:=decide_eq_true hfr
  simp (maxSteps:=4000000) only [go_sem,AV.one,zae,zac,zad,zap,zas,zab,czb,cza,↓reduceIte,zam,zaa,zao,onz,zaE,ge_iff_le,p1,p2,p3,p4,decide_true,decide_false]
  all_goals exact auz
 ·have p4:decide (F1 = F2) = true:=decide_eq_true hfr
  obtain ⟨P,hP⟩:∃ P,decide (F1 = 3) = P:=⟨_,rfl⟩
  cases P
  ·simp (maxSteps:=4000000) only [go_sem,AV.one,zae,zac,zad,zap,zas,zab,czb,cza,↓reduceIte,zam,zaa,zao,onz,zaE,ge_iff_le,p1,p2,p3,p4,hP,decide_true,decide_false]
   all_goals exact auz
  ·simp (maxSteps:=4000000) only [go_sem,AV.one,zae,zac,zad,zap,zas,zab,czb,cza,↓reduceIte,zam,zaa,zao,onz,zaE,ge_iff_le,p1,p2,p3,p4,hP,decide_true,decide_false]
   all_goals exact auz
end Go.Proofs
