/- The law DryEnds. -/
import Derived.Test.YtilbconikmpadaaGreatG23
import Derived.Test.YtilbconikmpadaaGreatCH52
set_option linter.all false
namespace Go.Proofs
open Go.Fs
set_option maxHeartbeats 4000000
set_option maxRecDepth 8000
theorem ends_isB {y:Yd} (hv:VY y) (h:zaV y ≠ []) (o:List Int) {c:Int} (h0:0 ≤ c) (h1:c < y.chairs.length):(∃ p ∈ zaV y,(((zdt y o p c).free.length:Nat):Int) = (zfr y (zaV y) o c).lo) ∧ ∃ p ∈ zaV y,(((zdt y o p c).free.length:Nat):Int) = (zfr y (zaV y) o c).hi:=by
 have hb:=zkQ hv h .free o h0 h1
 rw [zxd hv h o h0 h1] at hb
 exact ⟨hb.lo,hb.hi⟩
theorem zxg (y:Yd) (ws:List (Uk .u8)) (chair:Int) (hws:WsOk ws) (hch:InR .u8 chair):zaQ Tryz.prog 10 [Enc.enc y,Enc.enc ws,AV.int .u8 chair] (· = Enc.enc true):=by
 cases c0:(ziC y && decide (za9 y = 0))
 ·simp only [zbz]
  refine cpz zbX Tryz.func10 zaD ?_
  rw [Tryz.ntmps10]
  simp only [Tryz.f10,zag,zap]
  iterate 2 (
   refine zar fun Q1 h1 => ?_
   simp (maxSteps:=4000000) only [go_sem,AV.one,zae,zac,zad,zaq,zas,zab,czb,cza,↓reduceIte,zan,zaa,zao,onz,zdZ,c0]
   all_goals (repeat' first | (with_reducible first | rfl | apply And.intro | assumption) | ((with_reducible show zaf _ _ = true); rfl)) <;> try first | omega | (simp only [InR]; omega)
   rw [h1]; clear h1 Q1; simp only [zaE,zam])
  simp (maxSteps:=4000000) only [go_sem,AV.one,zae,zac,zad,zaq,zas,zab,czb,cza,↓reduceIte,zan,zaa,zao,onz,zdZ]
  all_goals exact auz
 have c0':=c0
 simp only [czl,decide_eq_true_eq] at c0'
 have hv:=zg9 c0'.2
 have hch':0 ≤ chair ∧ chair ≤ 255:=hch
 obtain ⟨l1,l2,l3,l4,l5,l6⟩:=lens hv
 have hc5:=hv.c5
 by_cases hn:y.chairs.length = 0
 ·have hn':decide ((y.chairs.length:Int) = 0) = true:=by rw [hn]; rfl
  simp only [zbz]
  refine cpz zbX Tryz.func10 zaD ?_
  rw [Tryz.ntmps10]
  simp only [Tryz.f10,zag,zap]
  iterate 2 (
   refine zar fun Q1 h1 => ?_
   simp (maxSteps:=4000000) only [go_sem,AV.one,zae,zac,zad,zaq,zas,zab,czb,cza,↓reduceIte,zan,zaa,zao,onz,zdZ,c0,hn']
   all_goals (repeat' first | (with_reducible first | rfl | apply And.intro | assumption) | ((with_reducible show zaf _ _ = true); rfl)) <;> try first | omega | (simp only [InR]; omega)
   rw [h1]; clear h1 Q1; simp only [zaE,zam])
  simp (maxSteps:=4000000) only [go_sem,AV.one,zae,zac,zad,zaq,zas,zab,czb,cza,↓reduceIte,zan,zaa,zao,onz,zdZ]
  all_goals exact auz
 have hn':decide ((y.chairs.length:Int) = 0) = false:=decide_eq_false (by omega)
 have q1:=Int.emod_nonneg chair (show (y.chairs.length:Int) ≠ 0 by omega)
 have q2:=Int.emod_lt_of_pos chair (show (0:Int) < y.chairs.length by omega)
 obtain ⟨c,ec⟩:=czu q1
 rw [ec] at q2
 have hord:=ordW_ok y ws
 have hol:=zcY hord
 obtain ⟨o,hO⟩:∃ o,ordW y ws = o:=⟨_,rfl⟩
 rw [hO] at hord hol
 have ho4:o.length ≤ 4096:=by omega
 have qh:zxr y o c = true:=by unfold zxr; rw [hord,(zbJ _ _ _).2 (by omega)]; rfl
 by_cases ht:zaV y = []
 ·have e1:=zig (e:=11) (o:=o) (c:=(c:Int)) (by rw [qh]; exact zg7 hv ht) (by decide)
  simp only [zbz]
  refine cpz zbX Tryz.func10 zaD ?_
  rw [Tryz.ntmps10]
  simp only [Tryz.f10,zag,zap]
  iterate 2 (
   refine zar fun Q1 h1 => ?_
   simp (maxSteps:=4000000) only [go_sem,AV.one,zae,zac,zad,zaq,zas,zab,czb,cza,↓reduceIte,zan,zaa,zao,onz,zdZ,c0,hn']
   all_goals (repeat' first | (with_reducible first | rfl | apply And.intro | assumption) | ((with_reducible show zaf _ _ = true); rfl)) <;> try first | omega | (simp only [InR]; omega)
   rw [h1]; clear h1 Q1; simp only [zaE,zam])
  iterate 2 (
   refine zar fun Q1 h1 => ?_
   simp (maxSteps:=4000000) only [go_sem,AV.one,zae,zac,zad,zaq,zas,zab,czb,cza,↓reduceIte,zan,zaa,zao,onz,zdZ,ec,hws,l4,hO]
   all_goals (repeat' first | (with_reducible first | rfl | apply And.intro | assumption) | ((with_reducible show zaf _ _ = true); rfl)) <;> try first | omega | (simp only [InR]; omega)
   rw [h1]; clear h1 Q1; simp only [zaE,zam])
  iterate 2 (
   refine zar fun Q1 h1 => ?_
   simp (maxSteps:=4000000) only [go_sem,AV.one,zae,zac,zad,zaq,zas,zab,czb,cza,↓reduceIte,zan,zaa,zao,onz,zdZ,e1,hv,ht]
   all_goals (repeat' first | (with_reducible first | rfl | apply And.intro | assumption) | ((with_reducible show zaf _ _ = true); rfl)) <;> try first | omega | (simp only [InR]; omega)
   rw [h1]; clear h1 Q1; simp only [zaE,zam])
  refine zar fun Q1 h1 => ?_
  simp (maxSteps:=4000000) only [go_sem,AV.one,zae,zac,zad,zaq,zas,zab,czb,cza,↓reduceIte,zan,zaa,zao,onz,zdZ,decide_true,decide_false]
  all_goals (repeat' first | (with_reducible first | rfl | apply And.intro | assumption) | ((with_reducible show zaf _ _ = true); rfl)) <;> try first | omega | (simp only [InR]; omega)
  rw [h1]; clear h1 Q1; simp only [zaE,zam]
  simp (maxSteps:=4000000) only [go_sem,AV.one,zae,zac,zad,zaq,zas,zab,czb,cza,↓reduceIte,zan,zaa,zao,onz,zdZ,decide_true,decide_false]
  all_goals exact auz
 have e1:=zto hv ht qh (by omega) (by omega)
 obtain ⟨⟨p1,hp1,hl1⟩,p2,hp2,hl2⟩:=ends_isB hv ht o (c:=(c:Int)) (by omega) (by omega)
 have hls:=zfM hv
 obtain ⟨hv',hLn,hLh⟩:=hls
 obtain ⟨H,hH⟩:∃ H,zfr y (zaV y) o c = H:=⟨_,rfl⟩
 rw [hH] at e1 hl1 hl2
 have hne:decide (((zaV y).length:Int) = 0) = false:=by
  have:=List.length_pos_iff.2 ht
  exact decide_eq_false (by omega)
 obtain ⟨L,hL⟩:∃ L,zaV y = L:=⟨_,rfl⟩
 rw [hL] at hp1 hp2 hLn hLh hne
 have hb1:L.any (fun p => decide ((((zdt y o p c).free.length:Nat):Int) = H.lo)) = true:=List.any_eq_true.2 ⟨p1,hp1,by simpa using hl1⟩
 have hb2:L.any (fun p => decide ((((zdt y o p c).free.length:Nat):Int) = H.hi)) = true:=List.any_eq_true.2 ⟨p2,hp2,by simpa using hl2⟩
 simp only [zbz]
 refine cpz zbX Tryz.func10 zaD ?_
 rw [Tryz.ntmps10]
 simp only [Tryz.f10,zag,zap]
 iterate 2 (
  refine zar fun Q1 h1 => ?_
  simp (maxSteps:=4000000) only [go_sem,AV.one,zae,zac,zad,zaq,zas,zab,czb,cza,↓reduceIte,zan,zaa,zao,onz,zdZ,c0,hn']
  all_goals (repeat' first | (with_reducible first | rfl | apply And.intro | assumption) | ((with_reducible show zaf _ _ = true); rfl)) <;> try first | omega | (simp only [InR]; omega)
  rw [h1]; clear h1 Q1; simp only [zaE,zam])
 iterate 2 (
  refine zar fun Q1 h1 => ?_
  simp (maxSteps:=4000000) only [go_sem,AV.one,zae,zac,zad,zaq,zas,zab,czb,cza,↓reduceIte,zan,zaa,zao,onz,zdZ,ec,hws,l4,hO]
  all_goals (repeat' first | (with_reducible first | rfl | apply And.intro | assumption) | ((with_reducible show zaf _ _ = true); rfl)) <;> try first | omega | (simp only [InR]; omega)
  rw [h1]; clear h1 Q1; simp only [zaE,zam])
 iterate 2 (
  refine zar fun Q1 h1 => ?_
  simp (maxSteps:=4000000) only [go_sem,AV.one,zae,zac,zad,zaq,zas,zab,czb,cza,↓reduceIte,zan,zaa,zao,onz,zdZ,e1,hv,hL]
  all_goals (repeat' first | (with_reducible first | rfl | apply And.intro | assumption) | ((with_reducible show zaf _ _ = true); rfl)) <;> try first | omega | (simp only [InR]; omega)
  rw [h1]; clear h1 Q1; simp only [zaE,zam])
 refine zar fun Q1 h1 => ?_
 simp (maxSteps:=4000000) only [go_sem,AV.one,zae,zac,zad,zaq,zas,zab,czb,cza,↓reduceIte,zan,zaa,zao,onz,zdZ,hne,decide_true,decide_false]
 all_goals (repeat' first | (with_reducible first | rfl | apply And.intro | assumption) | ((with_reducible show zaf _ _ = true); rfl)) <;> try first | omega | (simp only [InR]; omega)
 rw [h1]; clear h1 Q1; simp only [zaE,zam]
 refine zar fun Q1 h1 => ?_
 simp (maxSteps:=4000000) only [go_sem,AV.one,zae,zac,zad,zaq,zas,zab,czb,cza,↓reduceIte,zan,zaa,zao,onz,zdZ,decide_true,decide_false]
 all_goals (repeat' first | (with_reducible first | rfl | apply And.intro | assumption) | ((with_reducible show zaf _ _ = true); rfl)) <;> try first | omega | (simp only [InR]; omega)
 rw [h1]; clear h1 Q1; simp only [zaE,zam]
 simp (maxSteps:=4000000) only [go_sem,AV.one,zae,zac,zad,zaq,zas,zab,czb,cza,↓reduceIte,zan,zaa,zao,onz,zdZ,decide_true,decide_false]
 all_goals (repeat' first | (with_reducible first | rfl | apply And.intro | assumption) | ((with_reducible show zaf _ _ = true); rfl)) <;> try first | omega | (simp only [InR]; omega)
 refine zbv (L.length) [] [3,6,7,8,9,10,11] (fun i => [(14,.int .i64 i),(12,.bool ((L.take i).any (fun p => decide ((((zdt y o p c).free.length:Nat):Int) = H.lo)))),(13,.bool ((L.take i).any (fun p => decide ((((zdt y o p c).free.length:Nat):Int) = H.hi))))]) (fun _ m => m) (fun _ => True) ?_ ?_ ?_ ?_
 ·trivial
 ·simp [AV.bare,zal,zaN,zaS,zak,zat,zah,tokz1,lk,zab,za2,zdZ,-List.map_map]
 ·intro i hi _
  have hi':=czH.2 hi
  have hpre:=rpre hv (o:=o) ho4 (hLh _ (zbh hi)) (c:=(c:Int)) (by omega) (by omega)
  have hfb:=zrC y o (at_ L i) c
  have hhr:=hv.hrs
  have hs1:=zw8 (p:=fun p => decide ((((zdt y o p c).free.length:Nat):Int) = H.lo)) hi
  have hs2:=zw8 (p:=fun p => decide ((((zdt y o p c).free.length:Nat):Int) = H.hi)) hi
  obtain ⟨S,hS⟩:∃ S,zdt y o (at_ L i) c = S:=⟨_,rfl⟩
  rw [hS] at hfb hs1 hs2
  obtain ⟨a1,ha1⟩:∃ a1,(L.take i).any (fun p => decide ((((zdt y o p c).free.length:Nat):Int) = H.lo)) = a1:=⟨_,rfl⟩
  obtain ⟨a2,ha2⟩:∃ a2,(L.take i).any (fun p => decide ((((zdt y o p c).free.length:Nat):Int) = H.hi)) = a2:=⟨_,rfl⟩
  rw [ha1] at hs1
  rw [ha2] at hs2
  rw [ha1,ha2]
  cases a1 <;> cases a2
  all_goals
   simp (maxSteps:=4000000) only [go_sem,AV.one,zae,zac,zad,zaq,zas,zab,czb,cza,↓reduceIte,zan,zaa,zao,onz,zdZ,zax hi,hi',hS,hpre,Bool.false_or,Bool.true_or,decide_true,decide_false]
   all_goals (repeat' first | (with_reducible first | rfl | apply And.intro | assumption) | ((with_reducible show zaf _ _ = true); rfl)) <;> try first | omega | (simp only [InR]; omega)
   refine nxt hi trivial ?_
   simp [AV.bare,zal,zaN,zaS,zak,zat,zah,tokz1,lk,zab,za2,hs1,hs2,zdZ,-List.map_map]
 ·intro _
  simp (maxSteps:=4000000) only [go_sem,AV.one,zae,zac,zad,zaq,zas,zab,czb,cza,↓reduceIte,zan,zaa,zao,onz,zdZ,czm,hb1,hb2,czA,decide_true,decide_false]
  all_goals exact auz
end Go.Proofs
