/- The law DryLeft. -/
import Derived.Test.YtilbconikmpadaaGreatG23
import Derived.Test.YtilbconikmpadaaGreatCH52
set_option linter.all false
namespace Go.Proofs
open Go.Fs
set_option maxHeartbeats 4000000
set_option maxRecDepth 8000
theorem zwT (l:List Nat) (a:Nat):zj2 (l ++ [a]) = zj2 l ||| 2 ^ a:=by
 refine Nat.eq_of_testBit_eq fun k => ?_
 rw [Nat.testBit_or,zqu,zqu,Nat.testBit_two_pow,Bool.eq_iff_iff]
 simp
 constructor
 ·rintro (h | h)
  ·exact .inl h
  ·exact .inr h.symm
 ·rintro (h | h)
  ·exact .inl h
  ·exact .inr h.symm
theorem zwV (n b k:Nat):(2 ^ n - 1 - ((2 ^ n - 1) &&& b)).testBit k = (decide (k < n) && !b.testBit k):=by
 have h:2 ^ n - 1 - ((2 ^ n - 1) &&& b) = 2 ^ n - ((b % 2 ^ n) + 1):=by
  rw [Nat.and_comm,Nat.and_two_pow_sub_one_eq_mod]
  omega
 rw [h,Nat.testBit_two_pow_sub_succ (Nat.mod_lt _ (Nat.two_pow_pos n)),Nat.testBit_mod_two_pow]
 by_cases c:k < n <;> simp [c]
theorem zxf (y:Yd) (u:Int) (hu:InR .u8 u):zaQ Tryz.prog 17 [Enc.enc y,AV.int .u8 u] (· = Enc.enc true):=by
 cases c0:(ziC y && decide (za9 y = 0))
 ·simp only [zbz]
  refine cpz zbX Tryz.func17 zaD ?_
  rw [Tryz.ntmps17]
  simp only [Tryz.f17,zag,zap]
  iterate 2 (
   refine zar fun Q1 h1 => ?_
   simp (maxSteps:=4000000) only [go_sem,AV.one,zae,zac,zad,zaq,zas,zab,czb,cza,↓reduceIte,zan,zaa,zao,onz,zdZ,c0]
   all_goals (repeat' first | (with_reducible first | rfl | apply And.intro | assumption) | ((with_reducible show zaf _ _ = true); rfl)) <;> try first | omega | (simp only [InR]; omega)
   rw [h1]; clear h1 Q1; simp only [zaE,zam])
  simp (maxSteps:=4000000) only [go_sem,AV.one,zae,zac,zad,zaq,zas,zab,czb,cza,↓reduceIte,zan,zaa,zao,onz,zdZ]
  all_goals exact auz
 have c0':=c0
 simp only [czl,decide_eq_true_eq] at c0'
 have hv:=zg9 c0'.2
 obtain ⟨l1,l2,l3,l4,l5,l6⟩:=lens hv
 have hr5:=hv.r5
 have hr7:y.hires.length ≤ 7:=by omega
 obtain ⟨ls,hls,hle⟩:=zm8 (psY hv)
 have e1:=zxc hv
 rw [hls] at e1
 have hinc:=hle.inc
 have hlen:=inc_len hinc
 have hlc:(zcg ls).length = ls.length:=by simp [zcg]
 have hpn:=Nat.two_pow_pos y.hires.length
 have hpi:=zok y.hires.length (by omega)
 have hf:((2:Int) ^ y.hires.length - 1) = ((2 ^ y.hires.length - 1:Nat):Int):=by
  rw [show ((2:Int) ^ y.hires.length) = ((2 ^ y.hires.length:Nat):Int) by simp]; omega
 have hp32:2 ^ y.hires.length ≤ 32:=Nat.le_trans (Nat.pow_le_pow_right (by omega) hr5) (by decide)
 have hu0:0 ≤ u:=hu.1
 have hu1:u ≤ 255:=hu.2
 have hB:zj2 ls < 2 ^ y.hires.length:=zw1 fun x hx => (hinc.mem x hx).2
 obtain ⟨n',hn'⟩:∃ n',u.toNat &&& (2 ^ y.hires.length - 1) = n':=⟨_,rfl⟩
 have hn2:n' < 2 ^ y.hires.length:=by
  rw [← hn',Nat.and_two_pow_sub_one_eq_mod]
  exact Nat.mod_lt _ hpn
 have hand1:(2 ^ y.hires.length - 1) &&& zj2 ls ≤ 2 ^ y.hires.length - 1:=Nat.and_le_left
 have hand2:(2 ^ y.hires.length - 1) &&& n' ≤ 2 ^ y.hires.length - 1:=Nat.and_le_left
 have t1:zaV (zwR y ((2 ^ y.hires.length - 1 - ((2 ^ y.hires.length - 1) &&& zj2 ls):Nat):Int)) ≠ []:=by
  rw [zwS]
  obtain ⟨p,hp,hr⟩:=hle.poss
  refine ⟨p,hp,fun k hk hb => hr k hk ?_⟩
  rw [zw6,zwV,zqu] at hb
  simp [hk] at hb
  exact hb
 obtain ⟨G,hG⟩:∃ G,2 ^ y.hires.length - 1 = G:=⟨_,rfl⟩
 rw [hG] at hf hn' hand1 hand2 t1
 have hv1:=zw5 hv ((G - ((G) &&& zj2 ls):Nat):Int)
 have hv2:=zw5 hv ((G - ((G) &&& n'):Nat):Int)
 have e2:=zwU hv1 t1 (zwQ _)
 obtain ⟨a1,a2,a3,a4,a5,a6⟩:=lens hv1
 obtain ⟨b1,b2,b3,b4,b5,b6⟩:=lens hv2
 have q1:BOk ((G - ((G) &&& zj2 ls):Nat):Int):=⟨by omega,by omega⟩
 have q2:BOk ((G - ((G) &&& n'):Nat):Int):=⟨by omega,by omega⟩
 have q3:BOk (n':Int):=⟨by omega,by omega⟩
 have q4:(G - ((G) &&& zj2 ls):Nat) ≤ 511:=by omega
 have q5:(G - ((G) &&& n'):Nat) ≤ 511:=by omega
 have hbl:=zkU (b:=n') (by omega)
 have hbl8:(zlt n').length ≤ 4096:=by omega
 have hcast:∀ i,i < y.hires.length → (n'.testBit i = true ↔ i ∈ zeK n' y.hires.length):=fun i hi => by
  unfold zeK; rw [List.mem_filter,List.mem_range]; simp [hi]
 have hbits:=zmo hn2
 have key:(zha (zwR y ((G - ((G) &&& n'):Nat):Int)) []).c = 11 ∨ (zha (zwR y ((G - ((G) &&& n'):Nat):Int)) []).c = 0 ∧ zcy (zlt n') (zcg ls) = false:=by
  by_cases z:zaV (zwR y ((G - ((G) &&& n'):Nat):Int)) = []
  ·exact .inl (by rw [zw3 hv2 z (zwQ _)])
  ·refine .inr ⟨by rw [zwU hv2 z (zwQ _)],?_⟩
   obtain ⟨p,hp,hr⟩:=zwS.1 z
   rw [hbits]
   refine hle.least _ (zlT _ _) ⟨p,hp,fun k hk hb => hr k hk ?_⟩
   rw [zw6,← hG,zwV]
   have:=hcast k hk
   cases e:n'.testBit k
   ·simp [hk]
   ·exact absurd (this.1 e) hb
 obtain ⟨Y1,hY1⟩:∃ Y1,zwR y ((G - ((G) &&& zj2 ls):Nat):Int) = Y1:=⟨_,rfl⟩
 obtain ⟨Y2,hY2⟩:∃ Y2,zwR y ((G - ((G) &&& n'):Nat):Int) = Y2:=⟨_,rfl⟩
 have ax:=(⟨a1,a2,a3,a4,a5,a6⟩:Lens _)
 have bx:=(⟨b1,b2,b3,b4,b5,b6⟩:Lens _)
 rw [hY1] at e2 ax
 rw [hY2] at key bx
 obtain ⟨c1,c2,c3,c4,c5,c6⟩:=ax
 obtain ⟨d1,d2,d3,d4,d5,d6⟩:=bx
 obtain ⟨W2,hW2⟩:∃ W2,zha Y2 [] = W2:=⟨_,rfl⟩
 rw [hW2] at key
 simp only [zbz]
 refine cpz zbX Tryz.func17 zaD ?_
 rw [Tryz.ntmps17]
 simp only [Tryz.f17,zag,zap]
 iterate 2 (
  refine zar fun Q1 h1 => ?_
  simp (maxSteps:=4000000) only [go_sem,AV.one,zae,zac,zad,zaq,zas,zab,czb,cza,↓reduceIte,zan,zaa,zao,onz,zdZ,c0]
  all_goals (repeat' first | (with_reducible first | rfl | apply And.intro | assumption) | ((with_reducible show zaf _ _ = true); rfl)) <;> try first | omega | (simp only [InR]; omega)
  rw [h1]; clear h1 Q1; simp only [zaE,zam])
 iterate 2 (
  refine zar fun Q1 h1 => ?_
  simp (maxSteps:=4000000) only [go_sem,AV.one,zae,zac,zad,zaq,zas,zab,czb,cza,↓reduceIte,zan,zaa,zao,onz,zdZ,e1]
  all_goals (repeat' first | (with_reducible first | rfl | apply And.intro | assumption) | ((with_reducible show zaf _ _ = true); rfl)) <;> try first | omega | (simp only [InR]; omega)
  rw [h1]; clear h1 Q1; simp only [zaE,zam])
 refine zar fun Q1 h1 => ?_
 simp (maxSteps:=4000000) only [go_sem,AV.one,zae,zac,zad,zaq,zas,zab,czb,cza,↓reduceIte,zan,zaa,zao,onz,zdZ,decide_true,decide_false]
 all_goals (repeat' first | (with_reducible first | rfl | apply And.intro | assumption) | ((with_reducible show zaf _ _ = true); rfl)) <;> try first | omega | (simp only [InR]; omega)
 rw [h1]; clear h1 Q1; simp only [zaE,zam]
 simp (maxSteps:=4000000) only [go_sem,AV.one,zae,zac,zad,zaq,zas,zab,czb,cza,↓reduceIte,zan,zaa,zao,onz,zdZ,decide_true,decide_false]
 all_goals (repeat' first | (with_reducible first | rfl | apply And.intro | assumption) | ((with_reducible show zaf _ _ = true); rfl)) <;> try first | omega | (simp only [InR]; omega)
 refine zbv (ls.length) [] [1,2,4,5] (fun i => [(8,.int .i64 i),(7,.int .i64 ((zj2 (ls.take i):Nat):Int))]) (fun _ m => m) (fun _ => True) ?_ ?_ ?_ ?_
 ·trivial
 ·simp [AV.bare,zal,zaN,zaS,zak,zat,zah,tokz1,lk,zab,za2,zj2,zdZ,-List.map_map]
 ·intro i hi _
  have hi':=czH.2 hi
  have hg:((zcg ls).map EncE.cs).getD i [] = [AV.int .i64 ((at_ ls i:Nat):Int)]:=by
   rw [zax (by omega)]
   simp [zcg,at_,hi,zel]
  have hx:=hinc.mem _ (zbh hi)
  have hin:inB ((at_ ls i:Nat):Int) 0 ((y.hires.length:Int) - 1) = true:=(zbJ _ _ _).2 ⟨by omega,by omega⟩
  have hk:=zok (at_ ls i) (by omega)
  have hk2:((2:Int) ^ (at_ ls i)).toNat = 2 ^ (at_ ls i):=by
   rw [show ((2:Int) ^ (at_ ls i)) = ((2 ^ (at_ ls i):Nat):Int) by simp]; exact czF _
  have hb:zj2 (ls.take i) < 2 ^ y.hires.length:=zw1 fun x hx => (hinc.mem x (List.mem_of_mem_take hx)).2
  by_cases z:i = 0
  ·subst z
   have hi0:(0:Int) < (ls.length:Int):=by omega
   simp (maxSteps:=4000000) only [go_sem,AV.one,zae,zac,zad,zaq,zas,zab,czb,cza,↓reduceIte,zan,zaa,zao,onz,zdZ,hlc,hi0,hg,hin,hk2,zmp,Int.one_mul,czA,decide_true,decide_false,show ((0:Int) - 1).toNat = 0 from rfl]
   all_goals (repeat' first | (with_reducible first | rfl | apply And.intro | assumption) | ((with_reducible show zaf _ _ = true); rfl)) <;> try first | omega | (simp only [InR]; omega)
   ·simp [InR,zj2]
   refine nxt hi trivial ?_
   simp [AV.bare,zal,zaN,zaS,zak,zat,zah,tokz1,lk,zab,za2,zaW hi,zwT,zdZ,-List.map_take,-List.map_map]
   rw [show [at_ ls 0] = [] ++ [at_ ls 0] from rfl,zwT]
  ·have z':(0:Int) < i:=by omega
   have e3:((i:Int) - 1).toNat = i - 1:=by omega
   have hg2:((zcg ls).map EncE.cs).getD (i - 1) [] = [AV.int .i64 ((at_ ls (i - 1):Nat):Int)]:=by
    rw [zax (by omega)]
    simp [zcg,at_,show i - 1 < ls.length by omega,zel]
   have hm:at_ ls (i - 1) < at_ ls i:=by
    have:=List.pairwise_iff_getElem.1 hinc.pair (i - 1) i (by omega) hi (by omega)
    rwa [zdm (by omega),zdm hi]
   have hm2:¬ (((at_ ls i:Nat):Int) ≤ ((at_ ls (i - 1):Nat):Int)):=by omega
   simp (maxSteps:=4000000) only [go_sem,AV.one,zae,zac,zad,zaq,zas,zab,czb,cza,↓reduceIte,zan,zaa,zao,onz,zdZ,hlc,hi',z',e3,hg,hg2,hm2,hin,hk2,zmp,Int.one_mul,decide_true,decide_false]
   all_goals (repeat' first | (with_reducible first | rfl | apply And.intro | assumption) | ((with_reducible show zaf _ _ = true); rfl)) <;> try first | omega | (simp only [InR]; omega)
   refine nxt hi trivial ?_
   simp [AV.bare,zal,zaN,zaS,zak,zat,zah,tokz1,lk,zab,za2,zaW hi,zwT,zdZ,-List.map_take,-List.map_map]
 ·intro _
  iterate 2 (
   refine zar fun Q1 h1 => ?_
   simp (maxSteps:=4000000) only [go_sem,AV.one,zae,zac,zad,zaq,zas,zab,czb,cza,↓reduceIte,zan,zaa,zao,onz,zdZ,hlc,czm,hf,czF,hn',zmp,czA,decide_true,decide_false]
   all_goals (repeat' first | (with_reducible first | rfl | apply And.intro | assumption) | ((with_reducible show zaf _ _ = true); rfl)) <;> try first | omega | (simp only [InR]; omega)
   rw [h1]; clear h1 Q1; simp only [zaE,zam])
  refine zar fun Q1 h1 => ?_
  simp (maxSteps:=4000000) only [go_sem,AV.one,zae,zac,zad,zaq,zas,zab,czb,cza,↓reduceIte,zan,zaa,zao,onz,zdZ,hf,zmp,czF,hY1,e2]
  all_goals (repeat' first | (with_reducible first | rfl | apply And.intro | assumption) | ((with_reducible show zaf _ _ = true); rfl)) <;> try first | omega | (simp only [InR]; omega)
  rw [h1]; clear h1 Q1; simp only [zaE,zam]
  refine zar fun Q1 h1 => ?_
  simp (maxSteps:=4000000) only [go_sem,AV.one,zae,zac,zad,zaq,zas,zab,czb,cza,↓reduceIte,zan,zaa,zao,onz,zdZ,hf,zmp,czF,hn',hY2,hW2]
  all_goals (repeat' first | (with_reducible first | rfl | apply And.intro | assumption) | ((with_reducible show zaf _ _ = true); rfl)) <;> try first | omega | (simp only [InR]; omega)
  rw [h1]; clear h1 Q1; simp only [zaE,zam]
  rcases key with k1 | ⟨k1,k2⟩
  ·simp (maxSteps:=4000000) only [go_sem,AV.one,zae,zac,zad,zaq,zas,zab,czb,cza,↓reduceIte,zan,zaa,zao,onz,zdZ,k1,decide_true,decide_false]
   all_goals exact auz
  ·simp (maxSteps:=4000000) only [go_sem,AV.one,zae,zac,zad,zaq,zas,zab,czb,cza,↓reduceIte,zan,zaa,zao,onz,zdZ,k1,k2,decide_true,decide_false]
   all_goals exact auz
end Go.Proofs
