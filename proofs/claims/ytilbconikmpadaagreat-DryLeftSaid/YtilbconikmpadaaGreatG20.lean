/- The texts H40, H41, H42, H43, joined. -/
import Derived.Test.YtilbconikmpadaaGreatG18
set_option linter.all false
namespace Go.Proofs
open Go.Fs
set_option maxHeartbeats 4000000
set_option maxRecDepth 8000
theorem rpre {y:Yd} (hv:VY y) {o hs:List Int} (ho:o.length ≤ 4096) (hl:hs.length = hrs y) {c:Int} (h0:0 ≤ c) (h1:c < y.chairs.length):RPre y o hs c:=by
 have hh:=hv.hrs
 exact ⟨ho,⟨hv.h0,hv.h5⟩,by omega,by omega,⟨h0,h1⟩,(hv.at h0 h1).2⟩
theorem zu0 (y:Yd) (o hs:List Int) (c:Int) (h:RPre y o hs c):zaQ Tryz.prog 30 [Enc.enc y,Enc.enc o,Enc.enc hs,Enc.enc c] (· = Enc.enc (zdt y o hs c)):=by
 have hp:=h
 obtain ⟨ho,hd,h10,hl,hc,hch,_,hro⟩:=hp
 obtain ⟨n,hn⟩:∃ n,hrs y = n:=⟨_,rfl⟩
 have hnl:(n:Int) = y.t.last + 1:=by rw [← hn]; unfold hrs; omega
 obtain ⟨W,hW⟩:∃ W,zmz y o hs c = W:=⟨_,rfl⟩
 obtain ⟨R,hR⟩:∃ R,zlg y o hs c = R:=⟨_,rfl⟩
 obtain ⟨H,hH⟩:∃ H,(at_ y.chairs c.toNat).hours = H:=⟨_,rfl⟩
 have hcan:∀ k:Nat,zkN y o hs c k = zqq W R H k:=fun k => by unfold zkN; rw [hW,hR,hH]
 have hpl:zdt y o hs c = ⟨znn W n,(R:Int),zeZ W R H n⟩:=by
  have:zdt y o hs c = ⟨znn (zmz y o hs c) (hrs y),(zlg y o hs c:Int),zeZ (zmz y o hs c) (zlg y o hs c) (at_ y.chairs c.toNat).hours (hrs y)⟩:=rfl
  rw [this,hW,hR,hH,hn]
 rw [hpl]
 simp only [zbz]
 refine cpz zla Tryz.func30 zaD ?_
 rw [Tryz.ntmps30]
 simp only [Tryz.f30,zag,zap]
 simp (maxSteps:=4000000) only [go_sem,AV.one,zae,zac,zad,zaq,zas,zab,czb,cza,↓reduceIte,zaa,zao,onz,h,hR]
 all_goals (repeat' first | (with_reducible first | rfl | apply And.intro | assumption) | ((with_reducible show zaf _ _ = true); rfl)) <;> try first | omega | (simp only [InR]; omega)
 refine zbv (n) [.cell 2 2 1] [1,2,3,4,8,9] (fun k => [(10,.int .i64 k)]) (fun k m => (m.set 2 (.cells [.int .i64 (znn W k),.int .i64 R,.sl ((zeZ W R H k).map EncE.cs) (.own 3)])).set 3 (.tok (zeZ W R H k).length 1)) (fun _ => True) ?_ ?_ ?_ ?_
 ·trivial
 ·simp [AV.bare,zal,zaN,zaS,zak,zat,zah,tokz1,lk,zab,za2,znn,zeZ]
 ·intro k hk _
  have hk':decide ((k:Int) ≤ y.t.last) = true:=by simp; omega
  have hkl:(k:Int) < hs.length:=by omega
  have hfl:=zim W R H k
  have hcb:=cntW_bd W k
  have hcs:=zo3 W k
  have hfs:=zl8 W R H k
  have hck:=hcan k
  cases d:W k <;> cases d2:zqq W R H k
  all_goals
   rw [d2] at hck
   rw [d] at hcs
   rw [d2] at hfs
   simp only [czp,if_false,if_true] at hcs hfs
   simp (maxSteps:=4000000) only [go_sem,AV.one,zae,zac,zad,zaq,zas,zab,czb,cza,↓reduceIte,zaa,zao,onz,h,hW,hck,d,hk',hkl]
   all_goals (repeat' first | (with_reducible first | rfl | apply And.intro | assumption) | ((with_reducible show zaf _ _ = true); rfl)) <;> try first | omega | (simp only [InR]; omega)
   refine nxt hk trivial ?_
   simp [AV.bare,zal,zaN,zaS,zak,zat,zah,tokz1,lk,zab,za2,hcs,hfs]
 ·intro _
  have hk':decide ((n:Int) ≤ y.t.last) = false:=by simp; omega
  simp (maxSteps:=4000000) only [go_sem,AV.one,zae,zac,zad,zaq,zas,zab,czb,cza,↓reduceIte,zaa,zao,onz,hk']
  all_goals exact auz
theorem zu2 (y:Yd) (h:y.hires.length ≤ 7):zaQ Tryz.prog 62 [Enc.enc y] (· = Enc.enc (2 ^ y.hires.length - 1:Int)):=by
 have:=zok y.hires.length (by omega)
 simp only [zbz]
 refine cpz zla Tryz.func62 zaD ?_
 rw [Tryz.ntmps62]
 simp only [Tryz.f62,zag,zap]
 simp (maxSteps:=4000000) only [go_sem,AV.one,zae,zac,zad,zaq,zas,zab,czb,cza,↓reduceIte,zaa,zao,onz,Int.one_mul,zmp]
 all_goals exact auz
theorem rbp_bd (p:Nat → Bool) (n:Nat) (h:n ≤ 8):rbp p n < 256:=by
 have h1:=rbp_lt p n
 have h2:2 ^ n ≤ 2 ^ 8:=Nat.pow_le_pow_right (by omega) h
 omega
theorem zq4 (y:Yd) (hs:List Int) (h:VY y ∧ hs.length = hrs y):zaQ Tryz.prog 86 [Enc.enc y,Enc.enc hs] (· = Enc.enc (znp y hs:Int)):=by
 obtain ⟨hv,hl⟩:=h
 have hr5:=hv.r5
 have hh:=hv.hrs
 have ho:y.order.length ≤ 4096:=by have:=zcY hv.ord; have:=hv.c5; omega
 simp only [zbz]
 refine cpz zla Tryz.func86 zaD ?_
 rw [Tryz.ntmps86]
 simp only [Tryz.f86,zag,zap]
 simp (maxSteps:=4000000) only [go_sem,AV.one,zae,zac,zad,zaq,zas,zab,czb,cza,↓reduceIte,zaa,zao,onz]
 refine zbv (y.hires.length) [] [1,2,4] (fun i => [(6,.int .i64 i),(5,.int .i64 (rbp (zcX y hs) i:Nat))]) (fun _ m => m) (fun _ => True) ?_ ?_ ?_ ?_
 ·trivial
 ·simp [AV.bare,zal,zaN,zaS,zak,zat,zah,tokz1,lk,zab,za2,rbp]
 ·intro k hk _
  have hi:=hv.hi _ (zbh hk)
  have hp:=zok k (by omega)
  have hb:=rbp_bd (zcX y hs) k (by omega)
  have hpn:=pow_nat k
  have hpre:=rpre hv ho hl hi.1.1 hi.1.2
  have hkl:(at_ y.hires k).hi < hs.length:=by omega
  have hr:zcX y hs k = zkN y y.order hs (at_ y.hires k).lo (at_ y.hires k).hi.toNat:=rfl
  cases c:zcX y hs k
  all_goals
   rw [c] at hr
   simp (maxSteps:=4000000) only [go_sem,AV.one,zae,zac,zad,zaq,zas,zab,czb,cza,↓reduceIte,zaa,zao,onz,zax hk,czH.2 hk,← hr,hpre,hi.2.1,hkl,pow_nat,zmp]
   all_goals (repeat' first | (with_reducible first | rfl | apply And.intro | assumption) | ((with_reducible show zaf _ _ = true); rfl)) <;> try first | omega | (simp only [InR]; omega)
   refine nxt hk trivial ?_
   simp [AV.bare,zal,zaN,zaS,zak,zat,zah,tokz1,lk,zab,za2,rbp,c]
 ·intro _
  simp (maxSteps:=4000000) only [go_sem,AV.one,zae,zac,zad,zaq,zas,zab,czb,cza,↓reduceIte,zaa,zao,onz,czA,decide_false]
  all_goals (repeat' first | (with_reducible first | rfl | apply And.intro | assumption) | ((with_reducible show zaf _ _ = true); rfl)) <;> try first | omega | (simp only [InR]; omega)
  rfl
def P146 (g:FuncId):=(zaw 30 (zjm (fun (y:Yd) (o hs:List Int) (c:Int) => RPre y o hs c) zdt) (zaw 62 (zct (fun y:Yd => y.hires.length ≤ 7) (fun y => (2 ^ y.hires.length - 1:Int))) (zaw 86 (zbC (fun (y:Yd) (hs:List Int) => VY y ∧ hs.length = hrs y) (fun y hs => ((znp y hs:Nat):Int))) (P145))):zaL) g
theorem zk9:zaC Tryz.prog P146:=zaj (zer zu0) (zaj (zbf zu2) (zaj (zaM zq4) (zla)))
theorem zpE (d:Option Nat):zaI P146 d = none:=(zai (by decide) d).trans ((zai (by decide) d).trans ((zai (by decide) d).trans (zlb d)))
attribute [go_sem] P146 zpE
theorem zhG {y:Yd} (hv:VY y):HOk y.t ∧ MOk y.t:=⟨hv.fok.vok.hok,hv.fok.vok.mok⟩
theorem zvp {y:Yd} (hv:VY y) {hs:List Int} (h:za4 y.t hs = true):hs.length = hrs y:=by
 have h1:=zbI h
 have h2:=hv.fok.len
 have h3:=hv.hrs.1
 omega
theorem bits_eq (y:Yd) (hs:List Int):decide (((znp y hs:Nat):Int) = (2 ^ y.hires.length - 1:Int)) = zc7 y hs:=bits_full y hs
theorem zq3 (y:Yd) (hs:List Int) (h:VY y ∧ hs.length ≤ 4096):zaQ Tryz.prog 27 [Enc.enc y,Enc.enc hs] (· = Enc.enc (ze6 y hs)):=by
 obtain ⟨hv,hl⟩:=h
 have hr5:=hv.r5
 have h1:=(zhG hv).1
 have h2:=(zhG hv).2
 unfold ze6
 cases c:zby y.t hs
 ·simp only [zbz]
  refine cpz zk9 Tryz.func27 zaD ?_
  rw [Tryz.ntmps27]
  simp only [Tryz.f27,zag,zap]
  simp (maxSteps:=4000000) only [go_sem,AV.one,zae,zac,zad,zaq,zas,zab,czb,cza,↓reduceIte,zaa,zao,onz,c]
  all_goals exact auz
 ·have hli:za4 y.t hs = true:=by unfold zby at c; simp only [czl] at c; exact c.1
  have hlh:=zvp hv hli
  have hb:=bits_eq y hs
  simp only [zbz]
  refine cpz zk9 Tryz.func27 zaD ?_
  rw [Tryz.ntmps27]
  simp only [Tryz.f27,zag,zap]
  simp (maxSteps:=4000000) only [go_sem,AV.one,zae,zac,zad,zaq,zas,zab,czb,cza,↓reduceIte,zaa,zao,onz,c,hb]
  all_goals exact auz
def znx (y:Yd) (n:Nat):List Int:=((zaJ y.t).take n).map fun hs => (znp y hs:Int)
theorem zwg (y:Yd) (i:Nat) (h:i < (zaJ y.t).length):znx y (i + 1) = znx y i ++ [(znp y (at_ (zaJ y.t) i):Int)]:=by
 unfold znx; rw [zaW h,List.map_append]; rfl
theorem allYN_len (y:Yd) (i:Nat) (h:i ≤ (zaJ y.t).length):(znx y i).length = i:=by simp [znx]; omega
theorem rAll_call (y:Yd) (h:VY y):zaQ Tryz.prog 46 [Enc.enc y] (· = Enc.enc (zny y)):=by
 have h1:=(zhG h).1
 have h2:=(zhG h).2
 have htl:=zhj h.fok.vok
 simp only [zbz]
 refine cpz zk9 Tryz.func46 zaD ?_
 rw [Tryz.ntmps46]
 simp only [Tryz.f46,zag,zap]
 simp (maxSteps:=4000000) only [go_sem,AV.one,zae,zac,zad,zaq,zas,zab,czb,cza,↓reduceIte,zaa,zao,onz]
 all_goals (repeat' first | (with_reducible first | rfl | apply And.intro | assumption) | ((with_reducible show zaf _ _ = true); rfl)) <;> try first | omega | (simp only [InR]; omega)
 refine zbv ((zaJ y.t).length) [.slot 3 1] [1,2,4] (fun i => [(5,.int .i64 i),(3,.sl ((znx y i).map EncE.cs) (.own 1))]) (fun i m => m.set 1 (.tok (znx y i).length 1)) (fun _ => True) ?_ ?_ ?_ ?_
 ·trivial
 ·simp [AV.bare,zal,zaN,zaS,zak,zat,zah,tokz1,lk,zab,za2,znx]
 ·intro i hi _
  have hlh:=zee h (zbh hi)
  have hal:=allYN_len y i (by omega)
  have hb:=rbp_bd (zcX y (at_ (zaJ y.t) i)) y.hires.length (by have:=h.r5; omega)
  simp (maxSteps:=4000000) only [go_sem,AV.one,zae,zac,zad,zaq,zas,zab,czb,cza,↓reduceIte,zaa,zao,onz,zax hi,czH.2 hi,hal,h,hlh]
  all_goals (repeat' first | (with_reducible first | rfl | apply And.intro | assumption) | ((with_reducible show zaf _ _ = true); rfl)) <;> try first | omega | (simp only [InR]; omega)
  refine nxt hi trivial ?_
  simp [AV.bare,zal,zaN,zaS,zak,zat,zah,tokz1,lk,zab,za2,zwg y i hi,hal]
 ·intro _
  simp (maxSteps:=4000000) only [go_sem,AV.one,zae,zac,zad,zaq,zas,zab,czb,cza,↓reduceIte,zaa,zao,onz,czA,decide_false]
  all_goals (repeat' first | (with_reducible first | rfl | apply And.intro | assumption) | ((with_reducible show zaf _ _ = true); rfl)) <;> try first | omega | (simp only [InR]; omega)
  unfold znx zny
  rw [czm]
theorem zog (y:Yd) (h:VY y):zaQ Tryz.prog 56 [Enc.enc y] (· = Enc.enc (zaV y)):=by
 have h1:=(zhG h).1
 have h2:=(zhG h).2
 have htl:=zhj h.fok.vok
 have hr5:=h.r5
 simp only [zbz]
 refine cpz zk9 Tryz.func56 zaD ?_
 rw [Tryz.ntmps56]
 simp only [Tryz.f56,zag,zap]
 simp (maxSteps:=4000000) only [go_sem,AV.one,zae,zac,zad,zaq,zas,zab,czb,cza,↓reduceIte,zaa,zao,onz]
 all_goals (repeat' first | (with_reducible first | rfl | apply And.intro | assumption) | ((with_reducible show zaf _ _ = true); rfl)) <;> try first | omega | (simp only [InR]; omega)
 refine zbv ((zaJ y.t).length) [.slot 3 1] [1,2,4] (fun i => [(5,.int .i64 i),(3,.sl ((((zaJ y.t).take i).filter (zc7 y)).map EncE.cs) (.own 1))]) (fun i m => m.set 1 (.tok (((zaJ y.t).take i).filter (zc7 y)).length 1)) (fun _ => True) ?_ ?_ ?_ ?_
 ·trivial
 ·simp [AV.bare,zal,zaN,zaS,zak,zat,zah,tokz1,lk,zab,za2]
 ·intro i hi _
  have hlh:=zee h (zbh hi)
  have hf:=List.length_filter_le (zc7 y) ((zaJ y.t).take i)
  have hf2:((zaJ y.t).take i).length ≤ 3000:=by simp; omega
  have hb:=bits_eq y (at_ (zaJ y.t) i)
  cases c:zc7 y (at_ (zaJ y.t) i)
  all_goals
   rw [c] at hb
   simp (maxSteps:=4000000) only [go_sem,AV.one,zae,zac,zad,zaq,zas,zab,czb,cza,↓reduceIte,zaa,zao,onz,zax hi,czH.2 hi,h,hr5,hlh,hb]
   all_goals (repeat' first | (with_reducible first | rfl | apply And.intro | assumption) | ((with_reducible show zaf _ _ = true); rfl)) <;> try first | omega | (simp only [InR]; omega)
   refine nxt hi trivial ?_
   simp [AV.bare,zal,zaN,zaS,zak,zat,zah,tokz1,lk,zab,za2,zhy hi,c]
 ·intro _
  simp (maxSteps:=4000000) only [go_sem,AV.one,zae,zac,zad,zaq,zas,zab,czb,cza,↓reduceIte,zaa,zao,onz,czm,czA,decide_false]
  all_goals (repeat' first | (with_reducible first | rfl | apply And.intro | assumption) | ((with_reducible show zaf _ _ = true); rfl)) <;> try first | omega | (simp only [InR]; omega)
  rfl
def P147 (g:FuncId):=(zaw 27 (zbC (fun (y:Yd) (hs:List Int) => VY y ∧ hs.length ≤ 4096) ze6) (zaw 46 (zct VY zny) (zaw 56 (zct VY zaV) (P146))):zaL) g
theorem zgN:zaC Tryz.prog P147:=zaj (zaM zq3) (zaj (zbf rAll_call) (zaj (zbf zog) (zk9)))
theorem zpD (d:Option Nat):zaI P147 d = none:=(zai (by decide) d).trans ((zai (by decide) d).trans ((zai (by decide) d).trans (zpE d)))
attribute [go_sem] P147 zpD
theorem zq9 (y:Yd) (h:y.t.heights.length ≤ 4096 ∧ y.order.length ≤ 4096):zaQ Tryz.prog 78 [Enc.enc y] (· = Enc.enc (za9 y)):=by
 obtain ⟨h1,h2⟩:=h
 unfold za9
 by_cases a1:(5:Int) < y.chairs.length
 ·rw [if_pos (.inl (by omega))]
  simp only [zbz]
  refine cpz zgN Tryz.func78 zaD ?_
  rw [Tryz.ntmps78]
  simp only [Tryz.f78,zag,zap]
  simp (maxSteps:=4000000) only [go_sem,AV.one,zae,zac,zad,zaq,zas,zab,czb,cza,↓reduceIte,zaa,zao,onz,gt_iff_lt,a1,decide_true]
  all_goals exact auz
 have a1':decide ((5:Int) < y.chairs.length) = false:=decide_eq_false a1
 by_cases a2:(5:Int) < y.hires.length
 ·rw [if_pos (.inr (by omega))]
  simp only [zbz]
  refine cpz zgN Tryz.func78 zaD ?_
  rw [Tryz.ntmps78]
  simp only [Tryz.f78,zag,zap]
  simp (maxSteps:=4000000) only [go_sem,AV.one,zae,zac,zad,zaq,zas,zab,czb,cza,↓reduceIte,zaa,zao,onz,gt_iff_lt,a1',a2,decide_true]
  all_goals exact auz
 have a2':decide ((5:Int) < y.hires.length) = false:=decide_eq_false a2
 rw [if_neg (by omega)]
 by_cases c:zbp y.t = 0
 case neg =>
  rw [if_pos c]
  simp only [zbz]
  refine cpz zgN Tryz.func78 zaD ?_
  rw [Tryz.ntmps78]
  simp only [Tryz.f78,zag,zap]
  simp (maxSteps:=4000000) only [go_sem,AV.one,zae,zac,zad,zaq,zas,zab,czb,cza,↓reduceIte,zaa,zao,onz,gt_iff_lt,a1',a2',c,decide_false]
  all_goals exact auz
 rw [if_neg (by simp [c])]
 have hok:=(zcR c).hok
 have hmk:=(zcR c).mok
 by_cases tr:zaJ y.t = []
 ·rw [if_pos tr]
  have e0:decide (((zaJ y.t).length:Int) = 0) = true:=by rw [tr]; rfl
  simp only [zbz]
  refine cpz zgN Tryz.func78 zaD ?_
  rw [Tryz.ntmps78]
  simp only [Tryz.f78,zag,zap]
  simp (maxSteps:=4000000) only [go_sem,AV.one,zae,zac,zad,zaq,zas,zab,czb,cza,↓reduceIte,zaa,zao,onz,gt_iff_lt,a1',a2',c,e0,decide_true,decide_false]
  all_goals exact auz
 rw [if_neg tr]
 have e0:decide (((zaJ y.t).length:Int) = 0) = false:=by
  have:=List.length_pos_iff.2 tr
  simp; omega
 cases d1:inB y.hands 0 5
 ·rw [Bool.false_and,if_pos rfl]
  simp only [zbz]
  refine cpz zgN Tryz.func78 zaD ?_
  rw [Tryz.ntmps78]
  simp only [Tryz.f78,zag,zap]
  simp (maxSteps:=4000000) only [go_sem,AV.one,zae,zac,zad,zaq,zas,zab,czb,cza,↓reduceIte,zaa,zao,onz,gt_iff_lt,a1',a2',c,e0,d1,decide_true,decide_false]
  all_goals exact auz
 cases d2:zaG y.chairs.length y.order
 ·rw [Bool.and_false,if_pos rfl]
  simp only [zbz]
  refine cpz zgN Tryz.func78 zaD ?_
  rw [Tryz.ntmps78]
  simp only [Tryz.f78,zag,zap]
  simp (maxSteps:=4000000) only [go_sem,AV.one,zae,zac,zad,zaq,zas,zab,czb,cza,↓reduceIte,zaa,zao,onz,gt_iff_lt,a1',a2',c,e0,d1,d2,decide_true,decide_false]
  all_goals exact auz
 rw [Bool.and_self,if_neg (by simp)]
 simp only [zbz]
 refine cpz zgN Tryz.func78 zaD ?_
 rw [Tryz.ntmps78]
 simp only [Tryz.f78,zag,zap]
 simp (maxSteps:=4000000) only [go_sem,AV.one,zae,zac,zad,zaq,zas,zab,czb,cza,↓reduceIte,zaa,zao,onz,gt_iff_lt,a1',a2',c,e0,d1,d2,decide_true,decide_false]
 all_goals (repeat' first | (with_reducible first | rfl | apply And.intro | assumption) | ((with_reducible show zaf _ _ = true); rfl)) <;> try first | omega | (simp only [InR]; omega)
 refine zbv (y.chairs.length) [] [1,2] (fun i => [(4,.int .i64 i)]) (fun _ m => m) (fun i => (y.chairs.take i).all (zdk y.t) = true) ?_ ?_ ?_ ?_
 ·simp
 ·simp [AV.bare,zal,zaN,zaS,zak,zat,zah,tokz1,lk,zab,za2]
 ·intro i hi hI
  have hi':=czH.2 hi
  have hc:zdk y.t (at_ y.chairs i) = (inB (at_ y.chairs i).row 0 ((y.t.levels.length:Int) - 1) && inB (at_ y.chairs i).hours 0 5 && inB (at_ y.chairs i).rot 1 9):=rfl
  have hlv:=(zcR c).lv
  cases b1:inB (at_ y.chairs i).row 0 ((y.t.levels.length:Int) - 1)
  ·rw [b1,Bool.false_and,Bool.false_and] at hc
   simp (maxSteps:=4000000) only [go_sem,AV.one,zae,zac,zad,zaq,zas,zab,czb,cza,↓reduceIte,zaa,zao,onz,hi',zax hi,b1,decide_true,decide_false]
   all_goals (repeat' first | (with_reducible first | rfl | apply And.intro | assumption) | ((with_reducible show zaf _ _ = true); rfl)) <;> try first | omega | (simp only [InR]; omega)
   rw [if_pos (zf5 hi hc)]
  cases b2:inB (at_ y.chairs i).hours 0 5
  ·rw [b1,b2,Bool.true_and,Bool.false_and] at hc
   simp (maxSteps:=4000000) only [go_sem,AV.one,zae,zac,zad,zaq,zas,zab,czb,cza,↓reduceIte,zaa,zao,onz,hi',zax hi,b1,b2,decide_true,decide_false]
   all_goals (repeat' first | (with_reducible first | rfl | apply And.intro | assumption) | ((with_reducible show zaf _ _ = true); rfl)) <;> try first | omega | (simp only [InR]; omega)
   rw [if_pos (zf5 hi hc)]
  rw [b1,b2,Bool.true_and,Bool.true_and] at hc
  cases b3:inB (at_ y.chairs i).rot 1 9
  ·rw [b3] at hc
   simp (maxSteps:=4000000) only [go_sem,AV.one,zae,zac,zad,zaq,zas,zab,czb,cza,↓reduceIte,zaa,zao,onz,hi',zax hi,b1,b2,b3,decide_true,decide_false]
   all_goals (repeat' first | (with_reducible first | rfl | apply And.intro | assumption) | ((with_reducible show zaf _ _ = true); rfl)) <;> try first | omega | (simp only [InR]; omega)
   rw [if_pos (zf5 hi hc)]
  ·rw [b3] at hc
   simp (maxSteps:=4000000) only [go_sem,AV.one,zae,zac,zad,zaq,zas,zab,czb,cza,↓reduceIte,zaa,zao,onz,hi',zax hi,b1,b2,b3,decide_true,decide_false]
   all_goals (repeat' first | (with_reducible first | rfl | apply And.intro | assumption) | ((with_reducible show zaf _ _ = true); rfl)) <;> try first | omega | (simp only [InR]; omega)
   refine nxt hi (by rw [zed hi,hI,hc]; rfl) ?_
   simp [AV.bare,zal,zaN,zaS,zak,zat,zah,tokz1,lk,zab,za2]
 intro hI
 have hI:=zek hI
 rw [if_neg (by simp [hI])]
 simp (maxSteps:=4000000) only [go_sem,AV.one,zae,zac,zad,zaq,zas,zab,czb,cza,↓reduceIte,zaa,zao,onz,czA,decide_false]
 refine zbv (y.hires.length) [] [1,2] (fun i => [(6,.int .i64 i)]) (fun _ m => m) (fun i => (y.hires.take i).all (zeY y.chairs.length y.t.last) = true) ?_ ?_ ?_ ?_
 ·simp
 ·simp [AV.bare,zal,zaN,zaS,zak,zat,zah,tokz1,lk,zab,za2]
 ·intro i hi hI
  have hi':=czH.2 hi
  have hc:zeY y.chairs.length y.t.last (at_ y.hires i) = (inB (at_ y.hires i).lo 0 ((y.chairs.length:Int) - 1) && inB (at_ y.hires i).hi 0 y.t.last):=rfl
  cases b1:inB (at_ y.hires i).lo 0 ((y.chairs.length:Int) - 1)
  ·rw [b1,Bool.false_and] at hc
   simp (maxSteps:=4000000) only [go_sem,AV.one,zae,zac,zad,zaq,zas,zab,czb,cza,↓reduceIte,zaa,zao,onz,hi',zax hi,b1,decide_true,decide_false]
   all_goals (repeat' first | (with_reducible first | rfl | apply And.intro | assumption) | ((with_reducible show zaf _ _ = true); rfl)) <;> try first | omega | (simp only [InR]; omega)
   rw [if_pos (zf5 hi hc)]
  rw [b1,Bool.true_and] at hc
  cases b2:inB (at_ y.hires i).hi 0 y.t.last
  ·rw [b2] at hc
   simp (maxSteps:=4000000) only [go_sem,AV.one,zae,zac,zad,zaq,zas,zab,czb,cza,↓reduceIte,zaa,zao,onz,hi',zax hi,b1,b2,decide_true,decide_false]
   all_goals (repeat' first | (with_reducible first | rfl | apply And.intro | assumption) | ((with_reducible show zaf _ _ = true); rfl)) <;> try first | omega | (simp only [InR]; omega)
   rw [if_pos (zf5 hi hc)]
  ·rw [b2] at hc
   simp (maxSteps:=4000000) only [go_sem,AV.one,zae,zac,zad,zaq,zas,zab,czb,cza,↓reduceIte,zaa,zao,onz,hi',zax hi,b1,b2,decide_true,decide_false]
   all_goals (repeat' first | (with_reducible first | rfl | apply And.intro | assumption) | ((with_reducible show zaf _ _ = true); rfl)) <;> try first | omega | (simp only [InR]; omega)
   refine nxt hi (by rw [zed hi,hI,hc]; rfl) ?_
   simp [AV.bare,zal,zaN,zaS,zak,zat,zah,tokz1,lk,zab,za2]
 intro hI2
 have hI2:=zek hI2
 rw [if_neg (by simp [hI2])]
 simp (maxSteps:=4000000) only [go_sem,AV.one,zae,zac,zad,zaq,zas,zab,czb,cza,↓reduceIte,zaa,zao,onz,czA,decide_false]
def P148 (g:FuncId):=(zaw 78 (zct (fun y:Yd => y.t.heights.length ≤ 4096 ∧ y.order.length ≤ 4096) za9) (P147):zaL) g
theorem znC:zaC Tryz.prog P148:=zaj (zbf zq9) (zgN)
theorem zpC (d:Option Nat):zaI P148 d = none:=(zai (by decide) d).trans (zpD d)
attribute [go_sem] P148 zpC
structure LsY (y:Yd) (ls:List (List Int)):Prop where
 v:VY y
 n:ls.length ≤ 4096
 h:∀ l ∈ ls,l.length = hrs y
theorem zfM {y:Yd} (hv:VY y):LsY y (zaV y):=by
 refine ⟨hv,?_,fun l hl => zee hv (zfJ.1 hl).1⟩
 have h1:=zhj hv.fok.vok
 have h2:=List.length_filter_le (zc7 y) (zaJ y.t)
 unfold zaV
 omega
theorem zvg (p:List Int → Bool) {ls:List (List Int)} {i:Nat} (h:i < ls.length):zgw p (ls.take (i + 1)) = if p (at_ ls i) then zgw p (ls.take i) + 1 else zgw p (ls.take i):=by
 unfold zgw
 rw [zhy h,czc]
 cases c:p (at_ ls i) <;> simp [c]
theorem manyL_bd (p:List Int → Bool) (ls:List (List Int)):0 ≤ zgw p ls ∧ zgw p ls ≤ ls.length:=by
 unfold zgw
 have:=List.length_filter_le p ls
 omega
theorem zu3 (y:Yd) (ls:List (List Int)) (o:List Int) (c k:Int) (h:(LsY y ls ∧ o.length ≤ 4096) ∧ (0 ≤ c ∧ c < y.chairs.length) ∧ 0 ≤ k ∧ k ≤ y.t.last) :
  zaQ Tryz.prog 37 [Enc.enc y,Enc.enc ls,Enc.enc o,Enc.enc c,Enc.enc k] (· = Enc.enc (zrD y ls o c k)):=by
 obtain ⟨⟨⟨hv,hn,hh⟩,ho⟩,⟨c0,c1⟩,k0,k1⟩:=h
 have hhr:=hv.hrs
 obtain ⟨p,hp⟩:∃ p:List Int → Bool,(fun hs => zkN y o hs c k.toNat) = p:=⟨_,rfl⟩
 have hpa:∀ hs,zkN y o hs c k.toNat = p hs:=fun hs => congrFun hp hs
 simp only [zbz]
 refine cpz znC Tryz.func37 zaD ?_
 rw [Tryz.ntmps37]
 simp only [Tryz.f37,zag,zap]
 simp (maxSteps:=4000000) only [go_sem,AV.one,zae,zac,zad,zaq,zas,zab,czb,cza,↓reduceIte,zaa,zao,onz]
 refine zbv (ls.length) [] [1,2,3,4,5,10] (fun i => [(12,.int .i64 i),(11,.int .i64 (zgw p (ls.take i)))]) (fun _ m => m) (fun _ => True) ?_ ?_ ?_ ?_
 ·trivial
 ·simp [AV.bare,zal,zaN,zaS,zak,zat,zah,tokz1,lk,zab,za2,zgw]
 ·intro i hi _
  have hl:=hh _ (zbh hi)
  have hpre:=rpre hv ho hl c0 c1
  have hkl:k < (at_ ls i).length:=by omega
  have hb:=manyL_bd p (ls.take i)
  have hb2:(ls.take i).length ≤ 4096:=by simp; omega
  have hs:=zvg p hi
  cases d:p (at_ ls i)
  all_goals
   rw [d] at hs
   simp only [czp,if_false,if_true] at hs
   simp (maxSteps:=4000000) only [go_sem,AV.one,zae,zac,zad,zaq,zas,zab,czb,cza,↓reduceIte,zaa,zao,onz,zax hi,czH.2 hi,hpre,hkl,hpa,d]
   all_goals (repeat' first | (with_reducible first | rfl | apply And.intro | assumption) | ((with_reducible show zaf _ _ = true); rfl)) <;> try first | omega | (simp only [InR]; omega)
   refine nxt hi trivial ?_
   simp [AV.bare,zal,zaN,zaS,zak,zat,zah,tokz1,lk,zab,za2,hs]
 ·intro _
  simp (maxSteps:=4000000) only [go_sem,AV.one,zae,zac,zad,zaq,zas,zab,czb,cza,↓reduceIte,zaa,zao,onz,czm,czA,decide_false]
  unfold zrD
  rw [hp]
  refine ⟨fun q => ?_,fun q => ⟨fun q2 => ?_,fun q2 => ?_⟩⟩ <;> simp_all
theorem zrw (y:Yd) {ls:List (List Int)} (o:List Int) (c:Int) {i:Nat} (h:i < ls.length):zfr y (ls.take (i + 1)) o c = zdi (zfr y (ls.take i) o c) ((zdt y o (at_ ls i) c).free.length:Nat):=by
 unfold zfr
 rw [zaW h,List.foldl_append]
 rfl
theorem zq7 (y:Yd) (ls:List (List Int)) (o:List Int) (c:Int) (h:(LsY y ls ∧ o.length ≤ 4096) ∧ 0 ≤ c ∧ c < y.chairs.length) :
  zaQ Tryz.prog 36 [Enc.enc y,Enc.enc ls,Enc.enc o,Enc.enc c] (· = Enc.enc (zfr y ls o c)):=by
 obtain ⟨⟨⟨hv,hn,hh⟩,ho⟩,c0,c1⟩:=h
 simp only [zbz]
 refine cpz znC Tryz.func36 zaD ?_
 rw [Tryz.ntmps36]
 simp only [Tryz.f36,zag,zap]
 simp (maxSteps:=4000000) only [go_sem,AV.one,zae,zac,zad,zaq,zas,zab,czb,cza,↓reduceIte,zaa,zao,onz]
 refine zbv (ls.length) [] [1,2,3,4,8,9] (fun i => [(10,.int .i64 i)]) (fun i m => m.set 2 (.cells [.int .i64 (zfr y (ls.take i) o c).lo,.int .i64 (zfr y (ls.take i) o c).hi])) (fun _ => True) ?_ ?_ ?_ ?_
 ·trivial
 ·simp [AV.bare,zal,zaN,zaS,zak,zat,zah,tokz1,lk,zab,za2,zfr]
 ·intro i hi _
  have hl:=hh _ (zbh hi)
  have hpre:=rpre hv ho hl c0 c1
  have hs:=zrw y o c hi
  have hfb:=zrC y o (at_ ls i) c
  have hhr:=hv.hrs
  obtain ⟨B,hB⟩:∃ B,zfr y (ls.take i) o c = B:=⟨_,rfl⟩
  obtain ⟨F,hF⟩:∃ F,zdt y o (at_ ls i) c = F:=⟨_,rfl⟩
  rw [hF] at hfb
  rw [hB,hF] at hs
  rw [hB]
  simp (maxSteps:=4000000) only [go_sem,AV.one,zae,zac,zad,zaq,zas,zab,czb,cza,↓reduceIte,zaa,zao,onz,zax hi,czH.2 hi,hpre,hF]
  all_goals (repeat' first | (with_reducible first | rfl | apply And.intro | assumption) | ((with_reducible show zaf _ _ = true); rfl)) <;> try first | omega | (simp only [InR]; omega)
  refine nxt hi trivial ?_
  simp [AV.bare,zal,zaN,zaS,zak,zat,zah,tokz1,lk,zab,za2,hs]
 ·intro _
  simp (maxSteps:=4000000) only [go_sem,AV.one,zae,zac,zad,zaq,zas,zab,czb,cza,↓reduceIte,zaa,zao,onz,czm,czA,decide_false]
  all_goals exact auz
theorem zvl (y:Yd) {ls:List (List Int)} (o:List Int) {i:Nat} (h:i < ls.length):zc2 y (ls.take (i + 1)) o = max (zc2 y (ls.take i) o) (zbR y o (at_ ls i)):=by
 unfold zc2
 rw [zaW h,List.foldl_append]
 rfl
theorem zu1 (y:Yd) (ls:List (List Int)) (o:List Int) (h:LsY y ls ∧ o.length ≤ 4096) :
  zaQ Tryz.prog 40 [Enc.enc y,Enc.enc ls,Enc.enc o] (· = Enc.enc (zc2 y ls o)):=by
 obtain ⟨⟨hv,hn,hh⟩,ho⟩:=h
 simp only [zbz]
 refine cpz znC Tryz.func40 zaD ?_
 rw [Tryz.ntmps40]
 simp only [Tryz.f40,zag,zap]
 simp (maxSteps:=4000000) only [go_sem,AV.one,zae,zac,zad,zaq,zas,zab,czb,cza,↓reduceIte,zaa,zao,onz]
 refine zbv (ls.length) [] [1,2,3,6] (fun i => [(8,.int .i64 i),(7,.int .i64 (zc2 y (ls.take i) o))]) (fun _ m => m) (fun _ => True) ?_ ?_ ?_ ?_
 ·trivial
 ·simp [AV.bare,zal,zaN,zaS,zak,zat,zah,tokz1,lk,zab,za2,zc2]
 ·intro i hi _
  have hl:=hh _ (zbh hi)
  have hra:RAll y o (at_ ls i):=⟨fun c hc => rpre hv ho hl (by omega) (by omega),hv.c5⟩
  have hs:=zvl y o hi
  have hb:=zm6 y (ls.take i) o
  have hrb:=zey y o (at_ ls i) y.chairs.length
  have hc5:=hv.c5
  unfold zbR at hs
  obtain ⟨A,hA⟩:∃ A,zc2 y (ls.take i) o = A:=⟨_,rfl⟩
  obtain ⟨B,hB⟩:∃ B,zdM y o (at_ ls i) y.chairs.length = B:=⟨_,rfl⟩
  have hB':zbR y o (at_ ls i) = B:=hB
  rw [hA] at hb hs
  rw [hB] at hrb hs
  rw [hA]
  simp (maxSteps:=4000000) only [go_sem,AV.one,zae,zac,zad,zaq,zas,zab,czb,cza,↓reduceIte,zaa,zao,onz,zax hi,czH.2 hi,hra,hB']
  all_goals (repeat' first | (with_reducible first | rfl | apply And.intro | assumption) | ((with_reducible show zaf _ _ = true); rfl)) <;> try first | omega | (simp only [InR]; omega)
  refine nxt hi trivial ?_
  simp [AV.bare,zal,zaN,zaS,zak,zat,zah,tokz1,lk,zab,za2,hs]
 ·intro _
  simp (maxSteps:=4000000) only [go_sem,AV.one,zae,zac,zad,zaq,zas,zab,czb,cza,↓reduceIte,zaa,zao,onz,czm,czA,decide_false]
  all_goals exact auz
def P149 (g:FuncId):=(zaw 37 (zuF (fun (y:Yd) (ls:List (List Int)) (o:List Int) (c k:Int) => (LsY y ls ∧ o.length ≤ 4096) ∧ (0 ≤ c ∧ c < y.chairs.length) ∧ 0 ≤ k ∧ k ≤ y.t.last) zrD) (zaw 36 (zjm (fun (y:Yd) (ls:List (List Int)) (o:List Int) (c:Int) => (LsY y ls ∧ o.length ≤ 4096) ∧ 0 ≤ c ∧ c < y.chairs.length) zfr) (zaw 40 (zd1 (fun (y:Yd) (ls:List (List Int)) (o:List Int) => LsY y ls ∧ o.length ≤ 4096) zc2) (P148))):zaL) g
theorem P149_ok:zaC Tryz.prog P149:=zaj (zmF zu3) (zaj (zer zq7) (zaj (zbY zu1) (znC)))
theorem zk8 (d:Option Nat):zaI P149 d = none:=(zai (by decide) d).trans ((zai (by decide) d).trans ((zai (by decide) d).trans (zpC d)))
attribute [go_sem] P149 zk8
end Go.Proofs
