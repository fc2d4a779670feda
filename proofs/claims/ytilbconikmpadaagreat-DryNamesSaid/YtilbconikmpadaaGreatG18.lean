/- The texts H27, H28, H29, H30, H31, H32, H33, H34, H35, joined. -/
import Derived.Test.YtilbconikmpadaaGreatG17
set_option linter.all false
namespace Go.Proofs
open Go.Fs
set_option maxHeartbeats 4000000
set_option maxRecDepth 8000
theorem rIn_call (y:Yd) (o:List Int) (c k:Int) (h:o.length ≤ 4096 ∧ (0 ≤ y.hands ∧ y.hands ≤ 5) ∧ 0 ≤ k ∧ k ≤ 20):zaP Tryz.prog 136 [Enc.enc y,Enc.enc o,Enc.enc c,Enc.enc k] (· = Enc.enc ((o.take (y.hands * (k + 1)).toNat).contains c)):=by
 obtain ⟨h1,⟨h2,h2'⟩,h3,h3'⟩:=h
 have ht0:0 ≤ y.hands * (k + 1):=Int.mul_nonneg h2 (by omega)
 have ht1:y.hands * (k + 1) ≤ 5 * 21:=Int.mul_le_mul h2' (by omega) (by omega) (by omega)
 obtain ⟨t,ht⟩:∃ t,y.hands * (k + 1) = t:=⟨_,rfl⟩
 rw [ht] at ht0 ht1 ⊢
 obtain ⟨N,hN⟩:∃ N,min o.length t.toNat = N:=⟨_,rfl⟩
 simp only [zcf]
 refine cpz P139_ok Tryz.func136 zaB ?_
 rw [Tryz.ntmps136]
 simp only [Tryz.f136,zai,zam]
 simp (maxSteps:=4000000) only [go_sem,AV.one,zae,zac,zad,zan,zaq,zaa,czb,cza,↓reduceIte,zab,zay,onz]
 all_goals (repeat' first | (with_reducible first | rfl | apply And.intro | assumption) | ((with_reducible show zaj _ _ = true); rfl)) <;> try first | omega | (simp only [InR]; omega)
 refine zbG (N) [] [1,2,3,4,8] (fun i => [(9,.int .i64 i)]) (fun _ m => m) (fun i => (o.take i).contains c = false) ?_ ?_ ?_ ?_
 ·simp
 ·simp [AV.bare,zal,zaN,zaR,zak,zar,zaf,tokz1,lk,zaa,za3]
 ·intro i hi hI
  have hio:i < o.length:=by omega
  have hio':=czH.2 hio
  have hit:((i:Int) < t):=by omega
  have hts:o.take (i + 1) = o.take i ++ [at_ o i]:=zaV hio
  cases d:decide (at_ o i = c) <;>
   simp (maxSteps:=4000000) only [go_sem,AV.one,zae,zac,zad,zan,zaq,zaa,czb,cza,↓reduceIte,zab,zay,onz,zax hio,hio',hit,ht,d,decide_true,decide_false]
  all_goals all_goals (repeat' first | (with_reducible first | rfl | apply And.intro | assumption) | ((with_reducible show zaj _ _ = true); rfl)) <;> try first | omega | (simp only [InR]; omega)
  ·refine nxt hi ?_ ?_
   ·rw [hts,List.contains_append,hI]
    have:¬ at_ o i = c:=by simpa using d
    simp; exact fun e => this e.symm
   ·simp [AV.bare,zal,zaN,zaR,zak,zar,zaf,tokz1,lk,zaa,za3]
  ·have e:at_ o i = c:=by simpa using d
   have:(o.take t.toNat).contains c = true:=by
    rw [List.contains_iff_mem,List.mem_take_iff_getElem]
    exact ⟨i,by omega,by rw [← zdk hio]; exact e⟩
   rw [this]
 ·intro hI
  have hlast:(o.take t.toNat).contains c = false:=by
   rw [← hI]
   congr 1
   by_cases q:o.length ≤ t.toNat
   ·rw [cze q,cze (by omega)]
   ·rw [show N = t.toNat by omega]
  by_cases q:N < o.length
  ·have q':=czH.2 q
   have q2:¬ ((N:Int) < t):=by omega
   simp (maxSteps:=4000000) only [go_sem,AV.one,zae,zac,zad,zan,zaq,zaa,czb,cza,↓reduceIte,zab,zay,onz,q',q2,ht,hlast,decide_true,decide_false]
   all_goals exact auz
  ·have q':¬ ((N:Int) < o.length):=by omega
   simp (maxSteps:=4000000) only [go_sem,AV.one,zae,zac,zad,zan,zaq,zaa,czb,cza,↓reduceIte,zab,zay,onz,q',ht,hlast,decide_true,decide_false]
   all_goals exact auz
def inL (y:Yd) (o:List Int) (c k:Int):Bool:=(o.take (y.hands * (k + 1)).toNat).contains c
def P140 (g:FuncId):=(zas 136 (ziL (fun (y:Yd) (o:List Int) (_ k:Int) => o.length ≤ 4096 ∧ (0 ≤ y.hands ∧ y.hands ≤ 5) ∧ 0 ≤ k ∧ k ≤ 20) inL) (P139):zaJ) g
theorem P140_ok:zaz Tryz.prog P140:=zah (zeg rIn_call) (P139_ok)
theorem zoi (d:Option Nat):zaF P140 d = none:=(zag (by decide) d).trans (zoj d)
attribute [go_sem] P140 zoi
def zh5 (n:Nat) (l:List Int) (i:Nat):Bool:=inB (at_ l i) 0 ((n:Int) - 1) && !(l.take i).contains (at_ l i)
theorem zpB (y:Yd) (l:List Int) (h:y.chairs.length ≤ 4096 ∧ l.length ≤ 4096):zaP Tryz.prog 28 [Enc.enc y,Enc.enc l] (· = Enc.enc (za8 y.chairs.length l)):=by
 obtain ⟨h1,h2⟩:=h
 have hu:za8 y.chairs.length l = (List.range l.length).all (zh5 y.chairs.length l):=rfl
 have hbad:∀ i,i < l.length → zh5 y.chairs.length l i = false → za8 y.chairs.length l = false:=fun i hi hf => by
  rw [hu,List.all_eq_false]
  exact ⟨i,List.mem_range.2 hi,by simp [hf]⟩
 simp only [zcf]
 refine cpz P140_ok Tryz.func28 zaB ?_
 rw [Tryz.ntmps28]
 simp only [Tryz.f28,zai,zam]
 simp (maxSteps:=4000000) only [go_sem,AV.one,zae,zac,zad,zan,zaq,zaa,czb,cza,↓reduceIte,zab,zay,onz]
 all_goals (repeat' first | (with_reducible first | rfl | apply And.intro | assumption) | ((with_reducible show zaj _ _ = true); rfl)) <;> try first | omega | (simp only [InR]; omega)
 refine zbG (l.length) [] [1,2,4] (fun i => [(5,.int .i64 i)]) (fun _ m => m) (fun i => ∀ j,j < i → zh5 y.chairs.length l j = true) ?_ ?_ ?_ ?_
 ·exact fun j hj => by omega
 ·simp [AV.bare,zal,zaN,zaR,zak,zar,zaf,tokz1,lk,zaa,za3]
 ·intro i hi hI
  have hi':=czH.2 hi
  cases d:inB (at_ l i) 0 ((y.chairs.length:Int) - 1)
  ·simp (maxSteps:=4000000) only [go_sem,AV.one,zae,zac,zad,zan,zaq,zaa,czb,cza,↓reduceIte,zab,zay,onz,zax hi,hi',d,decide_true,decide_false]
   all_goals (repeat' first | (with_reducible first | rfl | apply And.intro | assumption) | ((with_reducible show zaj _ _ = true); rfl)) <;> try first | omega | (simp only [InR]; omega)
   rw [hbad i hi (by unfold zh5; rw [d]; rfl)]
  ·simp (maxSteps:=4000000) only [go_sem,AV.one,zae,zac,zad,zan,zaq,zaa,czb,cza,↓reduceIte,zab,zay,onz,zax hi,hi',d,decide_true,decide_false]
   all_goals (repeat' first | (with_reducible first | rfl | apply And.intro | assumption) | ((with_reducible show zaj _ _ = true); rfl)) <;> try first | omega | (simp only [InR]; omega)
   refine zbG (i) [] [1,2,4,5,7,8,9,13,14,15,16,17,18,19,20,21] (fun k => [(6,.int .i64 k)]) (fun _ m => m) (fun k => (l.take k).contains (at_ l i) = false) ?_ ?_ ?_ ?_
   ·simp
   ·simp [AV.bare,zal,zaN,zaR,zak,zar,zaf,tokz1,lk,zaa,za3]
   ·intro k hk hK
    have hk':=czH.2 hk
    have hkl:k < l.length:=by omega
    have hts:l.take (k + 1) = l.take k ++ [at_ l k]:=zaV hkl
    cases e:decide (at_ l k = at_ l i) <;>
     simp (maxSteps:=4000000) only [go_sem,AV.one,zae,zac,zad,zan,zaq,zaa,czb,cza,↓reduceIte,zab,zay,onz,zax hkl,zax hi,czH.2 hkl,hk',hi',e,decide_true,decide_false]
    all_goals all_goals (repeat' first | (with_reducible first | rfl | apply And.intro | assumption) | ((with_reducible show zaj _ _ = true); rfl)) <;> try first | omega | (simp only [InR]; omega)
    ·refine nxt hk ?_ ?_
     ·rw [hts,List.contains_append,hK]
      have:¬ at_ l k = at_ l i:=by simpa using e
      simp; exact fun q => this q.symm
     ·simp [AV.bare,zal,zaN,zaR,zak,zar,zaf,tokz1,lk,zaa,za3]
    ·have q:at_ l k = at_ l i:=by simpa using e
     have:(l.take i).contains (at_ l i) = true:=by
      rw [List.contains_iff_mem,List.mem_take_iff_getElem]
      exact ⟨k,by omega,by rw [← zdk hkl]; exact q⟩
     rw [hbad i hi (by unfold zh5; rw [this]; simp)]
   ·intro hK
    simp (maxSteps:=4000000) only [go_sem,AV.one,zae,zac,zad,zan,zaq,zaa,czb,cza,↓reduceIte,zab,zay,onz,czA,decide_true,decide_false]
    all_goals (repeat' first | (with_reducible first | rfl | apply And.intro | assumption) | ((with_reducible show zaj _ _ = true); rfl)) <;> try first | omega | (simp only [InR]; omega)
    refine nxt hi (fun j hj => ?_) ?_
    ·by_cases e:j = i
     ·subst e; unfold zh5; rw [d,hK]; rfl
     ·exact hI j (by omega)
    ·simp [AV.bare,zal,zaN,zaR,zak,zar,zaf,tokz1,lk,zaa,za3]
 ·intro hI
  have hall:za8 y.chairs.length l = true:=by
   rw [hu,czG]
   exact fun j hj => hI j (List.mem_range.1 hj)
  simp (maxSteps:=4000000) only [go_sem,AV.one,zae,zac,zad,zan,zaq,zaa,czb,cza,↓reduceIte,zab,zay,onz,hall,czA,decide_true,decide_false]
  all_goals exact auz
def P141 (g:FuncId):=(zas 28 (zbF (fun (y:Yd) (l:List Int) => y.chairs.length ≤ 4096 ∧ l.length ≤ 4096) (fun y l => za8 y.chairs.length l)) (P140):zaJ) g
theorem zqX:zaz Tryz.prog P141:=zah (zaM zpB) (P140_ok)
theorem zoh (d:Option Nat):zaF P141 d = none:=(zag (by decide) d).trans (zoi d)
attribute [go_sem] P141 zoh
structure RPre (y:Yd) (o hs:List Int) (c:Int):Prop where
 o4:o.length ≤ 4096
 hd:0 ≤ y.hands ∧ y.hands ≤ 5
 h10:hs.length ≤ 10
 hl:(hs.length:Int) = y.t.last + 1
 c0:0 ≤ c ∧ c < y.chairs.length
 ch:(0 ≤ (at_ y.chairs c.toNat).row ∧ (at_ y.chairs c.toNat).row < y.t.levels.length) ∧ (0 ≤ (at_ y.chairs c.toNat).hours ∧ (at_ y.chairs c.toNat).hours ≤ 5) ∧ 1 ≤ (at_ y.chairs c.toNat).rot ∧ (at_ y.chairs c.toNat).rot ≤ 9
theorem rWet_call (y:Yd) (o hs:List Int) (c k:Int) (h:RPre y o hs c ∧ 0 ≤ k ∧ k < hs.length):zaP Tryz.prog 89 [Enc.enc y,Enc.enc o,Enc.enc hs,Enc.enc c,Enc.enc k] (· = Enc.enc (zo2 y o hs c k.toNat)):=by
 obtain ⟨hp,k0,k1⟩:=h
 obtain ⟨ho,hd,h10,hl,hc,hch,_,_⟩:=hp
 obtain ⟨ki,rfl⟩:=czu k0
 obtain ⟨ci,rfl⟩:=czu hc.1
 have hcl:ci < y.chairs.length:=by omega
 simp only [czF] at hch ⊢
 obtain ⟨ri,hri⟩:=czu hch.1
 have hrl:ri < y.t.levels.length:=by omega
 have hkl:ki < hs.length:=by omega
 have e1:=zax (f:=EncE.cs) hcl
 have e2:=zax (f:=EncE.cs) hrl
 have e3:=zax (f:=EncE.cs) hkl
 have hw:zo2 y o hs ci ki = (decide (at_ y.t.levels ri < at_ hs ki) && !inL y o ci ki):=by
  unfold zo2 lvY inY inL
  rw [czF,hri,czF]
 rw [hw]
 cases c1:decide (at_ y.t.levels ri < at_ hs ki)
 ·simp only [zcf]
  refine cpz zqX Tryz.func89 zaB ?_
  rw [Tryz.ntmps89]
  simp only [Tryz.f89,zai,zam]
  simp (maxSteps:=4000000) only [go_sem,AV.one,zae,zac,zad,zan,zaq,zaa,czb,cza,↓reduceIte,zab,zay,onz,e1,e2,e3,hri,c1,czH.2 hcl,czH.2 hrl,czH.2 hkl]
  all_goals exact auz
 ·simp only [zcf]
  refine cpz zqX Tryz.func89 zaB ?_
  rw [Tryz.ntmps89]
  simp only [Tryz.f89,zai,zam]
  simp (maxSteps:=4000000) only [go_sem,AV.one,zae,zac,zad,zan,zaq,zaa,czb,cza,↓reduceIte,zab,zay,onz,e1,e2,e3,hri,c1,czH.2 hcl,czH.2 hrl,czH.2 hkl]
  all_goals exact auz
def P142 (g:FuncId):=(zas 89 (spec5 (fun (y:Yd) (o hs:List Int) (c k:Int) => RPre y o hs c ∧ 0 ≤ k ∧ k < hs.length) (fun y o hs c k => zo2 y o hs c k.toNat)) (P141):zaJ) g
theorem P142_ok:zaz Tryz.prog P142:=zah (zro rWet_call) (zqX)
theorem zog (d:Option Nat):zaF P142 d = none:=(zag (by decide) d).trans (zoh d)
attribute [go_sem] P142 zog
theorem ztl (y:Yd) (o hs:List Int) (c:Int) (h:RPre y o hs c):zaP Tryz.prog 88 [Enc.enc y,Enc.enc o,Enc.enc hs,Enc.enc c] (· = Enc.enc (zuZ y o hs c:Int)):=by
 have hp:=h
 obtain ⟨ho,hd,h10,hl,hc,hch,_,hro⟩:=hp
 obtain ⟨ci,rfl⟩:=czu hc.1
 have hcl:ci < y.chairs.length:=by omega
 have e1:=zax (f:=EncE.cs) hcl
 simp only [zcf]
 refine cpz P142_ok Tryz.func88 zaB ?_
 rw [Tryz.ntmps88]
 simp only [Tryz.f88,zai,zam]
 simp (maxSteps:=4000000) only [go_sem,AV.one,zae,zac,zad,zan,zaq,zaa,czb,cza,↓reduceIte,zab,zay,onz,e1,czH.2 hcl]
 simp only [czF] at hro
 obtain ⟨r,hr⟩:=czu (show 0 ≤ (at_ y.chairs ci).rot by omega)
 have hrr:zuZ y o hs ci = zjv (zo2 y o hs ci) r (hrs y):=by unfold zuZ; rw [czF,hr,czF]
 have hh:((hrs y:Nat):Int) = y.t.last + 1:=by unfold hrs; omega
 obtain ⟨n,hn⟩:∃ n,hrs y = n:=⟨_,rfl⟩
 rw [hrr,hn]
 rw [hn] at hh
 rw [hr] at hro ⊢
 all_goals (repeat' first | (with_reducible first | rfl | apply And.intro | assumption) | ((with_reducible show zaj _ _ = true); rfl)) <;> try first | omega | (simp only [InR]; omega)
 refine zbG (n + 1 - r) [] [1,2,3,4,8] (fun i => [(9,.int .i64 (((r:Int) - 1) + i))]) (fun _ m => m) (fun i => zfr (zo2 y o hs ci) r (r - 1 + i) = none) ?_ ?_ ?_ ?_
 ·exact zjw _ (by omega)
 ·simp [AV.bare,zal,zaN,zaR,zak,zar,zaf,tokz1,lk,zaa,za3]
 ·intro i hi hI
  simp (maxSteps:=4000000) only [go_sem,AV.one,zae,zac,zad,zan,zaq,zaa,czb,cza,↓reduceIte,zab,zay,onz,e1,hr,czH.2 hcl,show decide ((r:Int) - 1 + i ≤ y.t.last) = true by simp; omega]
  all_goals (repeat' first | (with_reducible first | rfl | apply And.intro | assumption) | ((with_reducible show zaj _ _ = true); rfl)) <;> try first | omega | (simp only [InR]; omega)
  obtain ⟨W,hW⟩:∃ W,zo2 y o hs ci = W:=⟨_,rfl⟩
  obtain ⟨hh0,hhd⟩:∃ hh0:Nat,hh0 = r - 1 + i:=⟨_,rfl⟩
  have hv:((r:Int) - 1 + i) = hh0:=by omega
  rw [hW] at hI ⊢
  have hsuc:zfr W r (hh0 + 1) = if zmg W r hh0 = true then some hh0 else none:=by
   rw [zfr,hhd,hI,← hhd]
   simp only
   rw [show decide (r ≤ hh0 + 1) = true by simp; omega,Bool.true_and]
  have hall:∀ k,zmg W (k + 1) hh0 = (zmg W k hh0 && W (hh0 - k)):=fun k => by unfold zmg; rw [List.range_succ,List.all_append]; simp
  refine zbG (r) [] [1,2,3,4,8,9,19,20,21,22] (fun k => [(11,.int .i64 k),(10,.bool (zmg W k hh0))]) (fun _ m => m) (fun _ => True) ?_ ?_ ?_ ?_
  ·trivial
  ·simp [AV.bare,zal,zaN,zaR,zak,zar,zaf,tokz1,lk,zaa,za3,zmg]
  ·intro k hk _
   have hk':=czH.2 hk
   have hak:=hall k
   have hx:(((r:Int) - 1 + i) - k).toNat = hh0 - k:=by omega
   cases d:zmg W k hh0
   ·rw [d,Bool.false_and] at hak
    simp (maxSteps:=4000000) only [go_sem,AV.one,zae,zac,zad,zan,zaq,zaa,czb,cza,↓reduceIte,zab,zay,onz,e1,hr,hW,hx,d,czH.2 hcl,hk',decide_true,decide_false]
    all_goals (repeat' first | (with_reducible first | rfl | apply And.intro | assumption) | ((with_reducible show zaj _ _ = true); rfl)) <;> try first | omega | (simp only [InR]; omega)
    refine nxt hk trivial ?_
    simp [AV.bare,zal,zaN,zaR,zak,zar,zaf,tokz1,lk,zaa,za3,hak]
   ·rw [d,Bool.true_and] at hak
    simp (maxSteps:=4000000) only [go_sem,AV.one,zae,zac,zad,zan,zaq,zaa,czb,cza,↓reduceIte,zab,zay,onz,e1,hr,hW,hx,d,h,czH.2 hcl,hk',decide_true,decide_false]
    all_goals (repeat' first | (with_reducible first | rfl | apply And.intro | assumption) | ((with_reducible show zaj _ _ = true); rfl)) <;> try first | omega | (simp only [InR]; omega)
    refine nxt hk trivial ?_
    simp [AV.bare,zal,zaN,zaR,zak,zar,zaf,tokz1,lk,zaa,za3,hak]
  ·intro _
   cases d:zmg W r hh0
   ·rw [d,if_neg (by simp)] at hsuc
    simp (maxSteps:=4000000) only [go_sem,AV.one,zae,zac,zad,zan,zaq,zaa,czb,cza,↓reduceIte,zab,zay,onz,e1,hr,d,czH.2 hcl,czA,decide_true,decide_false]
    all_goals (repeat' first | (with_reducible first | rfl | apply And.intro | assumption) | ((with_reducible show zaj _ _ = true); rfl)) <;> try first | omega | (simp only [InR]; omega)
    refine nxt hi ?_ ?_
    ·rw [show r - 1 + (i + 1) = hh0 + 1 by omega]; exact hsuc
    ·simp [AV.bare,zal,zaN,zaR,zak,zar,zaf,tokz1,lk,zaa,za3]
     try omega
   ·rw [d,if_pos rfl] at hsuc
    simp (maxSteps:=4000000) only [go_sem,AV.one,zae,zac,zad,zan,zaq,zaa,czb,cza,↓reduceIte,zab,zay,onz,e1,hr,d,czH.2 hcl,czA,decide_true,decide_false]
    all_goals (repeat' first | (with_reducible first | rfl | apply And.intro | assumption) | ((with_reducible show zaj _ _ = true); rfl)) <;> try first | omega | (simp only [InR]; omega)
    have:zjv W r n = hh0:=by
     unfold zjv
     rw [zgB (by omega) hsuc]; rfl
    rw [this,hv]
 ·intro hI
  simp (maxSteps:=4000000) only [go_sem,AV.one,zae,zac,zad,zan,zaq,zaa,czb,cza,↓reduceIte,zab,zay,onz,e1,hr,show decide ((r:Int) - 1 + (n + 1 - r:Nat) ≤ y.t.last) = false by simp; omega]
  all_goals (repeat' first | (with_reducible first | rfl | apply And.intro | assumption) | ((with_reducible show zaj _ _ = true); rfl)) <;> try first | omega | (simp only [InR]; omega)
  have:zjv (zo2 y o hs ci) r n = n:=by
   unfold zjv
   by_cases q:r ≤ n + 1
   ·rw [show r - 1 + (n + 1 - r) = n by omega] at hI
    rw [hI]; rfl
   ·rw [zjw n (by omega)]; rfl
  rw [this,hh]
def P143 (g:FuncId):=(zas 88 (ziL (fun (y:Yd) (o hs:List Int) (c:Int) => RPre y o hs c) (fun y o hs c => ((zuZ y o hs c:Nat):Int))) (P142):zaJ) g
theorem zmk:zaz Tryz.prog P143:=zah (zeg ztl) (P142_ok)
theorem zof (d:Option Nat):zaF P143 d = none:=(zag (by decide) d).trans (zog d)
attribute [go_sem] P143 zof
theorem rCan_call (y:Yd) (o hs:List Int) (c k:Int) (h:RPre y o hs c ∧ 0 ≤ k ∧ k < hs.length):zaP Tryz.prog 90 [Enc.enc y,Enc.enc o,Enc.enc hs,Enc.enc c,Enc.enc k] (· = Enc.enc (canY y o hs c k.toNat)):=by
 obtain ⟨hp,k0,k1⟩:=h
 have hp':=hp
 obtain ⟨ho,hd,h10,hl,hc,hch,hhr,hro⟩:=hp
 obtain ⟨ci,rfl⟩:=czu hc.1
 obtain ⟨ki,rfl⟩:=czu k0
 have hcl:ci < y.chairs.length:=by omega
 have e1:=zax (f:=EncE.cs) hcl
 unfold canY
 rw [czF]
 obtain ⟨W,hW⟩:∃ W,zo2 y o hs ci = W:=⟨_,rfl⟩
 obtain ⟨R,hR⟩:∃ R,zuZ y o hs ci = R:=⟨_,rfl⟩
 rw [hW,hR]
 cases d:W ki
 ·cases d2:decide ((R:Int) ≤ ki)
  ·simp only [zcf]
   refine cpz zmk Tryz.func90 zaB ?_
   rw [Tryz.ntmps90]
   simp only [Tryz.f90,zai,zam]
   simp (maxSteps:=4000000) only [go_sem,AV.one,zae,zac,zad,zan,zaq,zaa,czb,cza,↓reduceIte,zab,zay,onz,hW,hR,d,d2,hp']
   all_goals (repeat' first | (with_reducible first | rfl | apply And.intro | assumption) | ((with_reducible show zaj _ _ = true); rfl)) <;> try first | omega | (simp only [InR]; omega)
   have g2:ki < R:=by simp at d2; omega
   have hcan:∀ l,zeI W ki = l → zrU W R (at_ y.chairs ci).hours ki = (decide (l < 0) || decide ((at_ y.chairs ci).hours < ki - l)):=fun l hl' => by
    unfold zrU
    rw [hl',d,show decide (ki < R) = true by simpa using g2]
    rfl
   refine zbG (ki) [] [1,2,3,4,5,10] (fun j => [(11,.int .i64 (((ki:Int) - 1) - j))]) (fun _ m => m) (fun j => zeI W (ki - j) = zeI W ki) ?_ ?_ ?_ ?_
   ·rfl
   ·simp [AV.bare,zal,zaN,zaR,zak,zar,zaf,tokz1,lk,zaa,za3]
   ·intro j hj hI
    have hx:(((ki:Int) - 1) - j).toNat = ki - (j + 1):=by omega
    have hge:decide ((0:Int) ≤ ((ki:Int) - 1) - j) = true:=by simp; omega
    rw [show ki - j = (ki - (j + 1)) + 1 by omega,zeI] at hI
    cases d3:W (ki - (j + 1))
    ·rw [d3,if_neg (by simp)] at hI
     simp (maxSteps:=4000000) only [go_sem,AV.one,zae,zac,zad,zan,zaq,zaa,czb,cza,↓reduceIte,zab,zay,onz,e1,hW,hx,d3,hp',czH.2 hcl,ge_iff_le,gt_iff_lt,hge,decide_true,decide_false]
     all_goals (repeat' first | (with_reducible first | rfl | apply And.intro | assumption) | ((with_reducible show zaj _ _ = true); rfl)) <;> try first | omega | (simp only [InR]; omega)
     refine nxt hj hI ?_
     simp [AV.bare,zal,zaN,zaR,zak,zar,zaf,tokz1,lk,zaa,za3]
     try omega
    ·rw [d3,if_pos rfl] at hI
     simp (maxSteps:=4000000) only [go_sem,AV.one,zae,zac,zad,zan,zaq,zaa,czb,cza,↓reduceIte,zab,zay,onz,e1,hW,hx,d3,hp',czH.2 hcl,ge_iff_le,gt_iff_lt,hge,decide_true,decide_false]
     all_goals (repeat' first | (with_reducible first | rfl | apply And.intro | assumption) | ((with_reducible show zaj _ _ = true); rfl)) <;> try first | omega | (simp only [InR]; omega)
     rw [hcan _ hI.symm,show decide (((ki - (j + 1):Nat):Int) < 0) = false from decide_eq_false (by omega),Bool.false_or,show ((ki:Int) - 1 - j) = ((ki - (j + 1):Nat):Int) by omega]
   ·intro hI
    rw [Nat.sub_self,zeI] at hI
    simp (maxSteps:=4000000) only [go_sem,AV.one,zae,zac,zad,zan,zaq,zaa,czb,cza,↓reduceIte,zab,zay,onz,ge_iff_le,gt_iff_lt,show decide ((0:Int) ≤ ((ki:Int) - 1) - ki) = false by simp; omega,decide_true,decide_false]
    all_goals (repeat' first | (with_reducible first | rfl | apply And.intro | assumption) | ((with_reducible show zaj _ _ = true); rfl)) <;> try first | omega | (simp only [InR]; omega)
    rw [hcan _ hI.symm]; rfl
  ·simp only [zcf]
   refine cpz zmk Tryz.func90 zaB ?_
   rw [Tryz.ntmps90]
   simp only [Tryz.f90,zai,zam]
   simp (maxSteps:=4000000) only [go_sem,AV.one,zae,zac,zad,zan,zaq,zaa,czb,cza,↓reduceIte,zab,zay,onz,hW,hR,d,d2,hp']
   all_goals (repeat' first | (with_reducible first | rfl | apply And.intro | assumption) | ((with_reducible show zaj _ _ = true); rfl)) <;> try first | omega | (simp only [InR]; omega)
   have g2:¬ ki < R:=by simp at d2; omega
   unfold zrU
   rw [show decide (ki < R) = false by simpa using g2]; simp
 ·simp only [zcf]
  refine cpz zmk Tryz.func90 zaB ?_
  rw [Tryz.ntmps90]
  simp only [Tryz.f90,zai,zam]
  simp (maxSteps:=4000000) only [go_sem,AV.one,zae,zac,zad,zan,zaq,zaa,czb,cza,↓reduceIte,zab,zay,onz,hW,hR,d,hp']
  all_goals (repeat' first | (with_reducible first | rfl | apply And.intro | assumption) | ((with_reducible show zaj _ _ = true); rfl)) <;> try first | omega | (simp only [InR]; omega)
  unfold zrU
  rw [d]; rfl
def P144 (g:FuncId):=(zas 90 (spec5 (fun (y:Yd) (o hs:List Int) (c k:Int) => RPre y o hs c ∧ 0 ≤ k ∧ k < hs.length) (fun y o hs c k => canY y o hs c k.toNat)) (P143):zaJ) g
theorem P144_ok:zaz Tryz.prog P144:=zah (zro rCan_call) (zmk)
theorem zoe (d:Option Nat):zaF P144 d = none:=(zag (by decide) d).trans (zof d)
attribute [go_sem] P144 zoe
structure RAll (y:Yd) (o hs:List Int):Prop where
 pre:∀ c:Nat,c < y.chairs.length → RPre y o hs c
 c5:y.chairs.length ≤ 5
theorem zmU (y:Yd) (o hs:List Int) (h:RAll y o hs):zaP Tryz.prog 41 [Enc.enc y,Enc.enc o,Enc.enc hs] (· = Enc.enc (zeW y o hs)):=by
 obtain ⟨hp,h5⟩:=h
 simp only [zcf]
 refine cpz P144_ok Tryz.func41 zaB ?_
 rw [Tryz.ntmps41]
 simp only [Tryz.f41,zai,zam]
 simp (maxSteps:=4000000) only [go_sem,AV.one,zae,zac,zad,zan,zaq,zaa,czb,cza,↓reduceIte,zab,zay,onz]
 all_goals (repeat' first | (with_reducible first | rfl | apply And.intro | assumption) | ((with_reducible show zaj _ _ = true); rfl)) <;> try first | omega | (simp only [InR]; omega)
 unfold zeW
 refine zbG (y.chairs.length) [] [1,2,3,6] (fun i => [(8,.int .i64 i),(7,.int .i64 (zeX y o hs i))]) (fun _ m => m) (fun _ => True) ?_ ?_ ?_ ?_
 ·trivial
 ·simp [AV.bare,zal,zaN,zaR,zak,zar,zaf,tokz1,lk,zaa,za3,zeX]
 ·intro i hi _
  have hi':=czH.2 hi
  have hpi:=hp i hi
  have hb:=zth y o hs i
  have hs1:=zmM y o hs i
  cases d:decide ((zuZ y o hs i:Int) ≤ y.t.last)
  ·rw [if_neg (by simpa using d)] at hs1
   simp (maxSteps:=4000000) only [go_sem,AV.one,zae,zac,zad,zan,zaq,zaa,czb,cza,↓reduceIte,zab,zay,onz,hi',d,decide_true,decide_false]
   all_goals (repeat' first | (with_reducible first | rfl | apply And.intro | assumption) | ((with_reducible show zaj _ _ = true); rfl)) <;> try first | omega | (simp only [InR]; omega)
   refine nxt hi trivial ?_
   simp [AV.bare,zal,zaN,zaR,zak,zar,zaf,tokz1,lk,zaa,za3,hs1]
  ·rw [if_pos (by simpa using d)] at hs1
   simp (maxSteps:=4000000) only [go_sem,AV.one,zae,zac,zad,zan,zaq,zaa,czb,cza,↓reduceIte,zab,zay,onz,hi',d,decide_true,decide_false]
   all_goals (repeat' first | (with_reducible first | rfl | apply And.intro | assumption) | ((with_reducible show zaj _ _ = true); rfl)) <;> try first | omega | (simp only [InR]; omega)
   refine nxt hi trivial ?_
   simp [AV.bare,zal,zaN,zaR,zak,zar,zaf,tokz1,lk,zaa,za3,hs1]
 ·intro _
  simp (maxSteps:=4000000) only [go_sem,AV.one,zae,zac,zad,zan,zaq,zaa,czb,cza,↓reduceIte,zab,zay,onz,czA,decide_true,decide_false]
  all_goals exact auz
def P145 (g:FuncId):=(zas 41 (zec (fun (y:Yd) (o hs:List Int) => RAll y o hs) zeW) (P144):zaJ) g
theorem P145_ok:zaz Tryz.prog P145:=zah (zb8 zmU) (P144_ok)
theorem zkj (d:Option Nat):zaF P145 d = none:=(zag (by decide) d).trans (zoe d)
attribute [go_sem] P145 zkj
def zhF (y:Yd) (ts:List Sea) (o:List Int):Int:=(zc0 y ts o ts.length).1
def tryF (y:Yd) (ts:List Sea) (f:Nat) (now:List Int) (a:List Int × Int):List Int × Int:=(permF y.chairs.length f now).foldl (tryP (zhF y ts)) a
def tryN (y:Yd) (ts:List Sea) (f:Nat) (now:List Int) (k:Nat) (a:List Int × Int):List Int × Int :=
 ((List.range k).flatMap fun c:Nat => if now.contains (c:Int) then [] else permF y.chairs.length f (now ++ [(c:Int)])).foldl (tryP (zhF y ts)) a
theorem tryF_zero (y:Yd) (ts:List Sea) (now:List Int) (a:List Int × Int):tryF y ts 0 now a = tryP (zhF y ts) a now:=rfl
theorem zmx (y:Yd) (ts:List Sea) (f:Nat) (now:List Int) (a:List Int × Int):tryF y ts (f + 1) now a = tryN y ts f now y.chairs.length a:=rfl
theorem zmw (y:Yd) (ts:List Sea) (f:Nat) (now:List Int) (k:Nat) (a:List Int × Int) :
  tryN y ts f now (k + 1) a = if now.contains (k:Int) = true then tryN y ts f now k a else tryF y ts f (now ++ [(k:Int)]) (tryN y ts f now k a):=by
 unfold tryN tryF
 rw [List.range_succ,List.flatMap_append,List.foldl_append]
 generalize List.foldl _ a _ = A
 simp only [List.flatMap_cons,List.flatMap_nil,List.append_nil]
 cases c:now.contains (k:Int)
 ·simp only [czp,if_false]
 ·simp only [if_true,List.foldl_nil]
theorem zrJ (y:Yd) (ts:List Sea) (o:List Int):-1 ≤ zhF y ts o ∧ zhF y ts o ≤ y.chairs.length:=by
 have:=zi7 y ts o ts.length
 unfold zhF; omega
def zui (y:Yd):Tri8 (List Int) Int Int :=
 if zgN y true = 0 then ⟨(tryF y (wkY y).ts y.chairs.length [] ([],(y.chairs.length:Int) + 1)).1,(tryF y (wkY y).ts y.chairs.length [] ([],(y.chairs.length:Int) + 1)).2,0⟩ else ⟨[],0,zgN y true⟩
def zdL (ws:List (Uk .u8)) (n:Int):Int:=if ws = [] then 0 else (at_ ws (n % (ws.length:Int)).toNat).n
def WsOk (ws:List (Uk .u8)):Prop:=∀ u ∈ ws,InR .u8 u.n
theorem ziV {ws:List (Uk .u8)} (h:WsOk ws) (n:Int):0 ≤ zdL ws n ∧ zdL ws n ≤ 255:=by
 unfold zdL
 split
 ·omega
 ·rename_i hne
  have hl:0 < ws.length:=by
   cases ws with
   | nil => exact absurd rfl hne
   | cons _ _ => simp
  have h1:=Int.emod_nonneg n (show (ws.length:Int) ≠ 0 by omega)
  have h2:=Int.emod_lt_of_pos n (show (0:Int) < ws.length by omega)
  exact h _ (zbv (by omega))
def posW (ws:List (Uk .u8)) (out:List Int) (i:Nat):Nat:=(zdL ws i / 8 % ((out.length:Int) + 1)).toNat
def ziP (ws:List (Uk .u8)):Nat → List Int
 | 0 => []
 | i + 1 => if zdL ws i % 8 = 7 then ziP ws i else (ziP ws i).take (posW ws (ziP ws i) i) ++ [(i:Int)] ++ (ziP ws i).drop (posW ws (ziP ws i) i)
def ordW (y:Yd) (ws:List (Uk .u8)):List Int:=ziP ws y.chairs.length
theorem zpG (ws:List (Uk .u8)):∀ n:Nat,(∀ x ∈ ziP ws n,0 ≤ x ∧ x < (n:Int)) ∧ (ziP ws n).Nodup
 | 0 => ⟨fun x hx => (by cases hx),List.Pairwise.nil⟩
 | n + 1 => by
  obtain ⟨h1,h2⟩:=zpG ws n
  unfold ziP
  split
  ·exact ⟨fun x hx => by have:=h1 x hx; omega,h2⟩
  ·generalize posW ws (ziP ws n) n = k
   have hp:List.Perm ((ziP ws n).take k ++ [(n:Int)] ++ (ziP ws n).drop k) ((n:Int) :: ziP ws n):=by
    rw [czd]
    have:=List.perm_middle (a:=(n:Int)) (l₁:=(ziP ws n).take k) (l₂:=(ziP ws n).drop k)
    rwa [List.take_append_drop] at this
   refine ⟨fun x hx => ?_,hp.nodup_iff.2 (List.nodup_cons.2 ⟨fun q => ?_,h2⟩)⟩
   ·rcases czn.1 (hp.mem_iff.1 hx) with rfl | q
    ·omega
    ·have:=h1 x q; omega
   ·have:=h1 _ q; omega
theorem ordN_len (ws:List (Uk .u8)) (n:Nat):(ziP ws n).length ≤ n:=zjD n _ (zpG ws n).1 (zpG ws n).2
def zhK (y:Yd) (ws:List (Uk .u8)) (i:Nat):Rg:=⟨zdL ws ((i:Int) + 8) % (y.chairs.length:Int),zdL ws ((i:Int) + 8) / 8 % (y.t.last + 1)⟩
def zfL (y:Yd) (t:List Int) (ws:List (Uk .u8)):Nat → List Rg
 | 0 => []
 | i + 1 => if canY y y.order t (zhK y ws i).lo (zhK y ws i).hi.toNat then zfL y t ws i ++ [zhK y ws i] else zfL y t ws i
def ziQ (y:Yd) (ws:List (Uk .u8)):Nat:=if y.chairs.length = 0 then 0 else (zdL ws 7 % 6).toNat
def zmy (y:Yd) (which:Int):List Int:=at_ (zaS y.t) (which % ((zaS y.t).length:Int)).toNat
def hiredY (y:Yd) (which:Int) (ws:List (Uk .u8)):Yd:={ y with hires:=zfL y (zmy y which) ws (ziQ y ws) }
theorem hireW_ok {y:Yd} (hv:VY y) {ws:List (Uk .u8)} (hw:WsOk ws) (hc:0 < y.chairs.length) (i:Nat):(0 ≤ (zhK y ws i).lo ∧ (zhK y ws i).lo < y.chairs.length) ∧ 0 ≤ (zhK y ws i).hi ∧ (zhK y ws i).hi ≤ y.t.last:=by
 have hl:=hv.l0
 have h1:=Int.emod_nonneg (zdL ws ((i:Int) + 8)) (show (y.chairs.length:Int) ≠ 0 by omega)
 have h2:=Int.emod_lt_of_pos (zdL ws ((i:Int) + 8)) (show (0:Int) < y.chairs.length by omega)
 have h3:=Int.emod_nonneg (zdL ws ((i:Int) + 8) / 8) (show y.t.last + 1 ≠ 0 by omega)
 have h4:=Int.emod_lt_of_pos (zdL ws ((i:Int) + 8) / 8) (show (0:Int) < y.t.last + 1 by omega)
 unfold zhK
 dsimp only
 omega
theorem zk5 (y:Yd) (t:List Int) (ws:List (Uk .u8)):∀ n,(zfL y t ws n).length ≤ n
 | 0 => czf _
 | n + 1 => by
  have:=zk5 y t ws n
  unfold zfL
  split
  ·simp; omega
  ·omega
theorem manyW_le (y:Yd) (ws:List (Uk .u8)):ziQ y ws ≤ 5 ∧ (0 < ziQ y ws → 0 < y.chairs.length):=by
 have h1:=Int.emod_lt_of_pos (zdL ws 7) (show (0:Int) < 6 by omega)
 have h2:=Int.emod_nonneg (zdL ws 7) (show (6:Int) ≠ 0 by omega)
 unfold ziQ
 split <;> omega
theorem zsV {y:Yd} (hv:VY y) {which:Int} (h:0 ≤ which):zmy y which ∈ zaS y.t:=by
 have hl:0 < (zaS y.t).length:=List.length_pos_iff.2 hv.tr
 have h1:=Int.emod_nonneg which (show ((zaS y.t).length:Int) ≠ 0 by omega)
 have h2:=Int.emod_lt_of_pos which (show (0:Int) < (zaS y.t).length by omega)
 exact zbv (by omega)
section
variable {mem:List AObj} {a v L M0 O so:Nat}
theorem ztA (y:Yd) (ts:List Sea) (st:Nat) (zs zo:List (List AV)) (o:List Int) (hw:zu1 ⟨y,ts⟩) (ho:o.length ≤ 4096)
  (ha:zaa mem a = .cells [.int .i64 y.t.last,.sl (y.t.heights.map EncE.cs) .no,.int .i64 y.t.step,.sl (y.t.levels.map EncE.cs) .no,.sl (y.t.marks.map EncE.cs) .no,.int .i64 y.hands,.sl (y.chairs.map EncE.cs) .no,.sl (y.order.map EncE.cs) .no,.sl (y.hires.map EncE.cs) .no,.vec v st 0 ts.length 2])
  (hvv:zaa mem v = .vec (ts.map EncE.cs ++ zs) 2 st) (hL:zaa mem L = .cells ((List.range ts.length).map fun i => .mp (M0 + i))) (hO:zaa mem O = .vec (o.map EncE.cs ++ zo) 1 so) (h0:Kn8 y ts M0 mem mem) :
  zeK Tryz.prog 103 [.ptr a 0,.vec O so 0 o.length 1,.arr L 0 ts.length 1] mem
   (fun r m' => r = .tup [.int .i64 (zc0 y ts o ts.length).1,.int .i64 (zc0 y ts o ts.length).2] ∧ Kn8 y ts M0 mem m'):=by
 have hal:=zbf ha (by simp)
 have hvl:=zbf hvv (by simp)
 have hLl:=zbf hL (by simp)
 have hOl:=zbf hO (by simp)
 have hpic:(o.map EncE.cs ++ zo).take o.length = o.map EncE.cs:=List.take_left' (by simp)
 obtain ⟨hv,hys,hl4⟩:=hw
 dsimp only at hv hys hl4
 have hb1:=hv.l0
 have hb2:=hv.h0
 have hb3:=hv.h5
 have hc5:=hv.c5
 refine zbU (Φ:=P131) Tryz.func103 rfl (by rfl) (by rw [Tryz.ntmps103]; simp) zaB zik ?_
 rw [Tryz.ntmps103]
 simp only [Tryz.f103,zai,zam]
 simp (maxSteps:=4000000) only [go_sem,zae,zac,zad,zan,zaq,czb,cza,↓reduceIte,zab,zay,onz,ha,hvv]
 all_goals (repeat' first | (with_reducible first | rfl | apply And.intro | assumption) | ((with_reducible show zaj _ _ = true); rfl)) <;> try first | omega | (simp only [InR]; omega)
 refine zjN [] [0,1,2,15,16] (fun b:Nat × List AObj => [(17,.int .i64 b.1),(6,.int .i64 (zc0 y ts o b.1).1),(7,.int .i64 (zc0 y ts o b.1).2)]) (fun b _ => b.2) (fun b => b.1 ≤ ts.length ∧ Kn8 y ts M0 mem b.2) (fun b => ts.length - b.1) (((0,mem):Nat × List AObj)) ?_ ?_ ?_
 ·exact ⟨Nat.zero_le _,h0⟩
 ·refine ⟨rfl,rfl,rfl,czf _,za0 _,?_,zby h0.ok,trivial⟩
  show zaN _ mem.length _
  simp [AV.bare,zal,zaN,zaR,zak,zar,zaf,tokz1,lk,zaa,za3,zc0,hal,hvl,hLl,hOl,-List.map_map]
 ·rintro ⟨i,m⟩ ⟨hi0,hK⟩
  simp only at hi0 hK
  have hml:=hK.len
  have hma:=h0.keep hK ha
  have hmv:=h0.keepV hK hvv
  have hmL:=h0.keep hK hL
  have hmO:=h0.keepV hK hO
  obtain ⟨n0,hn0⟩:∃ n0,mem.length = n0:=⟨_,rfl⟩
  rw [hn0] at hml hal hvl hLl hOl
  have gA:∀ r,zaa (m ++ r) a = _:=fun r => (zaT (by omega)).trans hma
  have gV:∀ r,zaa (m ++ r) v = _:=fun r => (zaT (by omega)).trans hmv
  have gL:∀ r,zaa (m ++ r) L = _:=fun r => (zaT (by omega)).trans hmL
  have gO:∀ r,zaa (m ++ r) O = _:=fun r => (zaT (by omega)).trans hmO
  have g0:∀ r,zaa (m ++ r) n0 = zaa r 0:=fun r => by rw [← hml]; exact zaK _ _ 0
  have s0:∀ r o,(m ++ r).set n0 o = m ++ r.set 0 o:=fun r o => by rw [← hml]; exact zbN _ _ 0 _
  have hmok:=hK.ok
  rw [hml] at hmok
  by_cases hi:i < ts.length
  ·have hi':=czH.2 hi
   have hgd:(ts.map EncE.cs ++ zs).getD i [] = EncE.cs (at_ ts i):=by
    have:=zax (f:=EncE.cs) hi
    rw [← this]
    simp [List.getD,czi,hi]
   refine zkI fun Q0 hQ0 => ?_
   simp (maxSteps:=4000000) only [go_sem,zae,zac,zad,zan,zaq,czb,cza,↓reduceIte,zab,zay,onz,gA,gV,gL,gO,hpic,g0,s0,hma,hmv,hmL,hml,hgd,hi',czc]
   all_goals (repeat' first | (with_reducible first | rfl | apply And.intro | assumption) | ((with_reducible show zaj _ _ = true); rfl)) <;> try first | omega | (simp only [InR]; omega)
   refine zjN [] [0,1,2,6,7,8,9,15,16,17,19,20,21,22,23,24,25,26,27] (fun b:Nat × List AObj => [(28,.int .i64 b.1),(10,.int .i64 (zg3 y (at_ ts i) o b.1))]) (fun b _ => b.2 ++ [.cells [.sl ((at_ ts i).hs.map EncE.cs) .no,.sl ((at_ ts i).rows.map EncE.cs) .no]]) (fun b => b.1 ≤ y.chairs.length ∧ Kn8 y ts M0 mem b.2) (fun b => y.chairs.length - b.1) (((0,m):Nat × List AObj)) ?_ ?_ ?_
   ·exact ⟨Nat.zero_le _,hK⟩
   ·refine ⟨rfl,rfl,rfl,?_,za0 _,?_,zby ?_,trivial⟩
    ·show mem.length ≤ (m ++ [_]).length
     rw [czc,hml,hn0]
     omega
    ·show zaN _ (m ++ [_]).length _
     rw [czc,hml]
     simp [AV.bare,zal,zaN,zaR,zak,zar,zaf,tokz1,lk,zaa,za3,hal,hvl,hLl,hOl,zg3,-List.map_map]
     try omega
    ·exact zce (m:=m) (n0:=n0) hmok (by show n0 ≤ (m ++ [_]).length; rw [czc,hml]; omega) (by simp [AV.bare,zal,zaN,zaR,zak,zar,zaf,tokz1,lk,zaa,za3,-List.map_map])
   ·rintro ⟨c,m1⟩ ⟨hc0,hK1⟩
    simp only at hc0 hK1
    have hml1:=hK1.len
    rw [hn0] at hml1
    have hma1:=h0.keep hK1 ha
    have hmv1:=h0.keepV hK1 hvv
    have hmL1:=h0.keep hK1 hL
    have hmO1:=h0.keepV hK1 hO
    have gA1:∀ r,zaa (m1 ++ r) a = _:=fun r => (zaT (by omega)).trans hma1
    have gV1:∀ r,zaa (m1 ++ r) v = _:=fun r => (zaT (by omega)).trans hmv1
    have gL1:∀ r,zaa (m1 ++ r) L = _:=fun r => (zaT (by omega)).trans hmL1
    have gO1:∀ r,zaa (m1 ++ r) O = _:=fun r => (zaT (by omega)).trans hmO1
    have g01:∀ r,zaa (m1 ++ r) n0 = zaa r 0:=fun r => by rw [← hml1]; exact zaK _ _ 0
    have hmok1:=hK1.ok
    rw [hml1] at hmok1
    by_cases hc:c < y.chairs.length
    ·have hc':=czH.2 hc
     have hci:(0:Int) ≤ c ∧ (c:Int) < y.chairs.length:=⟨by omega,hc'⟩
     obtain ⟨ks,vs,hM,hmm⟩:=hK1.maps i hi
     have hMl:=zbf hmm (by simp)
     have hkn:((List.range ts.length).map fun i => AV.mp (M0 + i)).getD i .undef = .mp (M0 + i):=by simp [List.getD,hi]
     obtain ⟨b,hb⟩:∃ b,zca y o c = b:=⟨_,rfl⟩
     have hrc:=zmN (mem:=m1 ++ [.cells [.sl ((at_ ts i).hs.map EncE.cs) .no,.sl ((at_ ts i).rows.map EncE.cs) .no]]) (a:=a) (m:=M0 + i) y (at_ ts i) (.vec v st 0 ts.length 2) rfl ks vs hM c b (hys _ (zbv hi)) hci (gA1 _) ((zaT hMl).trans hmm) (by
      have:(m1 ++ [AObj.cells [.sl ((at_ ts i).hs.map EncE.cs) .no,.sl ((at_ ts i).rows.map EncE.cs) .no]]).length = n0 + 1:=by simp [hml1]
      rw [this]
      exact zce hmok1 (by omega) (by simp [AV.bare,zal,zaN,zaR,zak,zar,zaf,tokz1,lk,zaa,za3,-List.map_map]))
     simp (maxSteps:=4000000) only [go_sem,zae,zac,zad,zan,zaq,czb,cza,↓reduceIte,zab,zay,onz,gA1,gV1,gL1,gO1,hpic,g01,hml1,hkn,hc',hb,czc]
     all_goals (repeat' first | (with_reducible first | rfl | apply And.intro | assumption) | ((with_reducible show zaj _ _ = true); rfl)) <;> try first | omega | (simp only [InR]; omega)
     ·simpa using hi
     refine ⟨[],by rfl,_,zbE hrc,?_⟩
     rintro r mem' ⟨r0,rfl,⟨rfl,ks',vs',hM',rfl⟩,hlen⟩ _
     have hset:∀ (r:List AObj) o,(m1 ++ r).set (M0 + i) o = m1.set (M0 + i) o ++ r:=fun r o => List.set_append_left _ _ (by omega)
     have hK2:=hK1.put hi hM'
     have hsuc:=zk0 y (at_ ts i) o c
     rw [hb] at hsuc
     rw [hset]
     simp (maxSteps:=4000000) only [go_sem,zae,zac,zad,zan,zaq,czb,cza,↓reduceIte,zab,zay,onz]
     all_goals (repeat' first | (with_reducible first | rfl | apply And.intro | assumption) | ((with_reducible show zaj _ _ = true); rfl)) <;> try first | omega | (simp only [InR]; omega)
     ·trivial
     ·intro q
      rw [if_pos q] at hsuc
      have hbd:=zhE y (at_ ts i) o c
      refine ⟨(by simp only [InR]; omega),(by simp only [InR]; omega),(c + 1,m1.set (M0 + i) (.map ks' (vs'.map AV.bool))),⟨by dsimp only; omega,hK2⟩,by dsimp only; omega,zbl ⟨rfl,rfl,rfl,?_,za0 _,?_,zby ?_,trivial⟩⟩
      ·show mem.length ≤ (List.set m1 _ _ ++ [_]).length
       rw [czc,czt,hml1,hn0]
       omega
      ·show zaN _ (List.set m1 _ _ ++ [_]).length _
       rw [czc,czt,hml1]
       simp [AV.bare,zal,zaN,zaR,zak,zar,zaf,tokz1,lk,zaa,za3,hsuc,hal,hvl,hLl,hOl,-List.map_map]
       try omega
      ·have:=hK2.ok
       rw [czt,hml1] at this
       exact zce this (by show n0 ≤ (List.set m1 _ _ ++ [_]).length; rw [czc,czt,hml1]; omega) (by simp [AV.bare,zal,zaN,zaR,zak,zar,zaf,tokz1,lk,zaa,za3,-List.map_map])
     ·intro q
      rw [if_neg (by rw [q]; simp)] at hsuc
      have hbd:=zhE y (at_ ts i) o c
      refine ⟨(by simp only [InR]; omega),(c + 1,m1.set (M0 + i) (.map ks' (vs'.map AV.bool))),⟨by dsimp only; omega,hK2⟩,by dsimp only; omega,zbl ⟨rfl,rfl,rfl,?_,za0 _,?_,zby ?_,trivial⟩⟩
      ·show mem.length ≤ (List.set m1 _ _ ++ [_]).length
       rw [czc,czt,hml1,hn0]
       omega
      ·show zaN _ (List.set m1 _ _ ++ [_]).length _
       rw [czc,czt,hml1]
       simp [AV.bare,zal,zaN,zaR,zak,zar,zaf,tokz1,lk,zaa,za3,hsuc,hal,hvl,hLl,hOl,-List.map_map]
       try omega
      ·have:=hK2.ok
       rw [czt,hml1] at this
       exact zce this (by show n0 ≤ (List.set m1 _ _ ++ [_]).length; rw [czc,czt,hml1]; omega) (by simp [AV.bare,zal,zaN,zaR,zak,zar,zaf,tokz1,lk,zaa,za3,-List.map_map])
    ·have hce:c = y.chairs.length:=by omega
     subst hce
     simp (maxSteps:=4000000) only [go_sem,zae,zac,zad,zan,zaq,czb,cza,↓reduceIte,zab,zay,onz,czA]
     all_goals (repeat' first | (with_reducible first | rfl | apply And.intro | assumption) | ((with_reducible show zaj _ _ = true); rfl)) <;> try first | omega | (simp only [InR]; omega)
     ·intro q
      have hlp:zc0 y ts o (i + 1) = (zg3 y (at_ ts i) o y.chairs.length,(i:Int)):=by rw [zc0]; exact if_pos (of_decide_eq_true q)
      refine ⟨(by simp only [InR]; omega),?_⟩
      rw [hQ0]
      simp only [zaW]
      refine ⟨(i + 1,m1),⟨by dsimp only; omega,hK1⟩,by dsimp only; omega,zbl ⟨rfl,rfl,rfl,?_,zd2 _ _,?_,zby ?_,trivial⟩⟩
      ·show mem.length ≤ m1.length
       rw [hml1,hn0]
       omega
      ·show zaN _ m1.length _
       rw [hml1]
       simp [AV.bare,zal,zaN,zaR,zak,zar,zaf,tokz1,lk,zaa,za3,hlp,hal,hvl,hLl,hOl,-List.map_map]
       try omega
      ·exact hK1.ok
     ·intro q
      have hlp:zc0 y ts o (i + 1) = zc0 y ts o i:=by rw [zc0]; exact if_neg (of_decide_eq_false q)
      refine ⟨(by simp only [InR]; omega),?_⟩
      rw [hQ0]
      simp only [zaW]
      refine ⟨(i + 1,m1),⟨by dsimp only; omega,hK1⟩,by dsimp only; omega,zbl ⟨rfl,rfl,rfl,?_,zd2 _ _,?_,zby ?_,trivial⟩⟩
      ·show mem.length ≤ m1.length
       rw [hml1,hn0]
       omega
      ·show zaN _ m1.length _
       rw [hml1]
       simp [AV.bare,zal,zaN,zaR,zak,zar,zaf,tokz1,lk,zaa,za3,hlp,hal,hvl,hLl,hOl,-List.map_map]
       try omega
      ·exact hK1.ok
  ·have hie:i = ts.length:=by omega
   subst hie
   simp (maxSteps:=4000000) only [go_sem,zae,zac,zad,zan,zaq,czb,cza,↓reduceIte,zab,zay,onz,czA]
   all_goals (repeat' first | (with_reducible first | rfl | apply And.intro | assumption) | ((with_reducible show zaj _ _ = true); rfl)) <;> try first | omega | (simp only [InR]; omega)
   refine ⟨m.length,by omega,czf _,?_,by simp [AV.bare,zal,zaN,zaR,zak,zar,zaf,tokz1,lk,zaa,za3],?_⟩
   ·rw [czm]; exact hK
   ·rw [czm,hml]; exact hmok
end
end Go.Proofs
