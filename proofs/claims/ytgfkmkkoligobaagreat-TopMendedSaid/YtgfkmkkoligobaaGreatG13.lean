/- The texts Y12, Y13, YM6, Y14, Y15, Y16, Y17, joined. -/
import Derived.Test.YtgfkmkkoligobaaGreatG12
set_option linter.all false
namespace Go.Proofs
open Go.Fs
set_option maxHeartbeats 8000000
set_option maxRecDepth 8000
def P228 (g:FuncId):=(zat 33 (zbD (fun (y:My) (t:List Pt) => MOk y ∧ IsTr y t) (fun _ _ => true)) (P227):zay) g
theorem P228_ok:zam Tryz.prog P228:=zah (zaK is_call) (P227_ok)
theorem zlU (d:Option Nat):zaw P228 d = none:=(zag (by decide) d).trans (zlV d)
attribute [go_sem] P228 zlU
theorem znd (l:List Int) (x:Int) (h:l = []):zaH Tryz.prog 94 [Enc.enc l,Enc.enc x] (· = Enc.enc (-1:Int)):=by
 subst h
 simp only [zbT]
 refine cpz P228_ok Tryz.func94 zaA ?_
 rw [Tryz.ntmps94]
 simp only [Tryz.f94,zaj,zao]
 simp (maxSteps:=4000000) only [go_sem,AV.one,zae,zab,zac,zan,zaq,zaa,czb,cza,↓reduceIte,zaf,onz]
 all_goals (repeat' first | (with_reducible first | rfl | apply And.intro | assumption) | ((with_reducible show zad _ _ = true); rfl)) <;> try first | omega | (simp only [InR]; omega)
 refine zbg (0) [] [0,1,4,7] (fun i => [(8,.int .i64 i)]) (fun _ m => m) (fun _ => True) ?_ ?_ ?_ ?_
 ·trivial
 ·simp [AV.bare,zal,zaF,zaI,zak,zas,zai,tokz1,lk,zaa,zaZ]
 ·intro i hi _
  omega
 ·intro _
  simp (maxSteps:=4000000) only [go_sem,AV.one,zae,zab,zac,zan,zaq,zaa,czb,cza,↓reduceIte,zaf,onz,czA]
  all_goals exact auz
def P229 (g:FuncId):=(zat 94 (zbD (fun (l:List Int) (_:Int) => l = []) (fun _ _ => (-1:Int))) (P228):zay) g
theorem P229_ok:zam Tryz.prog P229:=zah (zaK znd) (P228_ok)
theorem zlT (d:Option Nat):zaw P229 d = none:=(zag (by decide) d).trans (zlU d)
attribute [go_sem] P229 zlT
theorem zin (l:List Int) (x:Int) (h:l = []):zaH Tryz.prog 78 [Enc.enc l,Enc.enc x] (· = Enc.enc false):=by
 simp only [zbT]
 refine cpz P229_ok Tryz.func78 zaA ?_
 rw [Tryz.ntmps78]
 simp only [Tryz.f78,zaj,zao]
 simp (maxSteps:=4000000) only [go_sem,AV.one,zae,zab,zac,zan,zaq,zaa,czb,cza,↓reduceIte,zaf,onz,h]
 all_goals exact auz
def P230 (g:FuncId):=(zat 78 (zbD (fun (l:List Int) (_:Int) => l = []) (fun _ _ => false)) (P229):zay) g
theorem P230_ok:zam Tryz.prog P230:=zah (zaK zin) (P229_ok)
theorem zlS (d:Option Nat):zaw P230 d = none:=(zag (by decide) d).trans (zlT d)
attribute [go_sem] P230 zlS
theorem zp7 (y:My) (n:Int) (l:List Int) (h:MOk y ∧ l = []):zaH Tryz.prog 52 [Enc.enc y,Enc.enc n,Enc.enc l] (· = Enc.enc (zdx y.claims n)):=by
 obtain ⟨hy,rfl⟩:=h
 have h5:=hy.cls
 simp only [zbT]
 refine cpz P230_ok Tryz.func52 zaA ?_
 rw [Tryz.ntmps52]
 simp only [Tryz.f52,zaj,zao]
 simp (maxSteps:=4000000) only [go_sem,AV.one,zae,zab,zac,zan,zaq,zaa,czb,cza,↓reduceIte,zaf,onz]
 all_goals (repeat' first | (with_reducible first | rfl | apply And.intro | assumption) | ((with_reducible show zad _ _ = true); rfl)) <;> try first | omega | (simp only [InR]; omega)
 refine zbg (y.claims.length) [] [1,2,6,10,11] (fun i => [(12,.int .i64 i)]) (fun _ m => m) (fun i => ∀ j,j < i → inB n (at_ y.claims j).lo (at_ y.claims j).hi = true) ?_ ?_ ?_ ?_
 ·intro j hj; omega
 ·simp [AV.bare,zal,zaF,zaI,zak,zas,zai,tokz1,lk,zaa,zaZ]
 ·intro i hi hI
  have hi':=czH.2 hi
  have hg:=zar (f:=EncE.cs) hi
  obtain ⟨r,hr⟩:∃ r,at_ y.claims i = r:=⟨_,rfl⟩
  rw [hr] at hg
  cases c1:inB n r.lo r.hi
  ·have e:zdx y.claims n = false:=by
    unfold zdx
    rw [List.all_eq_false]
    exact ⟨r,by rw [← hr]; exact zaS hi,by simp [c1]⟩
   rw [e]
   simp (maxSteps:=4000000) only [go_sem,AV.one,zae,zab,zac,zan,zaq,zaa,czb,cza,↓reduceIte,zaf,onz,hi',hg,hi,c1]
   all_goals exact auz
  ·simp (maxSteps:=4000000) only [go_sem,AV.one,zae,zab,zac,zan,zaq,zaa,czb,cza,↓reduceIte,zaf,onz,hi',hg,hi,c1]
   all_goals (repeat' first | (with_reducible first | rfl | apply And.intro | assumption) | ((with_reducible show zad _ _ = true); rfl)) <;> try first | omega | (simp only [InR]; omega)
   refine nxt hi (fun j hj => ?_) ?_
   ·by_cases e:j = i
    ·rw [e,hr]; exact c1
    ·exact hI j (by omega)
   simp [AV.bare,zal,zaF,zaI,zak,zas,zai,tokz1,lk,zaa,zaZ]
 ·intro hI
  have e:zdx y.claims n = true:=by
   unfold zdx
   rw [czG]
   intro r hr
   obtain ⟨i,hi,rfl⟩:=zoz hr
   exact hI i hi
  rw [e]
  simp (maxSteps:=4000000) only [go_sem,AV.one,zae,zab,zac,zan,zaq,zaa,czb,cza,↓reduceIte,zaf,onz,czA]
  all_goals exact auz
/-! The scene of a truth. -/
def zcT (t:List Pt):Nat:=t.countP zbe
def zc3 (y:My) (t:List Pt) (i:Nat):List Int:=(List.range 7).map fun j => if j < i then ((zb4 (zkh y t j) t.length:Nat):Int) else 0
theorem zbP (y:My) (t:List Pt) (i:Nat):(zc3 y t i).length = 7:=by simp [zc3]
theorem zdC (y:My) (t:List Pt) (i:Nat) {j:Nat} (hj:j < 7):at_ (zc3 y t i) j = if j < i then ((zb4 (zkh y t j) t.length:Nat):Int) else 0:=by
 unfold zc3 at_
 simp [List.getD,hj]
theorem fit_zero {y:My} {t:List Pt} {i:Nat} (h:zbe (at_ t i) = true) (k:Nat):zkh y t i k = false:=by
 unfold zkh zfU
 simp [h]
theorem zhO {l r:List Int} (h1:l.length = 7) (h2:r.length = 7) (h:∀ j,j < 7 → at_ l j = at_ r j):l = r:=by
 refine List.ext_getElem (by omega) fun j g1 g2 => ?_
 have:=h j (by omega)
 rwa [zcW g1,zcW g2] at this
theorem znq {y:My} {t:List Pt} {i:Nat} (h:zbe (at_ t i) = true):zc3 y t (i + 1) = zc3 y t i :=
 zhO (zbP _ _ _) (zbP _ _ _) fun j hj => by
  rw [zdC _ _ _ hj,zdC _ _ _ hj]
  by_cases e:j = i
  ·subst e
   rw [if_pos (by omega),if_neg (by omega),zlo (fit_zero h)]; rfl
  ·by_cases e2:j < i
   ·rw [if_pos (by omega),if_pos e2]
   ·rw [if_neg (by omega),if_neg e2]
theorem znY {l:List Int} {i k:Nat} {x:Int} (hk:k < l.length):at_ (l.set i x) k = if i = k then x else at_ l k:=zjc hk
theorem znr {y:My} {t:List Pt} {i:Nat} (hi:i < 7):(zc3 y t i).set i 0 = zc3 y t i :=
 zhO (by rw [czt]; exact zbP _ _ _) (zbP _ _ _) fun j hj => by
  rw [znY (by rw [zbP]; exact hj)]
  split
  ·rename_i e; subst e; rw [zdC _ _ _ hj,if_neg (by omega)]
  ·rfl
theorem fitsL_end {y:My} {t:List Pt} {i:Nat} (hi:i < 7):(zc3 y t i).set i ((zb4 (zkh y t i) t.length:Nat):Int) = zc3 y t (i + 1) :=
 zhO (by rw [czt]; exact zbP _ _ _) (zbP _ _ _) fun j hj => by
  rw [znY (by rw [zbP]; exact hj)]
  split
  ·rename_i e; subst e; rw [zdC _ _ _ hj,if_pos (by omega)]
  ·rename_i e
   rw [zdC _ _ _ hj,zdC _ _ _ hj]
   by_cases e2:j < i
   ·rw [if_pos e2,if_pos (by omega)]
   ·rw [if_neg e2,if_neg (by omega)]
def za7 (y:My) (t:List Pt):Sc:=⟨((zcT t:Nat):Int),((zb4 (fun j => !zbe (at_ t j)) t.length:Nat):Int),⟨zc3 y t t.length,zbP _ _ _⟩⟩
theorem sc_get (w b:AV) (L:List Int) {i:Nat} (hi:i < L.length):(w :: b :: L.map (AV.int .i64)).getD (2 + i) .undef = .int .i64 (at_ L i):=by
 rw [show 2 + i = i + 1 + 1 by omega]
 simp [List.getD,List.getElem?_map,at_,hi]
theorem sc_set (w b:AV) (L:List Int) (i:Nat) (x:Int):(w :: b :: L.map (AV.int .i64)).set (2 + i) (.int .i64 x) = w :: b :: (L.set i x).map (AV.int .i64):=by
 rw [show 2 + i = i + 1 + 1 by omega,List.set_cons_succ,List.set_cons_succ,List.map_set]
def P231 (g:FuncId):=(zat 52 (zgE (fun (y:My) (_:Int) (l:List Int) => MOk y ∧ l = []) (fun y n _ => zdx y.claims n)) (P230):zay) g
theorem zn4:zam Tryz.prog P231:=zah (zcY zp7) (P230_ok)
theorem zlR (d:Option Nat):zaw P231 d = none:=(zag (by decide) d).trans (zlS d)
attribute [go_sem] P231 zlR
theorem sc_over (w b v:AV) (L:List AV) {i:Nat} (hi:i < L.length):List.take (2 + i) (w :: b :: L) ++ v :: List.drop (2 + i) (b :: L) = w :: b :: L.set i v:=by
 rw [show 2 + i = i + 1 + 1 by omega,List.take_succ_cons,List.take_succ_cons,List.drop_succ_cons,List.set_eq_take_append_cons_drop,if_pos hi]
 rfl
theorem zp3 (y:My) (t:List Pt) (h:MOk y ∧ TOk t ∧ t.length = y.chairs.length):zaH Tryz.prog 35 [Enc.enc y,Enc.enc t] (· = Enc.enc (za7 y t)):=by
 obtain ⟨hy,ht,hl⟩:=h
 have h7:=hy.len
 have hz:(zc3 y t 0).map (AV.int .i64) = [.int .i64 0,.int .i64 0,.int .i64 0,.int .i64 0,.int .i64 0,.int .i64 0,.int .i64 0]:=rfl
 simp only [zbT]
 refine cpz zn4 Tryz.func35 zaA ?_
 rw [Tryz.ntmps35]
 simp only [Tryz.f35,zaj,zao]
 simp (maxSteps:=4000000) only [go_sem,AV.one,zae,zab,zac,zan,zaq,zaa,czb,cza,↓reduceIte,zaf,onz]
 all_goals (repeat' first | (with_reducible first | rfl | apply And.intro | assumption) | ((with_reducible show zad _ _ = true); rfl)) <;> try first | omega | (simp only [InR]; omega)
 refine zbg (t.length) [] [1,2,4,9,10] (fun i => [(11,.int .i64 i)]) (fun i m => m.set 1 (.cells (.int .i64 ((zcT (t.take i):Nat):Int) :: .int .i64 ((zb4 (fun j => !zbe (at_ t j)) i:Nat):Int) :: (zc3 y t i).map (AV.int .i64)))) (fun _ => True) ?_ ?_ ?_ ?_
 ·trivial
 ·simp [AV.bare,zal,zaF,zaI,zak,zas,zai,tokz1,lk,zaa,zaZ,hz,zcT,zb4]
 ·intro i hi _
  have hi':=czH.2 hi
  have hg:=zar (f:=EncE.cs) hi
  have hp:=ht _ (zaS hi)
  have hw:zcT (t.take (i + 1)) = zcT (t.take i) + if zbe (at_ t i) = true then 1 else 0:=by unfold zcT; rw [zaM hi,List.countP_append]; simp [List.countP_cons]
  have hb:zcT (t.take i) ≤ i:=by unfold zcT; exact Nat.le_trans List.countP_le_length (by simp; omega)
  have hbs:zb4 (fun j => !zbe (at_ t j)) (i + 1) = if (!zbe (at_ t i)) = true then zb4 (fun j => !zbe (at_ t j)) i ||| 2 ^ i else zb4 (fun j => !zbe (at_ t j)) i:=rfl
  have hb7:=zj1 (fun j => !zbe (at_ t j)) (n:=i) (by omega)
  have hp8:=pow8 i (by omega)
  have hpn:=zfs i
  have hp2:2 ^ i ≤ 256:=by have:=zhl i; omega
  obtain ⟨p,hpe⟩:∃ p,at_ t i = p:=⟨_,rfl⟩
  obtain ⟨W,hW⟩:∃ W,zcT (t.take i) = W:=⟨_,rfl⟩
  obtain ⟨B,hB⟩:∃ B,zb4 (fun j => !zbe (at_ t j)) i = B:=⟨_,rfl⟩
  rw [hW] at hw hb
  rw [hB] at hbs hb7
  rw [hW,hB]
  cases c1:zbe (at_ t i)
  case true =>
   have hfw:=znq (y:=y) c1
   rw [c1] at hw hbs
   rw [hpe] at hg c1
   simp (maxSteps:=4000000) only [go_sem,AV.one,zae,zab,zac,zan,zaq,zaa,czb,cza,↓reduceIte,zaf,onz,hi',hg,hi,c1]
   all_goals (repeat' first | (with_reducible first | rfl | apply And.intro | assumption) | ((with_reducible show zad _ _ = true); rfl)) <;> try first | omega | (simp only [InR]; omega)
   refine nxt hi trivial ?_
   simp [AV.bare,zal,zaF,zaI,zak,zas,zai,tokz1,lk,zaa,zaZ,hw,hbs,hfw,-List.map_take]
  have hst:=znr (y:=y) (t:=t) (i:=i) (by omega)
  have hen:=fitsL_end (y:=y) (t:=t) (i:=i) (by omega)
  have hfl:=zbP y t i
  rw [c1] at hw hbs
  have hpo:=(ht _ (zaS hi)).ok
  rw [hpe] at hg c1 hpo
  rw [← hst]
  simp (maxSteps:=4000000) only [go_sem,AV.one,zae,zab,zac,zan,zaq,zaa,czb,cza,↓reduceIte,zaf,onz,hi',hg,hi,c1,hpn]
  all_goals (repeat' first | (with_reducible first | rfl | apply And.intro | assumption) | ((with_reducible show zad _ _ = true); rfl)) <;> try first | omega | (simp only [InR]; omega)
  refine zbg (t.length) [] [1,2,4,5,6,9,10,11,13,14,15,16,18,19,20,21,22,23,24,25,26,27,28,29] (fun k => [(30,.int .i64 k)]) (fun k m => m.set 1 (.cells (.int .i64 (W:Int) :: .int .i64 ((B ||| 2 ^ i:Nat):Int) :: ((zc3 y t i).set i ((zb4 (zkh y t i) k:Nat):Int)).map (AV.int .i64)))) (fun _ => True) ?_ ?_ ?_ ?_
  ·trivial
  ·simp [AV.bare,zal,zaF,zaI,zak,zas,zai,tokz1,lk,zaa,zaZ,zb4,-List.map_set]
  ·intro k hk _
   have hk':=czH.2 hk
   have hgk:=zar (f:=EncE.cs) hk
   have hqo:=(ht _ (zaS hk)).ok
   have hfs:zb4 (zkh y t i) (k + 1) = if zkh y t i k = true then zb4 (zkh y t i) k ||| 2 ^ k else zb4 (zkh y t i) k:=rfl
   have hf7:=zj1 (zkh y t i) (n:=k) (by omega)
   have hk8:=pow8 k (by omega)
   have hkn:=zfs k
   have hk2:2 ^ k ≤ 256:=by have:=zhl k; omega
   have hki:decide ((k:Int) = (i:Int)) = decide (k = i):=by rw [decide_eq_decide]; omega
   have hfe:zkh y t i k = ((!decide (k = i) && zil y (i:Int) (k:Int)) && zfU p (at_ t k)):=by unfold zkh; rw [hpe]; simp
   obtain ⟨q,hq⟩:∃ q,at_ t k = q:=⟨_,rfl⟩
   rw [hq] at hgk hqo hfe
   obtain ⟨X,hX⟩:∃ X,zb4 (zkh y t i) k = X:=⟨_,rfl⟩
   rw [hX] at hfs hf7
   rw [hX]
   have hgt:=fun w b => sc_get w b ((zc3 y t i).set i (X:Int)) (i:=i) (by rw [czt,hfl]; omega)
   rw [znY (by rw [hfl]; omega),if_pos rfl] at hgt
   have hls:((zc3 y t i).set i (X:Int)).length = 7:=by rw [czt]; exact hfl
   have hsx:=fun w b x => sc_set w b ((zc3 y t i).set i (X:Int)) i x
   have hk4:(0:Int) ≤ (k:Int) ∧ (k:Int) ≤ 64:=by omega
   cases e1:decide (k = i)
   case true =>
    rw [e1] at hfe hki
    simp only [Bool.not_true,Bool.false_and] at hfe
    rw [hfe] at hfs
    simp (maxSteps:=4000000) only [go_sem,AV.one,zae,zab,zac,zan,zaq,zaa,czb,cza,↓reduceIte,zaf,onz,hk',hgk,hk,hki]
    all_goals (repeat' first | (with_reducible first | rfl | apply And.intro | assumption) | ((with_reducible show zad _ _ = true); rfl)) <;> try first | omega | (simp only [InR]; omega)
    refine nxt hk trivial ?_
    simp [AV.bare,zal,zaF,zaI,zak,zas,zai,tokz1,lk,zaa,zaZ,hfs,-List.map_set]
   rw [e1] at hfe hki
   cases e2:zil y (i:Int) (k:Int)
   ·rw [e2] at hfe
    simp only [Bool.and_false,Bool.false_and] at hfe
    rw [hfe] at hfs
    simp (maxSteps:=4000000) only [go_sem,AV.one,zae,zab,zac,zan,zaq,zaa,czb,cza,↓reduceIte,zaf,onz,hk',hgk,hk,hki,e2]
    all_goals (repeat' first | (with_reducible first | rfl | apply And.intro | assumption) | ((with_reducible show zad _ _ = true); rfl)) <;> try first | omega | (simp only [InR]; omega)
    refine nxt hk trivial ?_
    simp [AV.bare,zal,zaF,zaI,zak,zas,zai,tokz1,lk,zaa,zaZ,hfs,-List.map_set]
   rw [e2] at hfe
   cases e3:zfU p q
   ·rw [e3] at hfe
    simp only [Bool.and_false] at hfe
    rw [hfe] at hfs
    simp (maxSteps:=4000000) only [go_sem,AV.one,zae,zab,zac,zan,zaq,zaa,czb,cza,↓reduceIte,zaf,onz,hk',hgk,hk,hki,e2,e3]
    all_goals (repeat' first | (with_reducible first | rfl | apply And.intro | assumption) | ((with_reducible show zad _ _ = true); rfl)) <;> try first | omega | (simp only [InR]; omega)
    refine nxt hk trivial ?_
    simp [AV.bare,zal,zaF,zaI,zak,zas,zai,tokz1,lk,zaa,zaZ,hfs,-List.map_set]
   ·rw [e3] at hfe
    simp only [Bool.not_false,Bool.and_true] at hfe
    rw [hfe] at hfs
    simp (maxSteps:=4000000) only [go_sem,AV.one,zae,zab,zac,zan,zaq,zaa,czb,cza,↓reduceIte,zaf,onz,hk',hgk,hk,hki,e2,e3,hgt,hsx,hkn]
    all_goals (repeat' first | (with_reducible first | rfl | apply And.intro | assumption) | ((with_reducible show zad _ _ = true); rfl)) <;> try first | omega | (simp only [InR]; omega)
    refine nxt hk trivial ?_
    simp [AV.bare,zal,zaF,zaI,zak,zas,zai,tokz1,lk,zaa,zaZ,hfs,-List.map_set]
    rw [sc_over _ _ _ _ (by rw [czz,hls]; omega),← List.map_set,List.set_set]
  ·intro _
   simp (maxSteps:=4000000) only [go_sem,AV.one,zae,zab,zac,zan,zaq,zaa,czb,cza,↓reduceIte,zaf,onz,czA]
   all_goals (repeat' first | (with_reducible first | rfl | apply And.intro | assumption) | ((with_reducible show zad _ _ = true); rfl)) <;> try first | omega | (simp only [InR]; omega)
   refine nxt hi trivial ?_
   simp [AV.bare,zal,zaF,zaI,zak,zas,zai,tokz1,lk,zaa,zaZ,hw,hbs,hen,-List.map_take]
 ·intro _
  obtain ⟨A,hA⟩:∃ A:Arr 7,A.l = zc3 y t t.length:=⟨⟨_,zbP _ _ _⟩,rfl⟩
  have hA7:=A.h
  have hse:za7 y t = ⟨((zcT t:Nat):Int),((zb4 (fun j => !zbe (at_ t j)) t.length:Nat):Int),A⟩:=by unfold za7; congr 1; exact Arr.ext hA.symm
  rw [hse,← hA]
  have hdr:List.drop 7 A.l = []:=List.drop_of_length_le (by omega)
  simp (maxSteps:=4000000) only [go_sem,zae,zab,zac,zan,zaq,zaa,czb,cza,↓reduceIte,zaf,onz,czA,czm,hA7,hdr,zdA,List.map_nil,List.append_nil,one_i]
  all_goals exact auz
/-! What a pairing makes in a scene. -/
structure zro (s:Sc):Prop where
 w0:0 ≤ s.whole
 w7:s.whole ≤ 7
 ft:∀ x ∈ s.fits.l,0 ≤ x ∧ x < 128
def zlM (l:List Rg):Prop:=l.length ≤ 4096 ∧ ∀ q ∈ l,(0 ≤ q.lo ∧ q.lo < 7) ∧ 0 ≤ q.hi ∧ q.hi < 7
def zqS (s:Sc) (q:Rg):Int:=at_ s.fits.l q.lo.toNat / 2 ^ q.hi.toNat % 2
def zbx (s:Sc) (l:List Rg):Int:=l.foldl (fun n q => n + zqS s q) s.whole
theorem znb (s:Sc) (l:List Rg) (q:Rg):zbx s (l ++ [q]) = zbx s l + zqS s q:=by unfold zbx; rw [List.foldl_append]; rfl
theorem bitS_bd {s:Sc} (q:Rg):0 ≤ zqS s q ∧ zqS s q ≤ 1:=by unfold zqS; omega
theorem ziR (s:Sc):∀ (l:List Rg) (n:Int),n ≤ l.foldl (fun n q => n + zqS s q) n ∧ l.foldl (fun n q => n + zqS s q) n ≤ n + l.length
 | [],n => ⟨Int.le_refl _,by simp⟩
 | q :: l,n => by
  have h:=ziR s l (n + zqS s q)
  have:=bitS_bd (s:=s) q
  rw [List.foldl_cons,cza]
  omega
theorem zhD {s:Sc} (h:zro s) (l:List Rg):0 ≤ zbx s l ∧ zbx s l ≤ 7 + l.length:=by
 have:=ziR s l s.whole
 have:=h.w0
 have:=h.w7
 unfold zbx; omega
theorem zql (s:Sc) (l:List Rg) (h:zro s ∧ zlM l):zaH Tryz.prog 57 [Enc.enc s,Enc.enc l] (· = Enc.enc (zbx s l)):=by
 obtain ⟨hs,hl,hq⟩:=h
 simp only [zbT]
 refine cpz zn4 Tryz.func57 zaA ?_
 rw [Tryz.ntmps57]
 simp only [Tryz.f57,zaj,zao]
 simp (maxSteps:=4000000) only [go_sem,AV.one,zae,zab,zac,zan,zaq,zaa,czb,cza,↓reduceIte,zaf,onz]
 all_goals (repeat' first | (with_reducible first | rfl | apply And.intro | assumption) | ((with_reducible show zad _ _ = true); rfl)) <;> try first | omega | (simp only [InR]; omega)
 refine zbg (l.length) [] [2,4,10,11] (fun i => [(12,.int .i64 i),(5,.int .i64 (zbx s (l.take i)))]) (fun _ m => m) (fun _ => True) ?_ ?_ ?_ ?_
 ·trivial
 ·simp [AV.bare,zal,zaF,zaI,zak,zas,zai,tokz1,lk,zaa,zaZ,zbx]
 ·intro i hi _
  have hi':=czH.2 hi
  have hg:=zar (f:=EncE.cs) hi
  have hqi:=hq _ (zaS hi)
  have hms:zbx s (l.take (i + 1)) = zbx s (l.take i) + zqS s (at_ l i):=by rw [zaM hi,znb]
  have hmb:=zhD hs (l.take i)
  have hlt:(l.take i).length ≤ l.length:=by simp; omega
  obtain ⟨q,hqe⟩:∃ q,at_ l i = q:=⟨_,rfl⟩
  rw [hqe] at hg hqi hms
  have hq7:q.lo.toNat < s.fits.l.length:=by have:=s.fits.h; omega
  have hfx:=hs.ft _ (zaS hq7)
  have hgt:=fun w b => sc_get w b s.fits.l hq7
  have hbb:zqS s q = at_ s.fits.l q.lo.toNat / 2 ^ q.hi.toNat % 2:=rfl
  have hb2:=bitS_bd (s:=s) q
  rw [hbb] at hb2 hms
  obtain ⟨x,hx⟩:∃ x,at_ s.fits.l q.lo.toNat = x:=⟨_,rfl⟩
  obtain ⟨x',rfl⟩:∃ x':Nat,x = (x':Int):=⟨x.toNat,by rw [hx] at hfx; omega⟩
  have hnn:=zgt x' q.hi.toNat
  rw [hx] at hgt hms hb2
  simp (maxSteps:=4000000) only [go_sem,AV.one,zae,zab,zac,zan,zaq,zaa,czb,cza,↓reduceIte,zaf,onz,hi',hg,hi,hgt]
  all_goals (repeat' first | (with_reducible first | rfl | apply And.intro | assumption) | ((with_reducible show zad _ _ = true); rfl)) <;> try first | omega | (simp only [InR]; omega)
  refine nxt hi trivial ?_
  simp [AV.bare,zal,zaF,zaI,zak,zas,zai,tokz1,lk,zaa,zaZ,hms,-List.map_take]
 ·intro _
  simp (maxSteps:=4000000) only [go_sem,AV.one,zae,zab,zac,zan,zaq,zaa,czb,cza,↓reduceIte,zaf,onz,czA,czm]
  all_goals exact auz
def zbX (w:Nat):List Nat:=(List.range 7).filter fun i => w.testBit i
def fG (G:Arr 7) (a b:Nat):Bool:=(at_ G.l a).toNat.testBit b
def zbw (G:Arr 7) (w:Nat):Nat:=mx (fG G) 7 (zbX w)
def zfw (w b:Nat):Nat:=w - (w &&& 2 ^ b)
theorem zqo:∀ w,w < 128 → ∀ b,b < 7 → ∀ i,i < 7 → (zfw w b).testBit i = (w.testBit i && !decide (b = i)):=by decide +kernel
theorem znh (w b:Nat):zfw w b ≤ w:=Nat.sub_le _ _
theorem zhW {w b:Nat} (hw:w < 128) (hb:b < 7):zbX (zfw w b) = (zbX w).erase b:=by
 unfold zbX
 have hn:((List.range 7).filter fun i => w.testBit i).Nodup:=List.Nodup.sublist List.filter_sublist List.nodup_range
 rw [hn.erase_eq_filter,List.filter_filter]
 apply List.filter_congr
 intro i hi
 rw [zqo w hw b hb i (List.mem_range.1 hi)]
 by_cases e:b = i
 ·subst e; simp
 ·have e':(i != b) = true:=by simp; omega
  simp [e,e']
theorem zhY (w:Nat):(zbX w).length ≤ 7:=by
 have:=List.length_filter_le (fun i => w.testBit i) (List.range 7)
 simpa [zbX] using this
theorem zhs {w b:Nat}:b ∈ zbX w ↔ b < 7 ∧ w.testBit b = true:=by
 unfold zbX
 rw [List.mem_filter,List.mem_range]
theorem zhX {w:Nat} (h0:0 < w) (h:w < 128):ziS w < 7 ∧ zbX w = ziS w :: zbX (zfw w (ziS w)):=by
 obtain ⟨h1,h2,h3⟩:=zoA h0 (by omega)
 have h7:ziS w < 7:=by
  rcases Nat.lt_or_ge (ziS w) 7 with q | q
  ·exact q
  ·have:=Nat.testBit_lt_two_pow (x:=w) (i:=ziS w) (Nat.lt_of_lt_of_le (show w < 2 ^ 7 by omega) (Nat.pow_le_pow_right (n:=2) (by omega) q))
   rw [this] at h2; cases h2
 refine ⟨h7,?_⟩
 rw [zhW h h7]
 have hmem:ziS w ∈ zbX w:=zhs.2 ⟨h7,h2⟩
 have hs:(zbX w).Pairwise (· < ·):=List.Pairwise.sublist List.filter_sublist List.pairwise_lt_range
 have hall:∀ x ∈ zbX w,w.testBit x = true:=fun x hx => (zhs.1 hx).2
 generalize zbX w = l at hmem hs hall ⊢
 cases l with
 | nil => cases hmem
 | cons a r =>
  have:a = ziS w:=by
   rcases czn.1 hmem with q | q
   ·exact q.symm
   ·have:=(List.pairwise_cons.1 hs).1 _ q
    have hf:=h3 a this
    rw [hall a (by simp)] at hf
    cases hf
  rw [this,List.erase_cons_head]
def zdz (G:Arr 7) (a rest:Nat):Nat → Nat
 | 0 => zbw G rest
 | k + 1 => if (rest.testBit k && fG G a k) = true then max (zdz G a rest k) (1 + zbw G (zfw rest k)) else zdz G a rest k
theorem ziY (G:Arr 7) (a rest:Nat):∀ k,zdz G a rest k = ((List.range k).filter fun i => rest.testBit i).foldl (fun m b => if fG G a b = true then max m (1 + zbw G (zfw rest b)) else m) (zbw G rest)
 | 0 => rfl
 | k + 1 => by
  rw [List.range_succ,List.filter_append,List.foldl_append,← ziY G a rest k]
  rw [show zdz G a rest (k + 1) = (if (rest.testBit k && fG G a k) = true then max (zdz G a rest k) (1 + zbw G (zfw rest k)) else zdz G a rest k) from rfl]
  cases h:rest.testBit k
  ·simp [List.filter_cons,h]
  ·simp [List.filter_cons,h]
theorem ziX {G:Arr 7} {a rest:Nat} {n:Nat} (h:∀ k,n ≤ k → rest.testBit k = false):∀ k,zdz G a rest (n + k) = zdz G a rest n
 | 0 => rfl
 | k + 1 => by
  rw [show n + (k + 1) = (n + k) + 1 by omega]
  show (if (rest.testBit (n + k) && fG G a (n + k)) = true then _ else zdz G a rest (n + k)) = _
  rw [h (n + k) (by omega),if_neg (by simp),ziX h k]
theorem zeT {l:List Nat} {f g:Nat → Nat → Nat} (h:∀ m,∀ b ∈ l,f m b = g m b):∀ m,l.foldl f m = l.foldl g m:=by
 induction l with
 | nil => intro m; rfl
 | cons x l ih =>
  intro m
  rw [List.foldl_cons,List.foldl_cons,h m x (by simp)]
  exact ih (fun m b hb => h m b (by simp [hb])) _
theorem foldB_all {G:Arr 7} {w n:Nat} (h0:0 < w) (h:w < 2 ^ n) (hn:n ≤ 7):zdz G (ziS w) (zfw w (ziS w)) n = zbw G w:=by
 have h128:w < 128:=Nat.lt_of_lt_of_le h (Nat.pow_le_pow_right (n:=2) (by omega) hn)
 obtain ⟨h7,hb⟩:=zhX h0 h128
 obtain ⟨a,ha⟩:∃ a,ziS w = a:=⟨_,rfl⟩
 obtain ⟨r,hr⟩:∃ r,zfw w a = r:=⟨_,rfl⟩
 rw [ha] at h7 hb ⊢
 rw [hr] at hb ⊢
 have hrw:r ≤ w:=by rw [← hr]; exact znh _ _
 have hst:∀ k,n ≤ k → r.testBit k = false:=fun k hk => Nat.testBit_lt_two_pow (Nat.lt_of_le_of_lt hrw (Nat.lt_of_lt_of_le h (Nat.pow_le_pow_right (n:=2) (by omega) hk)))
 have e7:zdz G a r n = zdz G a r 7:=by
  have:=ziX (G:=G) (a:=a) hst (7 - n)
  rw [show n + (7 - n) = 7 by omega] at this
  exact this.symm
 have hlen:(zbX r).length ≤ 6:=by
  have:=zhY w
  rw [hb] at this
  simp at this; omega
 rw [e7,ziY]
 show _ = mx (fG G) 7 (zbX w)
 rw [hb]
 show (zbX r).foldl _ _ = (zbX r).foldl (fun m b => if fG G a b then max m (1 + mx (fG G) 6 ((zbX r).erase b)) else m) (mx (fG G) 6 (zbX r))
 have e0:zbw G r = mx (fG G) 6 (zbX r):=zd9 7 6 _ (by omega) hlen
 rw [e0]
 apply zeT
 intro m b hbm
 have hb7:=(zhs.1 hbm).1
 have e1:zbw G (zfw r b) = mx (fG G) 6 ((zbX r).erase b):=by
  unfold zbw
  rw [zhW (by omega) hb7]
  have:=zc4 hbm
  exact zd9 7 6 _ (by omega) (by omega)
 rw [e1]
/-! What is remembered. -/
def zqr (w:Nat) (G:Arr 7):List Int:=(w:Int) :: G.l
theorem key_inj {w w':Nat} {G G':Arr 7} (h:zqr w G = zqr w' G'):w = w' ∧ G = G':=by
 unfold zqr at h
 obtain ⟨h1,h2⟩:=List.cons.inj h
 exact ⟨by omega,Arr.ext h2⟩
theorem key_len (w:Nat) (G:Arr 7):(zqr w G).length = 8:=by unfold zqr; rw [cza,G.h]
structure MemoM (ks:List (List Int)) (vs:List Int):Prop where
 len:vs.length = ks.length
 ok:∀ i,i < ks.length → ∃ w G,ks.getD i [] = zqr w G ∧ vs.getD i 0 = ((zbw G w:Nat):Int)
theorem memoM_nil:MemoM [] []:=⟨rfl,fun i hi => by simp at hi⟩
theorem MemoM.eight {ks:List (List Int)} {vs:List Int} (h:MemoM ks vs):∀ k ∈ ks,k.length = 8:=fun k hk => by
 obtain ⟨i,hi,rfl⟩:=List.mem_iff_getElem.1 hk
 obtain ⟨w,G,e,_⟩:=h.ok i hi
 have:ks.getD i [] = ks[i]:=by simp [List.getD,hi]
 rw [← this,e]; exact key_len w G
theorem zeP {ks:List (List Int)} {k:List Int} {i:Nat} (h:zac ks k = some i):i < ks.length ∧ ks.getD i [] = k:=by
 unfold zac at h
 obtain ⟨hi,h2,_⟩:=List.findIdx?_eq_some_iff_getElem.1 h
 exact ⟨hi,by simpa [List.getD,hi] using h2⟩
theorem lookM_ok {ks:List (List Int)} {vs:List Int} (h:MemoM ks vs) {w:Nat} {G:Arr 7} {i:Nat} (hk:zac ks (zqr w G) = some i):vs.getD i 0 = ((zbw G w:Nat):Int):=by
 obtain ⟨hi,h1⟩:=zeP hk
 obtain ⟨w',G',e,hv⟩:=h.ok i hi
 rw [h1] at e
 obtain ⟨rfl,rfl⟩:=key_inj e
 exact hv
theorem putM_ok {ks:List (List Int)} {vs:List Int} (h:MemoM ks vs) (w:Nat) (G:Arr 7) :
  ∃ ks2 vs2,zaq ks (vs.map (AV.int .i64)) (zqr w G) (.int .i64 ((zbw G w:Nat):Int)) = .map ks2 (vs2.map (AV.int .i64)) ∧ MemoM ks2 vs2:=by
 unfold zaq
 cases hk:zac ks (zqr w G) with
 | some i =>
  obtain ⟨hi,h1⟩:=zeP hk
  refine ⟨ks,vs.set i ((zbw G w:Nat):Int),by rw [List.map_set],⟨by rw [czt,h.len],fun j hj => ?_⟩⟩
  by_cases e:j = i
  ·subst e
   exact ⟨w,G,h1,by simp [List.getD,h.len,hj]⟩
  ·obtain ⟨w',G',e1,e2⟩:=h.ok j hj
   refine ⟨w',G',e1,?_⟩
   rw [← e2]
   simp [List.getD,List.getElem?_set,show ¬ i = j from fun q => e q.symm]
 | none =>
  refine ⟨ks ++ [zqr w G],vs ++ [((zbw G w:Nat):Int)],by rw [List.map_append]; rfl,⟨by simp [h.len],fun i hi => ?_⟩⟩
  simp at hi
  by_cases e:i < ks.length
  ·obtain ⟨w',G',e1,e2⟩:=h.ok i e
   refine ⟨w',G',?_,?_⟩
   ·rw [← e1]; simp [List.getD,czi e]
   ·rw [← e2]; simp [List.getD,czi (show i < vs.length by rw [h.len]; exact e)]
  ·have:i = ks.length:=by omega
   subst this
   refine ⟨w,G,by simp [List.getD],?_⟩
   rw [← h.len]; simp [List.getD]
theorem keyOkSpot:zrg Tryz.prog 133 8:=zqq Tryz.underlying133 (by kernel_rfl) (by kernel_rfl) (by kernel_rfl)
def wkY (y:My) (m:Nat):List AV:=[.sl (y.chairs.map EncE.cs) .no,.int .i64 y.fit,.sl (y.claims.map EncE.cs) .no,.mp m]
structure KnP (y:My) (a m n0:Nat) (M:List AObj):Prop where
 len:M.length = n0
 wk:zaa M a = .cells (wkY y m)
 mp:∃ ks vs,MemoM ks vs ∧ zaa M m = .map ks (vs.map (AV.int .i64))
 ok:∀ o ∈ M,zcK n0 o
def FrP (m:Nat) (M M':List AObj):Prop:=∀ l,l ≠ m → zaa M' l = zaa M l
theorem FrP.trans {m:Nat} {A B C:List AObj} (h1:FrP m A B) (h2:FrP m B C):FrP m A C:=fun l hl => (h2 l hl).trans (h1 l hl)
theorem FrP.refl (m:Nat) (A:List AObj):FrP m A A:=fun _ _ => rfl
section
variable {y:My} {a m n0:Nat} {M:List AObj}
theorem KnP.al (h:KnP y a m n0 M):a < n0:=by rw [← h.len]; exact ziQ h.wk (by simp)
theorem KnP.ml (h:KnP y a m n0 M):m < n0:=by
 obtain ⟨ks,vs,_,e⟩:=h.mp
 rw [← h.len]; exact ziQ e (by simp)
theorem KnP.push (h:KnP y a m n0 M) {o:AObj} (ho:zcK (n0 + 1) o):KnP y a m (n0 + 1) (M ++ [o]):=by
 have hl:=h.len
 have ha:=h.al
 have hm:=h.ml
 refine ⟨by rw [czc,hl]; rfl,by rw [zaB (by omega)]; exact h.wk,?_,fun x hx => ?_⟩
 ·obtain ⟨ks,vs,q,e⟩:=h.mp
  exact ⟨ks,vs,q,by rw [zaB (by omega)]; exact e⟩
 ·rcases czv.1 hx with q | q
  ·exact zcQ (by omega) _ (h.ok x q)
  ·rw [czC.1 q]; exact ho
theorem zbV {M:List AObj} {l:Nat} (h:l < M.length):zaa M l = M[l]:=by simp [zaa,List.getD,h]
theorem KnP.pop (h:KnP y a m n0 M) {o:AObj} {M':List AObj} (h':KnP y a m (n0 + 1) M') (hf:FrP m (M ++ [o]) M'):∃ M2,M' = M2 ++ [o] ∧ KnP y a m n0 M2 ∧ FrP m M M2:=by
 have hl:=h.len
 have hl':=h'.len
 have ha:=h.al
 have hm:=h.ml
 have hlast:zaa M' n0 = o:=by
  rw [hf n0 (by omega),← hl]
  have:=zaE M [o] 0
  rw [Nat.add_zero] at this
  exact this
 have e:M' = M'.take n0 ++ [o]:=by
  have:=List.take_append_drop n0 M'
  have hd:M'.drop n0 = [o]:=by
   rw [List.drop_eq_getElem_cons (by omega),← zbV (by omega),hlast,List.drop_of_length_le (by omega)]
  rw [hd] at this
  exact this.symm
 have htl:(M'.take n0).length = n0:=by rw [czO]; omega
 have hget:∀ l,l < n0 → zaa (M'.take n0) l = zaa M' l:=fun l hl2 => by
  conv => rhs; rw [e]
  rw [zaB (by omega)]
 refine ⟨M'.take n0,e,⟨htl,by rw [hget a ha]; exact h'.wk,?_,fun x hx => ?_⟩,fun l hlm => ?_⟩
 ·obtain ⟨ks,vs,q,e2⟩:=h'.mp
  exact ⟨ks,vs,q,by rw [hget m hm]; exact e2⟩
 ·obtain ⟨l,hl2,rfl⟩:=List.mem_iff_getElem.1 hx
  rw [← zbV hl2]
  have hln:l < n0:=by omega
  by_cases c:l = m
  ·subst c
   obtain ⟨ks,vs,_,e2⟩:=h'.mp
   rw [hget l hln,e2]
   exact (zh3 _ _ _).mpr trivial
  ·rw [hget l hln,hf l c,zaB (by omega),zbV (by omega)]
   exact h.ok _ (List.getElem_mem _)
 ·by_cases q:l < n0
  ·rw [hget l q,hf l hlm,zaB (by omega)]
  ·unfold zaa
   simp [List.getD,czB (show (M'.take n0).length ≤ l by omega),czB (show M.length ≤ l by omega)]
theorem KnP.put (h:KnP y a m n0 M) {ks2:List (List Int)} {vs2:List Int} (hM:MemoM ks2 vs2):KnP y a m n0 (M.set m (.map ks2 (vs2.map (AV.int .i64)))) ∧ FrP m M (M.set m (.map ks2 (vs2.map (AV.int .i64)))):=by
 have hl:=h.len
 have hm:=h.ml
 have hne:a ≠ m:=fun e => by
  obtain ⟨ks,vs,_,q⟩:=h.mp
  have:=h.wk
  rw [e,q] at this
  cases this
 have hf:FrP m M (M.set m (.map ks2 (vs2.map (AV.int .i64)))):=fun l hlm => by
  unfold zaa
  simp [List.getD,List.getElem?_set,show ¬ m = l from fun q => hlm q.symm]
 refine ⟨⟨by rw [czt,hl],by rw [hf a hne]; exact h.wk,⟨ks2,vs2,hM,zbm (by omega) _⟩,fun o ho => ?_⟩,hf⟩
 rcases List.mem_or_eq_of_mem_set ho with q | q
 ·exact h.ok o q
 ·subst q; exact (zh3 _ _ _).mpr trivial
end
theorem zkW (b:Int) (h:0 < b ∧ b < 4611686018427387904):zaH Tryz.prog 81 [Enc.enc b] (· = Enc.enc ((ziS b.toNat:Nat):Int)):=by
 have:=zne b.toNat (by omega) (by omega)
 rwa [Int.toNat_of_nonneg (by omega)] at this
def zrc (g:FuncId):=(zat 35 (zbD (fun (y:My) (t:List Pt) => MOk y ∧ TOk t ∧ t.length = y.chairs.length) za7) (zat 57 (zbD (fun (s:Sc) (l:List Rg) => zro s ∧ zlM l) zbx) (zat 81 (zbN (fun b:Int => 0 < b ∧ b < 4611686018427387904) (fun b => ((ziS b.toNat:Nat):Int))) (P231))):zay) g
theorem zdI:zam Tryz.prog zrc:=zah (zaK zp3) (zah (zaK zql) (zah (zaN zkW) (zn4)))
theorem zlQ (d:Option Nat):zaw zrc d = none:=(zag (by decide) d).trans ((zag (by decide) d).trans ((zag (by decide) d).trans (zlR d)))
attribute [go_sem] zrc zlQ
theorem zqt (w:Nat) (G:Arr 7):zab (.int .i64 (w:Int) :: G.l.map (AV.int .i64)) = some (zqr w G):=zdS (zqr w G)
theorem sp_get (w:AV) (L:List Int) {i:Nat} (hi:i < L.length):(w :: L.map (AV.int .i64)).getD (1 + i) .undef = .int .i64 (at_ L i):=by
 rw [show 1 + i = i + 1 by omega]
 simp [List.getD,List.getElem?_map,at_,hi]
theorem getD_vsI (vs:List Int) {i:Nat} (hi:i < vs.length):(vs.map (AV.int .i64)).getD i .undef = .int .i64 (vs.getD i 0):=by simp [List.getD,hi]
theorem zfO (G:Arr 7) (w:Nat):zbw G w ≤ 3:=by
 have h1:=zgW (f:=fG G) 7 (zbX w)
 have h2:=zhY w
 show mx (fG G) 7 (zbX w) ≤ 3
 omega
theorem zoF (G:Arr 7) (a r:Nat):∀ k,zdz G a r k ≤ 4
 | 0 => Nat.le_trans (zfO G r) (by omega)
 | k + 1 => by
  have h1:=zoF G a r k
  have h2:=zfO G (zfw r k)
  show (if (r.testBit k && fG G a k) = true then max (zdz G a r k) (1 + zbw G (zfw r k)) else zdz G a r k) ≤ 4
  split <;> omega
section
variable {y:My} {a m n0 w:Nat} {G:Arr 7} {M:List AObj}
theorem ziL (hK:KnP y a m n0 M):zet Tryz.prog 54 [.ptr a 0,.agg (.int .i64 ((0:Nat):Int) :: G.l.map (AV.int .i64))] M
   (fun r M' => r = .int .i64 ((zbw G 0:Nat):Int) ∧ KnP y a m n0 M' ∧ FrP m M M'):=by
 have hl:=hK.len
 have g0:∀ r,zaa (M ++ r) n0 = zaa r 0:=fun r => by rw [← hl]; exact zaE _ _ 0
 have hT:∀ o,List.take n0 (M ++ [o]) = M:=fun o => List.take_left' hl
 refine zbW (Φ:=zrc) Tryz.func54 rfl (by rfl) (by rw [Tryz.ntmps54]; simp) zaA zdI (by simp [AV.strip,AV.strip1,Tk.strip]) ?_
 rw [Tryz.ntmps54]
 simp only [Tryz.f54,zaj,zao]
 simp (maxSteps:=4000000) only [go_sem,zae,zac,zan,zaq,czb,cza,↓reduceIte,zaf,onz,hl,g0,Int.natCast_zero,czc]
 all_goals (repeat' first | (with_reducible first | rfl | apply And.intro | assumption) | ((with_reducible show zad _ _ = true); rfl)) <;> try first | omega | (simp only [InR]; omega)
 ·rfl
 ·rw [hT]; exact hK
 ·rw [hT]; exact FrP.refl _ _
 ·simp [AV.bare,zal,zaF,zaI,zak,zas,zai,tokz1,lk,zaa,zaZ]
 ·rw [hT]; exact hK.ok
theorem zqa (hy:MOk y) (hG:∀ x ∈ G.l,0 ≤ x ∧ x < 128) (h0:0 < w) (hw:w < 2 ^ y.chairs.length) (hK:KnP y a m n0 M)
  (ih:∀ (v n1:Nat) (M1:List AObj),(zbX v).length < (zbX w).length → v < 2 ^ y.chairs.length → KnP y a m n1 M1 →
   zet Tryz.prog 54 [.ptr a 0,.agg (.int .i64 (v:Int) :: G.l.map (AV.int .i64))] M1 (fun r M' => r = .int .i64 ((zbw G v:Nat):Int) ∧ KnP y a m n1 M' ∧ FrP m M1 M')) :
  zet Tryz.prog 54 [.ptr a 0,.agg (.int .i64 (w:Int) :: G.l.map (AV.int .i64))] M
   (fun r M' => r = .int .i64 ((zbw G w:Nat):Int) ∧ KnP y a m n0 M' ∧ FrP m M M'):=by
 have h7:=hy.len
 have h128:w < 128:=Nat.lt_of_lt_of_le hw (Nat.pow_le_pow_right (n:=2) (by omega) h7)
 have hl:=hK.len
 have hal:=hK.al
 have hml:=hK.ml
 have hok:=hK.ok
 have hGl:=G.h
 obtain ⟨ks,vs,hMem,hmm⟩:=hK.mp
 have hwk:=hK.wk
 unfold wkY at hwk
 have g0:∀ r,zaa (M ++ r) n0 = zaa r 0:=fun r => by rw [← hl]; exact zaE _ _ 0
 have gA:∀ r,zaa (M ++ r) a = _:=fun r => (zaB (by omega)).trans hwk
 have gM:∀ r,zaa (M ++ r) m = _:=fun r => (zaB (by omega)).trans hmm
 have hT:∀ o,List.take n0 (M ++ [o]) = M:=fun o => List.take_left' hl
 have hio:=zqt w G
 have h8:=hMem.eight
 have hko:=keyOkSpot
 have hkl:=key_len w G
 have htk:List.take 8 (AV.int .i64 (w:Int) :: G.l.map (AV.int .i64)) = AV.int .i64 (w:Int) :: G.l.map (AV.int .i64):=cze (by simp [hGl])
 have hwz:decide ((w:Int) = 0) = false:=by rw [decide_eq_false_iff_not]; omega
 obtain ⟨hA7,hbl⟩:=zhX h0 h128
 obtain ⟨A,hA⟩:∃ A,ziS w = A:=⟨_,rfl⟩
 obtain ⟨R,hR⟩:∃ R,zfw w A = R:=⟨_,rfl⟩
 rw [hA] at hA7 hbl
 rw [hR] at hbl
 have hless:w - (w &&& 2 ^ A) = R:=hR
 have hRw:R ≤ w:=by rw [← hR]; exact znh _ _
 have hp8:=pow8 A (by omega)
 have hpn:=zfs A
 refine zbW (Φ:=zrc) Tryz.func54 rfl (by rfl) (by rw [Tryz.ntmps54]; simp) zaA zdI (by simp [AV.strip,AV.strip1,Tk.strip]) ?_
 rw [Tryz.ntmps54]
 simp only [Tryz.f54,zaj,zao]
 iterate 2 (
  refine zaz fun Q1 h1 => ?_
  simp (maxSteps:=4000000) only [go_sem,zae,zan,zaq,czb,cza,↓reduceIte,zaf,onz,hl,hwz,g0,czc]
  all_goals (repeat' first | (with_reducible first | rfl | apply And.intro | assumption) | ((with_reducible show zad _ _ = true); rfl)) <;> try first | omega | (simp only [InR]; omega)
  rw [h1]; clear h1 Q1; simp only [zaO,zav])
 cases hki:zac ks (zqr w G) with
 | some i =>
  have hlk:=lookM_ok hMem hki
  have hi:=(zeP hki).1
  have hgv:=getD_vsI vs (i:=i) (by rw [hMem.len]; exact hi)
  rw [hlk] at hgv
  simp (maxSteps:=4000000) only [go_sem,zae,zan,zaq,czb,cza,↓reduceIte,zaf,onz,hl,g0,gA,gM,hio,htk,hki,hgv,hkl,Option.isSome_some,czc]
  all_goals (repeat' first | (with_reducible first | rfl | apply And.intro | assumption) | ((with_reducible show zad _ _ = true); rfl)) <;> try first | omega | (simp only [InR]; omega)
  ·rw [hT]; exact hK
  ·rw [hT]; exact FrP.refl _ _
  ·simp [AV.bare,zal,zaF,zaI,zak,zas,zai,tokz1,lk,zaa,zaZ]
  ·rw [hT]; exact hok
 | none =>
  have hfold:=foldB_all (G:=G) h0 hw h7
  rw [hA,hR] at hfold
  have hbox:∀ k,zcK k (.cells (.int .i64 (w:Int) :: G.l.map (AV.int .i64))):=fun k => by simp [AV.bare,zal,zaF,zaI,zak,zas,zai,tokz1,lk,zaa,zaZ]
  have hc1:=ih R (n0 + 1) (M ++ [.cells (.int .i64 (w:Int) :: G.l.map (AV.int .i64))]) (by rw [hbl]; simp) (by omega) (hK.push (hbox _))
  have hd8:∀ x:AV,List.drop 8 [x,.int .i64 0,.int .i64 0,.int .i64 0,.int .i64 0,.int .i64 0,.int .i64 0,.int .i64 0] = []:=fun _ => rfl
  have htk7:List.take 7 (G.l.map (AV.int .i64)) = G.l.map (AV.int .i64):=zdA G
  simp (maxSteps:=4000000) only [go_sem,zae,zan,zaq,czb,cza,↓reduceIte,zaf,onz,hl,g0,gA,gM,hio,htk,htk7,hki,hkl,hA,hpn,hless,Option.isSome_none,czc,List.drop_succ_cons,List.drop_zero,hGl,hd8,List.append_nil,czf]
  all_goals (repeat' first | (with_reducible first | rfl | apply And.intro | assumption) | ((with_reducible show zad _ _ = true); rfl)) <;> try first | omega | (simp only [InR]; omega)
  refine ⟨_,za6 hc1,?_⟩
  rintro r M' ⟨r0,rfl,⟨rfl,hK1',hF1'⟩,hlen1⟩ _
  obtain ⟨M1,rfl,hK1,hF1⟩:=hK.pop hK1' hF1'
  have hl1:=hK1.len
  have g01:∀ r,zaa (M1 ++ r) n0 = zaa r 0:=fun r => by rw [← hl1]; exact zaE _ _ 0
  have hwk1:=hK1.wk
  unfold wkY at hwk1
  have gA1:∀ r,zaa (M1 ++ r) a = _:=fun r => (zaB (by omega)).trans hwk1
  simp (maxSteps:=4000000) only [go_sem,zae,zan,zaq,czb,cza,↓reduceIte,zaf,onz,hl1,g01,gA1,czc]
  all_goals (repeat' first | (with_reducible first | rfl | apply And.intro | assumption) | ((with_reducible show zad _ _ = true); rfl)) <;> try first | omega | (simp only [InR]; omega)
  refine zqn [] [0,3,4,7,8,44] (fun b:Nat × List AObj => [(45,.int .i64 b.1),(9,.int .i64 ((zdz G A R b.1:Nat):Int))]) (fun b _ => b.2 ++ [.cells (.int .i64 (w:Int) :: G.l.map (AV.int .i64))]) (fun b => b.1 ≤ y.chairs.length ∧ KnP y a m n0 b.2 ∧ FrP m M b.2) (fun b => y.chairs.length - b.1) (((0,M1):Nat × List AObj)) ?_ ?_ ?_
  ·exact ⟨Nat.zero_le _,hK1,hF1⟩
  ·refine ⟨rfl,rfl,rfl,?_,zbd _,?_,zb5 ?_,trivial⟩
   ·first
    | (show M.length ≤ (M1 ++ [_]).length; rw [czc,hl1,hl]; omega)
    | (show n0 ≤ (M1 ++ [_]).length; rw [czc,hl1]; omega)
   ·show zaF _ (M1 ++ [_]).length _
    rw [czc,hl1]
    simp [AV.bare,zal,zaF,zaI,zak,zas,zai,tokz1,lk,zaa,zaZ,hal,hml,zdz,-List.map_map]
    all_goals (try omega)
   ·exact zfk (m:=M1) (n0:=n0) hK1.ok (by show n0 ≤ (M1 ++ [_]).length; rw [czc,hl1]; omega) (by simp [AV.bare,zal,zaF,zaI,zak,zas,zai,tokz1,lk,zaa,zaZ])
  ·rintro ⟨b,M2⟩ ⟨hb,hK2,hF2⟩
   simp only at hb hK2 hF2
   have hl2:=hK2.len
   have g02:∀ r,zaa (M2 ++ r) n0 = zaa r 0:=fun r => by rw [← hl2]; exact zaE _ _ 0
   have hwk2:=hK2.wk
   unfold wkY at hwk2
   have gA2:∀ r,zaa (M2 ++ r) a = _:=fun r => (zaB (by omega)).trans hwk2
   by_cases hbn:b < y.chairs.length
   ·have hb':=czH.2 hbn
    have hsp:=sp_get (.int .i64 (w:Int)) G.l (i:=A) (by omega)
    have hgx:=hG _ (zaS (show A < G.l.length by omega))
    obtain ⟨g,hg⟩:∃ g,(at_ G.l A).toNat = g:=⟨_,rfl⟩
    have hb1:=bit_1 (R &&& g) b
    have hnn:=zgt (R &&& g) b
    have hbit:(R &&& g).testBit b = (R.testBit b && fG G A b):=by rw [Nat.testBit_and]; unfold fG; rw [hg]
    rw [hbit] at hb1
    have hfs:zdz G A R (b + 1) = (if (R.testBit b && fG G A b) = true then max (zdz G A R b) (1 + zbw G (zfw R b)) else zdz G A R b):=rfl
    cases c:(R.testBit b && fG G A b)
    ·rw [c] at hb1 hfs
     simp (maxSteps:=4000000) only [go_sem,zae,zan,zaq,czb,cza,↓reduceIte,zaf,onz,hl2,g02,gA2,hb',hsp,hg,hb1,czc]
     all_goals (repeat' first | (with_reducible first | rfl | apply And.intro | assumption) | ((with_reducible show zad _ _ = true); rfl)) <;> try first | omega | (simp only [InR]; omega)
     refine ⟨(b + 1,M2),⟨by dsimp only; omega,hK2,hF2⟩,by dsimp only; omega,zbj ⟨rfl,rfl,rfl,?_,zbd _,?_,zb5 ?_,trivial⟩⟩
     ·first
      | (show M.length ≤ (M2 ++ [_]).length; rw [czc,hl2,hl]; omega)
      | (show n0 ≤ (M2 ++ [_]).length; rw [czc,hl2]; omega)
     ·show zaF _ (M2 ++ [_]).length _
      rw [czc,hl2]
      simp [AV.bare,zal,zaF,zaI,zak,zas,zai,tokz1,lk,zaa,zaZ,hfs,hal,hml,-List.map_map]
      all_goals (try omega)
     ·exact zfk (m:=M2) (n0:=n0) hK2.ok (by show n0 ≤ (M2 ++ [_]).length; rw [czc,hl2]; omega) (by simp [AV.bare,zal,zaF,zaI,zak,zas,zai,tokz1,lk,zaa,zaZ])
    ·rw [c] at hb1 hfs
     have hb8:=pow8 b (by omega)
     have hbpn:=zfs b
     obtain ⟨R2,hR2⟩:∃ R2,zfw R b = R2:=⟨_,rfl⟩
     have hless2:R - (R &&& 2 ^ b) = R2:=hR2
     have hR2w:R2 ≤ R:=by rw [← hR2]; exact znh _ _
     rw [hR2] at hfs
     have hbl2:zbX R2 = (zbX R).erase b:=by rw [← hR2]; exact zhW (by omega) (by omega)
     have hc2:=ih R2 (n0 + 1) (M2 ++ [.cells (.int .i64 (w:Int) :: G.l.map (AV.int .i64))]) (by rw [hbl2,hbl]; have:=List.length_erase_le (a:=b) (l:=zbX R); simp; omega) (by omega) (hK2.push (hbox _))
     have hfb:=zoF G A R b
     have hpv:=zfO G R2
     simp (maxSteps:=4000000) only [go_sem,zae,zan,zaq,czb,cza,↓reduceIte,zaf,onz,hl2,g02,gA2,hb',hsp,hg,hb1,hbpn,hless2,htk,htk7,hGl,hd8,List.append_nil,czf,List.drop_succ_cons,List.drop_zero,czc]
     all_goals (repeat' first | (with_reducible first | rfl | apply And.intro | assumption) | ((with_reducible show zad _ _ = true); rfl)) <;> try first | omega | (simp only [InR]; omega)
     refine ⟨[0],by rfl,_,za6 hc2,?_⟩
     rintro r M' ⟨r0,rfl,⟨rfl,hK3',hF3'⟩,hlen3⟩ _
     obtain ⟨M3,rfl,hK3,hF3⟩:=hK2.pop hK3' hF3'
     have hl3:=hK3.len
     have g03:∀ r,zaa (M3 ++ r) n0 = zaa r 0:=fun r => by rw [← hl3]; exact zaE _ _ 0
     have hmx:max ((zdz G A R b:Nat):Int) (1 + ((zbw G R2:Nat):Int)) = ((zdz G A R (b + 1):Nat):Int):=by rw [hfs,if_pos rfl]; omega
     simp (maxSteps:=4000000) only [go_sem,zae,zan,zaq,czb,cza,↓reduceIte,zaf,onz,hl3,g03,hmx,zj8,czc]
     all_goals (repeat' first | (with_reducible first | rfl | apply And.intro | assumption) | ((with_reducible show zad _ _ = true); rfl)) <;> try first | omega | (simp only [InR]; omega)
     ·intro d hd; cases hd; rfl
     refine ⟨(b + 1,M3),⟨by dsimp only; omega,hK3,hF2.trans hF3⟩,by dsimp only; omega,zbj ⟨rfl,rfl,rfl,?_,zbd _,?_,zb5 ?_,trivial⟩⟩
     ·first
      | (show M.length ≤ (M3 ++ [_]).length; rw [czc,hl3,hl]; omega)
      | (show n0 ≤ (M3 ++ [_]).length; rw [czc,hl3]; omega)
     ·show zaF _ (M3 ++ [_]).length _
      rw [czc,hl3]
      simp [AV.bare,zal,zaF,zaI,zak,zas,zai,tokz1,lk,zaa,zaZ,hal,hml,-List.map_map]
      all_goals (try omega)
     ·exact zfk (m:=M3) (n0:=n0) hK3.ok (by show n0 ≤ (M3 ++ [_]).length; rw [czc,hl3]; omega) (by simp [AV.bare,zal,zaF,zaI,zak,zas,zai,tokz1,lk,zaa,zaZ])
   ·have hbe:b = y.chairs.length:=by omega
    subst hbe
    obtain ⟨ks2,vs2,hMem2,hmm2⟩:=hK2.mp
    have gM2:∀ r,zaa (M2 ++ r) m = _:=fun r => (zaB (by omega)).trans hmm2
    obtain ⟨ks3,vs3,hput,hMem3⟩:=putM_ok hMem2 w G
    have h82:=hMem2.eight
    rw [hfold]
    simp (maxSteps:=4000000) only [go_sem,zae,zan,czb,cza,↓reduceIte,zaf,onz,hl2,g02,gA2,gM2,hio,htk,hput,hkl,czA,czc]
    all_goals (repeat' first | (with_reducible first | rfl | apply And.intro | assumption) | ((with_reducible show zad _ _ = true); rfl)) <;> try first | omega | (simp only [InR]; omega)
    all_goals (try rw [List.set_append_left _ _ (by omega),List.take_left' (by rw [czt,hl2])])
    ·exact (hK2.put hMem3).1
    ·exact hF2.trans (hK2.put hMem3).2
    ·simp [AV.bare,zal,zaF,zaI,zak,zas,zai,tokz1,lk,zaa,zaZ]
    ·exact (hK2.put hMem3).1.ok
theorem zqb (hy:MOk y) (hG:∀ x ∈ G.l,0 ≤ x ∧ x < 128):∀ (f v n1:Nat) (M1:List AObj),(zbX v).length ≤ f → v < 2 ^ y.chairs.length → KnP y a m n1 M1 →
  zet Tryz.prog 54 [.ptr a 0,.agg (.int .i64 (v:Int) :: G.l.map (AV.int .i64))] M1
   (fun r M' => r = .int .i64 ((zbw G v:Nat):Int) ∧ KnP y a m n1 M' ∧ FrP m M1 M'):=by
 intro f
 induction f with
 | zero =>
  intro v n1 M1 hf hv hK
  by_cases h0:v = 0
  ·subst h0; exact ziL hK
  ·have h128:v < 128:=Nat.lt_of_lt_of_le hv (Nat.pow_le_pow_right (n:=2) (by omega) hy.len)
   have:=(zhX (by omega) h128).2
   rw [this] at hf
   simp at hf
 | succ f ih =>
  intro v n1 M1 hf hv hK
  by_cases h0:v = 0
  ·subst h0; exact ziL hK
  ·exact zqa hy hG (by omega) hv hK fun v2 n2 M2 hlt hv2 hK2 => ih v2 n2 M2 (by omega) hv2 hK2
end
structure ScY (y:My) (s:Sc):Prop extends zro s where
 b0:0 ≤ s.broken
 bn:s.broken < 2 ^ y.chairs.length
def zb3 (s:Sc):Int:=s.whole + ((zbw s.fits s.broken.toNat:Nat):Int)
section
variable {y:My} {a m n0:Nat} {M:List AObj}
theorem zkS (hy:MOk y) (s:Sc) (hs:ScY y s) (hK:KnP y a m n0 M) :
  zet Tryz.prog 34 [.ptr a 0,.agg (.int .i64 s.whole :: .int .i64 s.broken :: s.fits.l.map (AV.int .i64))] M
   (fun r M' => r = .int .i64 (zb3 s) ∧ KnP y a m n0 M' ∧ FrP m M M'):=by
 have hl:=hK.len
 have hal:=hK.al
 have hml:=hK.ml
 have hGl:=s.fits.h
 have w0:=hs.w0
 have w7:=hs.w7
 obtain ⟨B,hB⟩:=czu hs.b0
 have hBn:B < 2 ^ y.chairs.length:=by have:=hs.bn; rw [hB] at this; exact_mod_cast this
 have g0:∀ r,zaa (M ++ r) n0 = zaa r 0:=fun r => by rw [← hl]; exact zaE _ _ 0
 have hwk:=hK.wk
 unfold wkY at hwk
 have gA:∀ r,zaa (M ++ r) a = _:=fun r => (zaB (by omega)).trans hwk
 have hbox:∀ k,zcK k (.cells (.int .i64 s.whole :: .int .i64 (B:Int) :: s.fits.l.map (AV.int .i64))):=fun k => by simp [AV.bare,zal,zaF,zaI,zak,zas,zai,tokz1,lk,zaa,zaZ]
 have hd8:∀ x:AV,List.drop 8 [x,.int .i64 0,.int .i64 0,.int .i64 0,.int .i64 0,.int .i64 0,.int .i64 0,.int .i64 0] = []:=fun _ => rfl
 have htk7:List.take 7 (s.fits.l.map (AV.int .i64)) = s.fits.l.map (AV.int .i64):=zdA s.fits
 have hc1:=zqb (a:=a) (m:=m) (G:=s.fits) hy hs.ft 7 B (n0 + 1) (M ++ [.cells (.int .i64 s.whole :: .int .i64 (B:Int) :: s.fits.l.map (AV.int .i64))]) (zhY _) hBn (hK.push (hbox _))
 have hpv:=zfO s.fits B
 unfold zb3
 rw [hB,czF]
 refine zbW (Φ:=zrc) Tryz.func34 rfl (by rfl) (by rw [Tryz.ntmps34]; simp) zaA zdI (by simp [AV.strip,AV.strip1,Tk.strip]) ?_
 rw [Tryz.ntmps34]
 simp only [Tryz.f34,zaj,zao]
 simp (maxSteps:=4000000) only [go_sem,zae,zac,zan,zaq,czb,cza,↓reduceIte,zaf,onz,hl,g0,gA,htk7,hGl,hd8,List.append_nil,czf,List.drop_succ_cons,List.drop_zero,czc]
 all_goals (repeat' first | (with_reducible first | rfl | apply And.intro | assumption) | ((with_reducible show zad _ _ = true); rfl)) <;> try first | omega | (simp only [InR]; omega)
 refine ⟨[0,1],by rfl,_,za6 hc1,?_⟩
 rintro r M' ⟨r0,rfl,⟨rfl,hK1',hF1'⟩,hlen1⟩ _
 obtain ⟨M1,rfl,hK1,hF1⟩:=hK.pop hK1' hF1'
 have hl1:=hK1.len
 have g01:∀ r,zaa (M1 ++ r) n0 = zaa r 0:=fun r => by rw [← hl1]; exact zaE _ _ 0
 have hT:∀ o,List.take n0 (M1 ++ [o]) = M1:=fun o => List.take_left' hl1
 simp (maxSteps:=4000000) only [go_sem,zae,zac,zan,zaq,czb,cza,↓reduceIte,zaf,onz,hl1,g01,zj8,czc]
 all_goals (repeat' first | (with_reducible first | rfl | apply And.intro | assumption) | ((with_reducible show zad _ _ = true); rfl)) <;> try first | omega | (simp only [InR]; omega)
 ·intro d hd; cases hd; rfl
 ·intro d hd; cases hd; rfl
 ·rw [hT]; exact hK1
 ·rw [hT]; exact hF1
 ·simp [AV.bare,zal,zaF,zaI,zak,zas,zai,tokz1,lk,zaa,zaZ]
 ·rw [hT]; exact hK1.ok
end
def zlJ (y:My) (mem:List AObj) (r:AV) (m:List AObj):Prop :=
 r = .ptr (mem.length + 2) 0 ∧ m = mem ++ [.cells [.sl (y.chairs.map EncE.cs) .no,.int .i64 y.fit,.sl (y.claims.map EncE.cs) .no],.map [] [],.cells (wkY y (mem.length + 1))]
theorem zgc (y:My) {mem:List AObj} (hm:∀ o ∈ mem,zcK mem.length o):zfi Tryz.prog 29 [.agg [.sl (y.chairs.map EncE.cs) .no,.int .i64 y.fit,.sl (y.claims.map EncE.cs) .no]] mem (zlJ y mem):=by
 unfold zlJ wkY
 obtain ⟨n0,hn0⟩:∃ n0,mem.length = n0:=⟨_,rfl⟩
 rw [hn0] at hm ⊢
 have g0:∀ r,zaa (mem ++ r) n0 = zaa r 0:=fun r => by rw [← hn0]; exact zaE _ _ 0
 have gk:∀ r k,zaa (mem ++ r) (n0 + k) = zaa r k:=fun r k => by rw [← hn0]; exact zaE _ _ k
 refine zbc (Φ:=zrc) Tryz.func29 rfl (by rfl) (by rw [Tryz.ntmps29]; simp) zaA zdI ?_
 rw [Tryz.ntmps29]
 simp only [Tryz.f29,zaj,zao]
 simp (maxSteps:=4000000) only [go_sem,zae,zab,zac,zan,zaq,czb,cza,↓reduceIte,zaf,onz,g0,gk,hn0,czd,czc,Nat.add_assoc,one_i,one_sl,one_mp]
 all_goals (repeat' first | (with_reducible first | rfl | apply And.intro | assumption) | ((with_reducible show zad _ _ = true); rfl)) <;> try first | omega | (simp only [InR]; omega)
 have htk:∀ a b c:AObj,List.take (n0 + 3) (mem ++ [a,b,c]) = mem ++ [a,b,c]:=fun a b c => cze (by simp [hn0])
 refine ⟨n0 + 3,by omega,by omega,by rw [htk],?_,?_⟩
 ·simp [AV.bare,zal,zaF,zaI,zak,zas,zai,tokz1,lk,zaa,zaZ]
 ·rw [htk]
  exact zfk hm (by omega) (by simp [AV.bare,zal,zaF,zaI,zak,zas,zai,tokz1,lk,zaa,zaZ])
theorem zms {y:My} {mem:List AObj} (hm:∀ o ∈ mem,zcK mem.length o) :
  KnP y (mem.length + 2) (mem.length + 1) (mem.length + 3) (mem ++ [.cells [.sl (y.chairs.map EncE.cs) .no,.int .i64 y.fit,.sl (y.claims.map EncE.cs) .no],.map [] [],.cells (wkY y (mem.length + 1))]):=by
 refine ⟨by simp,?_,⟨[],[],memoM_nil,?_⟩,?_⟩
 ·exact zaE _ _ 2
 ·exact zaE _ _ 1
 ·exact zfk hm (by omega) (by simp [AV.bare,zal,zaF,zaI,zak,zas,zai,tokz1,lk,zaa,zaZ,wkY])
/-! The scene of a truth is a scene of the yard. -/
theorem zez {y:My} {t:List Pt} (hy:MOk y) (hl:t.length = y.chairs.length):ScY y (za7 y t):=by
 have h7:=hy.len
 refine ⟨⟨by show (0:Int) ≤ ((zcT t:Nat):Int); omega,?_,fun x hx => ?_⟩,by show (0:Int) ≤ ((zb4 _ _:Nat):Int); omega,?_⟩
 ·show ((zcT t:Nat):Int) ≤ 7
  have:zcT t ≤ t.length:=List.countP_le_length
  omega
 ·have hx:x ∈ zc3 y t t.length:=hx
  unfold zc3 at hx
  obtain ⟨j,hj,rfl⟩:=czx.1 hx
  split
  ·have:=zj1 (zkh y t j) (n:=t.length) (by omega)
   omega
  ·omega
 ·show ((zb4 (fun j => !zbe (at_ t j)) t.length:Nat):Int) < 2 ^ y.chairs.length
  have:=bits_lt (fun j => !zbe (at_ t j)) t.length
  rw [hl] at this
  rw [hl]
  exact_mod_cast this
theorem bits_eq {p:Nat → Bool} {n:Nat} (hn:n ≤ 7):zbX (zb4 p n) = (List.range n).filter p:=by
 unfold zbX
 have e1:(List.range 7).filter (fun i => (zb4 p n).testBit i) = (List.range 7).filter (fun i => decide (i < n) && p i):=List.filter_congr fun i _ => zeZ p n i
 have key:∀ k,n ≤ k → (List.range k).filter (fun i => decide (i < n) && p i) = (List.range n).filter p:=by
  intro k hk
  induction k with
  | zero =>
   obtain rfl:n = 0:=by omega
   rfl
  | succ k ih =>
   by_cases e:n = k + 1
   ·subst e
    apply List.filter_congr
    intro i hi
    simp [List.mem_range.1 hi]
   ·rw [List.range_succ,List.filter_append,ih (by omega)]
    have:decide (k < n) = false:=by rw [decide_eq_false_iff_not]; omega
    simp [List.filter_cons,this]
 rw [e1,key 7 hn]
theorem ze5 {y:My} {t:List Pt} (hy:MOk y) (ht:TOk t) (hl:t.length = y.chairs.length):zb3 (za7 y t) = ((zdF y t:Nat):Int):=by
 have h7:=hy.len
 have hw:∀ i,i < t.length → zbe (at_ t i) = zbL (at_ t i):=fun i hi => zgJ (ht _ (zaS hi))
 have e1:zcT t = zb2 t:=by
  unfold zcT zb2
  exact List.countP_congr fun p hp => by rw [zgJ (ht p hp)]
 have e2:zbX (zb4 (fun j => !zbe (at_ t j)) t.length) = zdH t:=by
  rw [bits_eq (by omega)]
  unfold zdH
  exact List.filter_congr fun i hi => by rw [hw i (List.mem_range.1 hi)]
 have e3:∀ i k,i < t.length → k < t.length → fG (za7 y t).fits i k = zdY y t i k:=fun i k hi hk => by
  show (at_ (zc3 y t t.length) i).toNat.testBit k = _
  rw [zdC _ _ _ (by omega),if_pos hi,czF,zeZ]
  simp only [hk,decide_true,Bool.true_and]
  exact fit_eq (ht _ (zaS hi)) (ht _ (zaS hk))
 have hmem:∀ x ∈ zdH t,x < t.length:=fun x hx => by
  unfold zdH at hx
  exact List.mem_range.1 (List.mem_filter.1 hx).1
 have e4:∀ (n:Nat) (l:List Nat),(∀ x ∈ l,x < t.length) → mx (fG (za7 y t).fits) n l = mx (zdY y t) n l:=by
  intro n
  induction n with
  | zero => intro l _; rfl
  | succ n ih =>
   intro l hm
   cases l with
   | nil => rfl
   | cons a r =>
    show r.foldl _ (mx (fG (za7 y t).fits) n r) = r.foldl _ (mx (zdY y t) n r)
    rw [ih r (fun x hx => hm x (by simp [hx]))]
    apply zeT
    intro m b hb
    rw [e3 a b (hm a (by simp)) (hm b (by simp [hb])),ih (r.erase b) (fun x hx => hm x (by simp [List.mem_of_mem_erase hx]))]
 unfold zb3 zdF
 show ((zcT t:Nat):Int) + ((zbw (za7 y t).fits (((zb4 (fun j => !zbe (at_ t j)) t.length:Nat):Int).toNat):Nat):Int) = _
 rw [czF,e1]
 unfold zbw
 rw [e2,e4 7 _ hmem]
 omega
def P233:zay:=zif [3000006] zrc
theorem P233_app (g:FuncId) (h:¬ (g = 4000000000)):P233 g = zrc g:=by unfold P233 zif; rw [if_neg h]
theorem P233_ok:zam Tryz.prog P233:=zfo zdI
theorem P233_flag (d:Nat):zaw P233 (some d) = if d ∈ ([3000006]:List Nat) then some d else none:=zbK _ _ d
attribute [go_sem] P233_app P233_flag
theorem Play_call (y:My) (t:List Pt) (h:(MOk y ∧ zbY y.chairs ≤ 8) ∧ IsTr y t):zaH Tryz.prog 14 [Enc.enc y,Enc.enc t] (· = Enc.enc (((zdF y t:Nat):Int),(0:Int))):=by
 obtain ⟨⟨hy,h8⟩,ht⟩:=h
 have hms:=ze5 hy ht.ok ht.len
 have hso:=zez hy ht.len
 simp only [zbT]
 refine cpz P233_ok Tryz.func14 zaA ?_
 rw [Tryz.ntmps14]
 simp only [Tryz.f14,zaj,zao]
 iterate 3 (
  refine zaz fun Q1 h1 => ?_
  simp (maxSteps:=4000000) only [go_sem,AV.one,zae,zab,zac,zan,zaq,zaa,czb,cza,↓reduceIte,zaf,onz]
  all_goals (repeat' first | (with_reducible first | rfl | apply And.intro | assumption) | ((with_reducible show zad _ _ = true); rfl)) <;> try first | omega | (simp only [InR]; omega)
  rw [h1]; clear h1 Q1; simp only [zaO,zav])
 simp (maxSteps:=4000000) only [go_sem,AV.one,zae,zab,zac,zan,zaq,zaa,czb,cza,↓reduceIte,zaf,onz]
 all_goals (repeat' first | (with_reducible first | rfl | apply And.intro | assumption) | ((with_reducible show zad _ _ = true); rfl)) <;> try first | omega | (simp only [InR]; omega)
 refine ⟨[2,3,0,1,4,5,6,7],by rfl,by (simp only [zeI,reOn,List.map_toArray,czb,List.map_nil,List.getD_cons_zero,List.getD_cons_succ]; rfl),?_⟩
 have hm:∀ o ∈ [AObj.cells [.sl (y.chairs.map EncE.cs) .no,.int .i64 y.fit,.sl (y.claims.map EncE.cs) .no]],zcK [AObj.cells [.sl (y.chairs.map EncE.cs) .no,.int .i64 y.fit,.sl (y.claims.map EncE.cs) .no]].length o:=fun o ho => by rw [czC.1 ho]; simp [AV.bare,zal,zaF,zaI,zak,zas,zai,tokz1,lk,zaa,zaZ]
 have hwc:=zgc y hm
 have hkn:=zms (y:=y) hm
 unfold zlJ at hwc
 have hmc:=zkS hy (za7 y t) hso hkn
 simp (maxSteps:=4000000) only [zeI,reOn,List.map_toArray,go_sem,AV.one,zae,zab,zac,zan,zaq,zaa,czb,cza,↓reduceIte,zaf,onz]
 all_goals (repeat' first | (with_reducible first | rfl | apply And.intro | assumption) | ((with_reducible show zad _ _ = true); rfl)) <;> try first | omega | (simp only [InR]; omega)
 refine ⟨[0,1],by rfl,_,hwc,?_⟩
 rintro r m' ⟨rfl,rfl⟩ _
 simp (maxSteps:=4000000) only [go_sem,zae,zab,zac,zan,zaq,czb,cza,↓reduceIte,zaf,onz,zj8,cza,czy]
 all_goals (repeat' first | (with_reducible first | rfl | apply And.intro | assumption) | ((with_reducible show zad _ _ = true); rfl)) <;> try first | omega | (simp only [InR]; omega)
 ·intro d hd; cases hd; rfl
 ·intro d hd; cases hd; rfl
 ·exact ht.ok
 ·exact ht.len
 refine ⟨[],by rfl,_,za6 hmc,?_⟩
 rintro r m' ⟨r0,rfl,⟨rfl,hK1,hF1⟩,hlen1⟩ _
 simp (maxSteps:=4000000) only [go_sem,zae,zab,zac,zan,zaq,czb,cza,↓reduceIte,zaf,onz,zj8,hms]
 all_goals exact auz
end Go.Proofs
