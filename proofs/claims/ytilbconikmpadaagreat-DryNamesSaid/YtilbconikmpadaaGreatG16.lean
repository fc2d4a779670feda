/- The texts H15, H16, H17, H18, H19, joined. -/
import Derived.Test.YtilbconikmpadaaGreatG15
set_option linter.all false
namespace Go.Proofs
open Go.Fs
set_option maxHeartbeats 4000000
set_option maxRecDepth 8000
def wkY (y:Yd):W8:=⟨y,(ziK y).map (zb1 y.t)⟩
theorem zrh {y:Yd} (hv:VY y):zu1 (wkY y):=by
 refine ⟨hv,fun s hs => ?_,?_⟩
 ·obtain ⟨p,_,rfl⟩:=czx.1 hs
  exact ys_of hv p
 ·have:=work_len hv
  unfold wkY
  rw [czz]
  omega
theorem zoZ {y:Yd} (hv:VY y) (h:zeV y ≠ []):0 < (wkY y).ts.length:=by
 unfold wkY
 rw [czz]
 exact List.length_pos_iff.2 fun q => h ((zrg hv).1 q)
def askH (y:Yd) (o:List Int) (c:Int):Bool:=za8 y.chairs.length o && inB c 0 ((y.chairs.length:Int) - 1)
def zhJ (y:Yd) (o:List Int) (c:Int):Rg × Int:=if zgN y (askH y o c) = 0 then (zfD .free (wkY y) o c,0) else (⟨0,0⟩,zgN y (askH y o c))
theorem zq7 (y:Yd) (o:List Int) (c:Int) (h:(y.t.heights.length ≤ 4096 ∧ y.order.length ≤ 4096) ∧ o.length ≤ 4096):zaP Tryz.prog 33 [Enc.enc y,Enc.enc o,Enc.enc c] (· = Enc.enc (zhJ y o c)):=by
 obtain ⟨h12,h3⟩:=h
 unfold zhJ
 have ha:(FnFine.hours y o c).ask = askH y o c:=rfl
 obtain ⟨A,hA⟩:∃ A,askH y o c = A:=⟨_,rfl⟩
 simp only [zab,ydC]
 simp only [zcf]
 refine cpz zq0 Tryz.func33 zaB ?_
 rw [Tryz.ntmps33]
 simp only [Tryz.f33,zai,zam]
 refine zkI fun Q0 hQ0 => ?_
 refine zaC fun Q1 h1 => ?_
 simp (maxSteps:=4000000) only [go_sem,zae,zac,zad,zan,zaq,zaa,czb,cza,↓reduceIte,zaQ,zbQ,zbP,zau,zav,zat,zaw,zao,zap,zab,onz]
 all_goals (repeat' first | (with_reducible first | rfl | apply And.intro | assumption) | ((with_reducible show zaj _ _ = true); rfl)) <;> try first | omega | (simp only [InR]; omega)
 rw [h1]; clear h1 Q1; simp only [zaW,zaA]
 refine zaC fun Q1 h1 => ?_
 simp (maxSteps:=4000000) only [go_sem,zae,zac,zad,zan,zaq,zaa,czb,cza,↓reduceIte,zaQ,zbQ,zbP,zau,zav,zat,zaw,zao,zap,zab,onz]
 refine ⟨_,askedh y o c h12 rfl rfl rfl h3 (zcY ⟨zcc y _,by simp [AV.bare,zal,zaN,zaR,zak,zar,zaf,tokz1,lk,zaa,za3],by simp [AV.bare,zal,zaN,zaR,zak,zar,zaf,tokz1,lk,zaa,za3],by simp [AV.bare,zal,zaN,zaR,zak,zar,zaf,tokz1,lk,zaa,za3],trivial⟩),?_⟩
 rintro r m hR _
 rw [ha,hA] at hR
 rw [hA] at hQ0
 unfold zlp at hR
 rw [zkd] at hR
 by_cases e:zgN y A = 0
 ·rw [if_pos e] at hR hQ0
  obtain ⟨rfl,rfl⟩:=hR
  obtain ⟨hv,ht,htr,_,hk⟩:=zjb e
  have hk2:=zrh hv
  have hp:=zoZ hv htr
  subst ht
  unfold askH at hA
  simp only [czl] at hA
  have hc:0 ≤ c ∧ c ≤ (y.chairs.length:Int) - 1:=by simpa [inB] using hA.2
  have hdw:=zaQ (wkY y)
  have hts:(wkY y).ts = zee y:=hk.symm
  rw [hts] at hdw hp
  have hWy:(wkY y).y = y:=rfl
  rw [hWy] at hdw
  have hWc:0 ≤ c ∧ c < ((wkY y).y.chairs.length:Int):=by rw [hWy]; omega
  obtain ⟨W,hW⟩:∃ W,wkY y = W:=⟨_,rfl⟩
  obtain ⟨K,hK⟩:∃ K,zee y = K:=⟨_,rfl⟩
  have htk:∀ r,(K.map EncE.cs ++ r).take K.length = K.map (EncE.cs (α:=Sea)):=fun r => List.take_left' (by simp)
  unfold zhY yC
  rw [hK] at hts hdw hp ⊢
  rw [hW] at hts hdw hk2 hQ0 hWc
  have hpp:0 < W.ts.length:=by rw [hts]; exact hp
  simp (maxSteps:=4000000) only [go_sem,zae,zac,zad,zan,zaq,zaa,czb,cza,↓reduceIte,zaQ,zbQ,zbP,zau,zav,zat,zaw,zao,zap,zab,onz]
  rw [h1]; clear h1 Q1
  simp only [zaW,zaA]
  obtain ⟨B,hB⟩:∃ B,zfD .free W o c = B:=⟨_,rfl⟩
  simp (maxSteps:=4000000) only [go_sem,zae,zac,zad,zan,zaq,zaa,czb,cza,↓reduceIte,zaQ,zbQ,zbP,zau,zav,zat,zaw,zao,zap,zab,onz,hdw,htk,hQ0,hB,decide_true,decide_false]
  all_goals exact auz
 ·rw [if_neg e] at hR hQ0
  obtain ⟨rfl,rfl⟩:=hR
  simp (maxSteps:=4000000) only [go_sem,zae,zac,zad,zan,zaq,zaa,czb,cza,↓reduceIte,zaQ,zbQ,zbP,zau,zav,zat,zaw,zao,zap,zab,onz]
  rw [h1]; clear h1 Q1
  simp only [zaW,zaA]
  simp (maxSteps:=4000000) only [go_sem,zae,zac,zad,zan,zaq,zaa,czb,cza,↓reduceIte,zaQ,zbQ,zbP,zau,zav,zat,zaw,zao,zap,zab,onz,e,hQ0,decide_true,decide_false]
def askFr (y:Yd) (o:List Int) (c k:Int):Bool:=za8 y.chairs.length o && inB c 0 ((y.chairs.length:Int) - 1) && inB k 0 y.t.last
def freeQ (r:Rg):Int:=if r.lo = 1 then 1 else if r.hi = 0 then 2 else 3
def freeR (y:Yd) (o:List Int) (c k:Int):Int × Int:=if zgN y (askFr y o c k) = 0 then (freeQ (zfD (.has k) (wkY y) o c),0) else (0,zgN y (askFr y o c k))
theorem zuS (y:Yd) (o:List Int) (c k:Int) (h:(y.t.heights.length ≤ 4096 ∧ y.order.length ≤ 4096) ∧ o.length ≤ 4096):zaP Tryz.prog 32 [Enc.enc y,Enc.enc o,Enc.enc c,Enc.enc k] (· = Enc.enc (freeR y o c k)):=by
 obtain ⟨h12,h3⟩:=h
 unfold freeR
 have ha:(FnFine.free y o c k).ask = askFr y o c k:=rfl
 obtain ⟨A,hA⟩:∃ A,askFr y o c k = A:=⟨_,rfl⟩
 simp only [zab,ydC]
 simp only [zcf]
 refine cpz zq0 Tryz.func32 zaB ?_
 rw [Tryz.ntmps32]
 simp only [Tryz.f32,zai,zam]
 refine zkI fun Q0 hQ0 => ?_
 refine zaC fun Q1 h1 => ?_
 simp (maxSteps:=4000000) only [go_sem,zae,zac,zad,zan,zaq,zaa,czb,cza,↓reduceIte,zaQ,zbQ,zbP,zau,zav,zat,zaw,zao,zap,zab,onz]
 all_goals (repeat' first | (with_reducible first | rfl | apply And.intro | assumption) | ((with_reducible show zaj _ _ = true); rfl)) <;> try first | omega | (simp only [InR]; omega)
 rw [h1]; clear h1 Q1; simp only [zaW,zaA]
 refine zaC fun Q1 h1 => ?_
 simp (maxSteps:=4000000) only [go_sem,zae,zac,zad,zan,zaq,zaa,czb,cza,↓reduceIte,zaQ,zbQ,zbP,zau,zav,zat,zaw,zao,zap,zab,onz]
 refine ⟨_,askedf y o c k h12 rfl rfl rfl rfl h3 (zcY ⟨zcc y _,by simp [AV.bare,zal,zaN,zaR,zak,zar,zaf,tokz1,lk,zaa,za3],by simp [AV.bare,zal,zaN,zaR,zak,zar,zaf,tokz1,lk,zaa,za3],by simp [AV.bare,zal,zaN,zaR,zak,zar,zaf,tokz1,lk,zaa,za3],trivial⟩),?_⟩
 rintro r m hR _
 rw [ha,hA] at hR
 rw [hA] at hQ0
 unfold zlp at hR
 rw [zkd] at hR
 by_cases e:zgN y A = 0
 ·rw [if_pos e] at hR hQ0
  obtain ⟨rfl,rfl⟩:=hR
  obtain ⟨hv,ht,htr,_,hk⟩:=zjb e
  have hk2:=zrh hv
  have hp:=zoZ hv htr
  subst ht
  unfold askFr at hA
  simp only [czl] at hA
  have hc:0 ≤ c ∧ c ≤ (y.chairs.length:Int) - 1:=by simpa [inB] using hA.1.2
  have hdw:=zaQ (wkY y)
  have hts:(wkY y).ts = zee y:=hk.symm
  rw [hts] at hdw hp
  have hWy:(wkY y).y = y:=rfl
  rw [hWy] at hdw
  have hWc:0 ≤ c ∧ c < ((wkY y).y.chairs.length:Int):=by rw [hWy]; omega
  obtain ⟨W,hW⟩:∃ W,wkY y = W:=⟨_,rfl⟩
  obtain ⟨K,hK⟩:∃ K,zee y = K:=⟨_,rfl⟩
  have htk:∀ r,(K.map EncE.cs ++ r).take K.length = K.map (EncE.cs (α:=Sea)):=fun r => List.take_left' (by simp)
  unfold zhY yC
  unfold freeQ at hQ0
  rw [hK] at hts hdw hp ⊢
  rw [hW] at hts hdw hk2 hQ0 hWc
  have hpp:0 < W.ts.length:=by rw [hts]; exact hp
  simp (maxSteps:=4000000) only [go_sem,zae,zac,zad,zan,zaq,zaa,czb,cza,↓reduceIte,zaQ,zbQ,zbP,zau,zav,zat,zaw,zao,zap,zab,onz]
  rw [h1]; clear h1 Q1
  simp only [zaW,zaA]
  obtain ⟨B,hB⟩:∃ B,zfD (.has k) W o c = B:=⟨_,rfl⟩
  simp (maxSteps:=4000000) only [go_sem,zae,zac,zad,zan,zaq,zaa,czb,cza,↓reduceIte,zaQ,zbQ,zbP,zau,zav,zat,zaw,zao,zap,zab,onz,hdw,htk,hQ0,hB,decide_true,decide_false]
  all_goals (repeat' first | (with_reducible first | rfl | apply And.intro | assumption) | ((with_reducible show zaj _ _ = true); rfl)) <;> try first | omega | (simp only [InR]; omega)
  ·intro q; rw [if_pos (of_decide_eq_true q)]
  ·intro q
   rw [if_neg (of_decide_eq_false q)]
   exact ⟨fun r => by rw [if_pos (of_decide_eq_true r)],fun r => by rw [if_neg (of_decide_eq_false r)]⟩
 ·rw [if_neg e] at hR hQ0
  obtain ⟨rfl,rfl⟩:=hR
  simp (maxSteps:=4000000) only [go_sem,zae,zac,zad,zan,zaq,zaa,czb,cza,↓reduceIte,zaQ,zbQ,zbP,zau,zav,zat,zaw,zao,zap,zab,onz]
  rw [h1]; clear h1 Q1
  simp only [zaW,zaA]
  simp (maxSteps:=4000000) only [go_sem,zae,zac,zad,zan,zaq,zaa,czb,cza,↓reduceIte,zaQ,zbQ,zbP,zau,zav,zat,zaw,zao,zap,zab,onz,e,hQ0,decide_true,decide_false]
def P131 (g:FuncId):=(zas 33 (zec (fun (y:Yd) (o:List Int) (_:Int) => (y.t.heights.length ≤ 4096 ∧ y.order.length ≤ 4096) ∧ o.length ≤ 4096) zhJ) (zas 32 (ziL (fun (y:Yd) (o:List Int) (_ _:Int) => (y.t.heights.length ≤ 4096 ∧ y.order.length ≤ 4096) ∧ o.length ≤ 4096) freeR) (P130)):zaJ) g
theorem zik:zaz Tryz.prog P131:=zah (zb8 zq7) (zah (zeg zuS) (zq0))
theorem zor (d:Option Nat):zaF P131 d = none:=(zag (by decide) d).trans ((zag (by decide) d).trans (zos d))
attribute [go_sem] P131 zor
def zkt (y:Yd) (s:Sea) (c b:Int):Bool:=decide ((zfP y s ⟨c,b⟩).rot ≤ y.t.last)
structure Memo8 (y:Yd) (s:Sea) (ks:List (List Int)) (vs:List Bool):Prop where
 len:vs.length = ks.length
 ok:∀ i,i < ks.length → ∃ c b,ks.getD i [] = [c,b] ∧ vs.getD i false = zkt y s c b
theorem Memo8.two {y:Yd} {s:Sea} {ks:List (List Int)} {vs:List Bool} (h:Memo8 y s ks vs):∀ k ∈ ks,k.length = 2:=fun k hk => by
 obtain ⟨i,hi,rfl⟩:=List.mem_iff_getElem.1 hk
 obtain ⟨c,b,e,_⟩:=h.ok i hi
 have:ks.getD i [] = ks[i]:=by simp [List.getD,hi]
 rw [← this,e]; rfl
theorem zm5 (y:Yd) (s:Sea):Memo8 y s [] []:=⟨rfl,fun i hi => by simp at hi⟩
theorem ziv {ks:List (List Int)} {k:List Int} {i:Nat} (h:zad ks k = some i):i < ks.length ∧ ks.getD i [] = k:=by
 unfold zad at h
 have h1:=(List.findIdx?_eq_some_iff_getElem.1 h)
 obtain ⟨hi,h2,_⟩:=h1
 exact ⟨hi,by simpa [List.getD,hi] using h2⟩
theorem look8_ok {y:Yd} {s:Sea} {ks:List (List Int)} {vs:List Bool} (h:Memo8 y s ks vs) {c b:Int} {i:Nat} (hk:zad ks [c,b] = some i):vs.getD i false = zkt y s c b:=by
 obtain ⟨hi,h1⟩:=ziv hk
 obtain ⟨c',b',e,hv⟩:=h.ok i hi
 rw [h1] at e
 cases e
 exact hv
theorem memo8_put {y:Yd} {s:Sea} {ks:List (List Int)} {vs:List Bool} (h:Memo8 y s ks vs) {c b:Int} (hk:zad ks [c,b] = none):Memo8 y s (ks ++ [[c,b]]) (vs ++ [zkt y s c b]):=by
 refine ⟨by simp [h.len],fun i hi => ?_⟩
 simp at hi
 by_cases e:i < ks.length
 ·obtain ⟨c',b',e1,e2⟩:=h.ok i e
  refine ⟨c',b',?_,?_⟩
  ·rw [← e1]; simp [List.getD,czi e]
  ·rw [← e2]; simp [List.getD,czi (show i < vs.length by rw [h.len]; exact e)]
 ·have:i = ks.length:=by omega
  subst this
  refine ⟨c,b,by simp [List.getD],?_⟩
  rw [← h.len]; simp [List.getD]
theorem getD_vs8 (vs:List Bool) {i:Nat} (hi:i < vs.length):(vs.map AV.bool).getD i .undef = .bool (vs.getD i false):=by simp [List.getD,hi]
theorem keyOk28:zq6 Tryz.prog 192 2:=zrM ek_192
theorem zj9 (k:Nat) (ks:List (List Int)) (vs:List Bool):zb6 k (.map ks (vs.map AV.bool)) = True:=by
 simp only [zdd,eq_iff_iff,iff_true]
 intro c hc
 obtain ⟨x,_,rfl⟩:=czx.1 hc
 trivial
section
variable {mem:List AObj} {a m:Nat}
theorem zmN (y:Yd) (s:Sea) (T:AV) (hT:T.one = true) (ks:List (List Int)) (vs:List Bool) (hM:Memo8 y s ks vs) (c b:Int) (hys:YS y s) (hc:0 ≤ c ∧ c < y.chairs.length)
  (ha:zaa mem a = .cells [.int .i64 y.t.last,.sl (y.t.heights.map EncE.cs) .no,.int .i64 y.t.step,.sl (y.t.levels.map EncE.cs) .no,.sl (y.t.marks.map EncE.cs) .no,.int .i64 y.hands,.sl (y.chairs.map EncE.cs) .no,.sl (y.order.map EncE.cs) .no,.sl (y.hires.map EncE.cs) .no,T]) (hmm:zaa mem m = .map ks (vs.map AV.bool)) (hm:∀ o ∈ mem,zb6 mem.length o) :
  zfS Tryz.prog 141 [.ptr a 0,seaC s,.mp m,.agg [.int .i64 c,.int .i64 b]] mem
   (fun r m' => r = .bool (zkt y s c b) ∧ ∃ ks' vs',Memo8 y s ks' vs' ∧ m' = mem.set m (.map ks' (vs'.map AV.bool))):=by
 have hal:=zbf ha (by simp)
 have hml:=zbf hmm (by simp)
 have g0:∀ r,zaa (mem ++ r) a = .cells [.int .i64 y.t.last,.sl (y.t.heights.map EncE.cs) .no,.int .i64 y.t.step,.sl (y.t.levels.map EncE.cs) .no,.sl (y.t.marks.map EncE.cs) .no,.int .i64 y.hands,.sl (y.chairs.map EncE.cs) .no,.sl (y.order.map EncE.cs) .no,.sl (y.hires.map EncE.cs) .no,T]:=fun r => by rw [zaT hal,ha]
 have g1:∀ r,zaa (mem ++ r) m = .map ks (vs.map AV.bool):=fun r => by rw [zaT hml,hmm]
 have g2:∀ r,zaa (mem ++ r) mem.length = zaa r 0:=fun r => zaK _ _ 0
 have g3:∀ r k,zaa (mem ++ r) (mem.length + k) = zaa r k:=fun r k => zaK _ _ k
 have s2:∀ r o,(mem ++ r).set mem.length o = mem ++ r.set 0 o:=fun r o => zbN _ _ 0 _
 have s3:∀ r k o,(mem ++ r).set (mem.length + k) o = mem ++ r.set k o:=fun r k o => zbN _ _ k _
 have s1:∀ r o,(mem ++ r).set m o = mem.set m o ++ r:=fun r o => List.set_append_left _ _ hml
 have hk2:=keyOk28
 have h2:=hM.two
 have hpre:=hys.pre (b:=b) hc.1 hc.2
 refine zch (Φ:=P131) Tryz.func141 rfl (by rfl) (by rw [Tryz.ntmps141]; simp) zaB zik (by simp [AV.strip,AV.strip1,seaC,Tk.strip]) ?_
 rw [Tryz.ntmps141]
 simp only [Tryz.f141,zai,zam,seaC]
 cases hki:zad ks [c,b] with
 | some i =>
  have hlk:=look8_ok hM hki
  have hi:=(ziv hki).1
  have hgv:=getD_vs8 vs (i:=i) (by rw [hM.len]; exact hi)
  rw [hlk] at hgv
  simp (maxSteps:=4000000) only [go_sem,zae,zac,zan,zaq,czb,cza,↓reduceIte,zab,zay,onz,czd,czc,g0,g1,g2,g3,s1,s2,s3,hki,hgv,Option.isSome_some]
  all_goals (repeat' first | (with_reducible first | rfl | apply And.intro | assumption) | ((with_reducible show zaj _ _ = true); rfl)) <;> try first | omega | (simp only [InR]; omega)
  ·rw [List.take_append_of_le_length (czf _),czm]
   exact ⟨ks,vs,hM,(zlA hmm).symm⟩
  ·simp [AV.bare,zal,zaN,zaR,zak,zar,zaf,tokz1,lk,zaa,za3]
  ·rw [List.take_append_of_le_length (czf _),czm]
   exact hm
 | none =>
  simp (maxSteps:=4000000) only [go_sem,zae,zac,zan,zaq,czb,cza,↓reduceIte,zab,zay,onz,czd,czc,g0,g1,g2,g3,s1,s2,s3,hki,hT,Option.isSome_none]
  all_goals (repeat' first | (with_reducible first | rfl | apply And.intro | assumption) | ((with_reducible show zaj _ _ = true); rfl)) <;> try first | omega | (simp only [InR]; omega)
  ·rfl
  ·rw [List.take_left' (czt)]
   exact ⟨ks ++ [[c,b]],vs ++ [zkt y s c b],memo8_put hM hki,by rw [List.map_append]; rfl⟩
  ·simp [AV.bare,zal,zaN,zaR,zak,zar,zaf,tokz1,lk,zaa,za3]
  ·rw [List.take_left' (czt)]
   intro o ho
   rcases List.mem_or_eq_of_mem_set ho with q | q
   ·exact hm o q
   ·subst q
    have:=zj9 mem.length (ks ++ [[c,b]]) (vs ++ [zkt y s c b])
    rw [List.map_append] at this
    exact this.mpr trivial
end
def zg3 (y:Yd) (s:Sea) (o:List Int) (k:Nat):Int:=(((List.range k).filter fun c:Nat => zkt y s c (zca y o c)).length:Nat)
theorem zk0 (y:Yd) (s:Sea) (o:List Int) (k:Nat):zg3 y s o (k + 1) = if zkt y s k (zca y o k) = true then zg3 y s o k + 1 else zg3 y s o k:=by
 unfold zg3
 rw [List.range_succ,List.filter_append,czc]
 by_cases c:zkt y s k (zca y o k) = true <;> simp [c]
theorem zhE (y:Yd) (s:Sea) (o:List Int) (k:Nat):0 ≤ zg3 y s o k ∧ zg3 y s o k ≤ k:=by
 unfold zg3
 have:=List.length_filter_le (fun c:Nat => zkt y s c (zca y o c)) (List.range k)
 simp at this
 omega
def zc0 (y:Yd) (ts:List Sea) (o:List Int):Nat → Int × Int
 | 0 => (-1,0)
 | i + 1 => if (zc0 y ts o i).1 < zg3 y (at_ ts i) o y.chairs.length then (zg3 y (at_ ts i) o y.chairs.length,i) else zc0 y ts o i
theorem zi7 (y:Yd) (ts:List Sea) (o:List Int):∀ i,-1 ≤ (zc0 y ts o i).1 ∧ (zc0 y ts o i).1 ≤ y.chairs.length ∧ 0 ≤ (zc0 y ts o i).2 ∧ (zc0 y ts o i).2 ≤ i
 | 0 => by simp only [zc0]; omega
 | i + 1 => by
  have h:=zi7 y ts o i
  have hb:=zhE y (at_ ts i) o y.chairs.length
  unfold zc0
  split
  ·dsimp only; omega
  ·omega
structure Kn8 (y:Yd) (ts:List Sea) (M0:Nat) (mem m:List AObj):Prop where
 len:m.length = mem.length
 same:∀ j,(j < M0 ∨ M0 + ts.length ≤ j) → zaa m j = zaa mem j
 maps:∀ i,i < ts.length → ∃ ks vs,Memo8 y (at_ ts i) ks vs ∧ zaa m (M0 + i) = .map ks (vs.map AV.bool)
 ok:∀ o ∈ m,zb6 m.length o
theorem Kn8.keep {y:Yd} {ts:List Sea} {M0:Nat} {mem m:List AObj} (h0:Kn8 y ts M0 mem mem) (h:Kn8 y ts M0 mem m) {j:Nat} {cs:List AV} (hj:zaa mem j = .cells cs):zaa m j = .cells cs:=by
 rw [← hj]
 refine h.same j ?_
 by_cases c:j < M0
 ·exact .inl c
 ·refine .inr (czE fun q => ?_)
  obtain ⟨ks,vs,_,e⟩:=h0.maps (j - M0) (by omega)
  rw [show M0 + (j - M0) = j by omega,hj] at e
  cases e
theorem Kn8.keepV {y:Yd} {ts:List Sea} {M0:Nat} {mem m:List AObj} (h0:Kn8 y ts M0 mem mem) (h:Kn8 y ts M0 mem m) {j:Nat} {es sz st} (hj:zaa mem j = .vec es sz st):zaa m j = .vec es sz st:=by
 rw [← hj]
 refine h.same j ?_
 by_cases c:j < M0
 ·exact .inl c
 ·refine .inr (czE fun q => ?_)
  obtain ⟨ks,vs,_,e⟩:=h0.maps (j - M0) (by omega)
  rw [show M0 + (j - M0) = j by omega,hj] at e
  cases e
theorem Kn8.put {y:Yd} {ts:List Sea} {M0:Nat} {mem m:List AObj} (h:Kn8 y ts M0 mem m) {i:Nat} (hi:i < ts.length) {ks:List (List Int)} {vs:List Bool} (hM:Memo8 y (at_ ts i) ks vs):Kn8 y ts M0 mem (m.set (M0 + i) (.map ks (vs.map AV.bool))):=by
 have hl:M0 + i < m.length:=by
  obtain ⟨_,_,_,e⟩:=h.maps i hi
  exact zbf e (by simp)
 refine ⟨by rw [czt,h.len],fun j hj => ?_,fun j hj => ?_,fun o ho => ?_⟩
 ·rw [zaD _ _ _ _ hl,if_neg (by omega),h.same j hj]
 ·by_cases e:j = i
  ·subst e
   exact ⟨ks,vs,hM,zd4 hl _⟩
  ·obtain ⟨ks',vs',h1,h2⟩:=h.maps j hj
   exact ⟨ks',vs',h1,by rw [zaD _ _ _ _ hl,if_neg (by omega),h2]⟩
 ·rw [czt]
  rcases List.mem_or_eq_of_mem_set ho with q | q
  ·exact h.ok o q
  ·subst q; exact (zj9 _ _ _).mpr trivial
section
variable {mem:List AObj} {a v L M0:Nat}
theorem znd (y:Yd) (ts:List Sea) (st:Nat) (zs:List (List AV)) (o:List Int) (hw:zu1 ⟨y,ts⟩) (ho:o.length ≤ 4096)
  (ha:zaa mem a = .cells [.int .i64 y.t.last,.sl (y.t.heights.map EncE.cs) .no,.int .i64 y.t.step,.sl (y.t.levels.map EncE.cs) .no,.sl (y.t.marks.map EncE.cs) .no,.int .i64 y.hands,.sl (y.chairs.map EncE.cs) .no,.sl (y.order.map EncE.cs) .no,.sl (y.hires.map EncE.cs) .no,.vec v st 0 ts.length 2])
  (hvv:zaa mem v = .vec (ts.map EncE.cs ++ zs) 2 st) (hL:zaa mem L = .cells ((List.range ts.length).map fun i => .mp (M0 + i))) (h0:Kn8 y ts M0 mem mem) :
  zfS Tryz.prog 103 [.ptr a 0,.sl (o.map EncE.cs) .no,.arr L 0 ts.length 1] mem
   (fun r m' => r = .tup [.int .i64 (zc0 y ts o ts.length).1,.int .i64 (zc0 y ts o ts.length).2] ∧ Kn8 y ts M0 mem m'):=by
 have hal:=zbf ha (by simp)
 have hvl:=zbf hvv (by simp)
 have hLl:=zbf hL (by simp)
 obtain ⟨hv,hys,hl4⟩:=hw
 dsimp only at hv hys hl4
 have hb1:=hv.l0
 have hb2:=hv.h0
 have hb3:=hv.h5
 have hc5:=hv.c5
 refine zch (Φ:=P131) Tryz.func103 rfl (by rfl) (by rw [Tryz.ntmps103]; simp) zaB zik (by simp [AV.strip,AV.strip1,Tk.strip]) ?_
 rw [Tryz.ntmps103]
 simp only [Tryz.f103,zai,zam]
 simp (maxSteps:=4000000) only [go_sem,zae,zac,zad,zan,zaq,czb,cza,↓reduceIte,zab,zay,onz,ha,hvv]
 all_goals (repeat' first | (with_reducible first | rfl | apply And.intro | assumption) | ((with_reducible show zaj _ _ = true); rfl)) <;> try first | omega | (simp only [InR]; omega)
 refine zjN [] [0,1,2,15,16] (fun b:Nat × List AObj => [(17,.int .i64 b.1),(6,.int .i64 (zc0 y ts o b.1).1),(7,.int .i64 (zc0 y ts o b.1).2)]) (fun b _ => b.2) (fun b => b.1 ≤ ts.length ∧ Kn8 y ts M0 mem b.2) (fun b => ts.length - b.1) (((0,mem):Nat × List AObj)) ?_ ?_ ?_
 ·exact ⟨Nat.zero_le _,h0⟩
 ·refine ⟨rfl,rfl,rfl,czf _,za0 _,?_,zby h0.ok,trivial⟩
  show zaN _ mem.length _
  simp [AV.bare,zal,zaN,zaR,zak,zar,zaf,tokz1,lk,zaa,za3,zc0,hal,hvl,hLl,-List.map_map]
 ·rintro ⟨i,m⟩ ⟨hi0,hK⟩
  simp only at hi0 hK
  have hml:=hK.len
  have hma:=h0.keep hK ha
  have hmv:=h0.keepV hK hvv
  have hmL:=h0.keep hK hL
  obtain ⟨n0,hn0⟩:∃ n0,mem.length = n0:=⟨_,rfl⟩
  rw [hn0] at hml hal hvl hLl
  have gA:∀ r,zaa (m ++ r) a = _:=fun r => (zaT (by omega)).trans hma
  have gV:∀ r,zaa (m ++ r) v = _:=fun r => (zaT (by omega)).trans hmv
  have gL:∀ r,zaa (m ++ r) L = _:=fun r => (zaT (by omega)).trans hmL
  have g0:∀ r,zaa (m ++ r) n0 = zaa r 0:=fun r => by rw [← hml]; exact zaK _ _ 0
  have s0:∀ r o,(m ++ r).set n0 o = m ++ r.set 0 o:=fun r o => by rw [← hml]; exact zbN _ _ 0 _
  have hmok:=hK.ok
  rw [hml] at hmok
  by_cases hi:i < ts.length
  ·have hi':=czH.2 hi
   have hgd:(ts.map EncE.cs ++ zs).getD i [] = EncE.cs (at_ ts i):=by
    have:=zax (f:=EncE.cs) hi
    rw [← this]
    simp [List.getD,czi,hi]
   refine zkI fun Q0 hQ0 => ?_
   simp (maxSteps:=4000000) only [go_sem,zae,zac,zad,zan,zaq,czb,cza,↓reduceIte,zab,zay,onz,gA,gV,gL,g0,s0,hma,hmv,hmL,hml,hgd,hi',czc]
   all_goals (repeat' first | (with_reducible first | rfl | apply And.intro | assumption) | ((with_reducible show zaj _ _ = true); rfl)) <;> try first | omega | (simp only [InR]; omega)
   refine zjN [] [0,1,2,6,7,8,9,15,16,17,19,20,21,22,23,24,25,26,27] (fun b:Nat × List AObj => [(28,.int .i64 b.1),(10,.int .i64 (zg3 y (at_ ts i) o b.1))]) (fun b _ => b.2 ++ [.cells [.sl ((at_ ts i).hs.map EncE.cs) .no,.sl ((at_ ts i).rows.map EncE.cs) .no]]) (fun b => b.1 ≤ y.chairs.length ∧ Kn8 y ts M0 mem b.2) (fun b => y.chairs.length - b.1) (((0,m):Nat × List AObj)) ?_ ?_ ?_
   ·exact ⟨Nat.zero_le _,hK⟩
   ·refine ⟨rfl,rfl,rfl,?_,za0 _,?_,zby ?_,trivial⟩
    ·show mem.length ≤ (m ++ [_]).length
     rw [czc,hml,hn0]
     omega
    ·show zaN _ (m ++ [_]).length _
     rw [czc,hml]
     simp [AV.bare,zal,zaN,zaR,zak,zar,zaf,tokz1,lk,zaa,za3,hal,hvl,hLl,zg3,-List.map_map]
     try omega
    ·exact zce (m:=m) (n0:=n0) hmok (by show n0 ≤ (m ++ [_]).length; rw [czc,hml]; omega) (by simp [AV.bare,zal,zaN,zaR,zak,zar,zaf,tokz1,lk,zaa,za3,-List.map_map])
   ·rintro ⟨c,m1⟩ ⟨hc0,hK1⟩
    simp only at hc0 hK1
    have hml1:=hK1.len
    rw [hn0] at hml1
    have hma1:=h0.keep hK1 ha
    have hmv1:=h0.keepV hK1 hvv
    have hmL1:=h0.keep hK1 hL
    have gA1:∀ r,zaa (m1 ++ r) a = _:=fun r => (zaT (by omega)).trans hma1
    have gV1:∀ r,zaa (m1 ++ r) v = _:=fun r => (zaT (by omega)).trans hmv1
    have gL1:∀ r,zaa (m1 ++ r) L = _:=fun r => (zaT (by omega)).trans hmL1
    have g01:∀ r,zaa (m1 ++ r) n0 = zaa r 0:=fun r => by rw [← hml1]; exact zaK _ _ 0
    have hmok1:=hK1.ok
    rw [hml1] at hmok1
    by_cases hc:c < y.chairs.length
    ·have hc':=czH.2 hc
     have hci:(0:Int) ≤ c ∧ (c:Int) < y.chairs.length:=⟨by omega,hc'⟩
     obtain ⟨ks,vs,hM,hmm⟩:=hK1.maps i hi
     have hMl:=zbf hmm (by simp)
     have hkn:((List.range ts.length).map fun i => AV.mp (M0 + i)).getD i .undef = .mp (M0 + i):=by simp [List.getD,hi]
     obtain ⟨b,hb⟩:∃ b,zca y o c = b:=⟨_,rfl⟩
     have hrc:=zmN (mem:=m1 ++ [.cells [.sl ((at_ ts i).hs.map EncE.cs) .no,.sl ((at_ ts i).rows.map EncE.cs) .no]]) (a:=a) (m:=M0 + i) y (at_ ts i) (.vec v st 0 ts.length 2) rfl ks vs hM c b (hys _ (zbv hi)) hci (gA1 _) ((zaT hMl).trans hmm) (by
      have:(m1 ++ [AObj.cells [.sl ((at_ ts i).hs.map EncE.cs) .no,.sl ((at_ ts i).rows.map EncE.cs) .no]]).length = n0 + 1:=by simp [hml1]
      rw [this]
      exact zce hmok1 (by omega) (by simp [AV.bare,zal,zaN,zaR,zak,zar,zaf,tokz1,lk,zaa,za3,-List.map_map]))
     simp (maxSteps:=4000000) only [go_sem,zae,zac,zad,zan,zaq,czb,cza,↓reduceIte,zab,zay,onz,gA1,gV1,gL1,g01,hml1,hkn,hc',hb,czc]
     all_goals (repeat' first | (with_reducible first | rfl | apply And.intro | assumption) | ((with_reducible show zaj _ _ = true); rfl)) <;> try first | omega | (simp only [InR]; omega)
     ·simpa using hi
     refine ⟨[],by rfl,_,zbE hrc,?_⟩
     rintro r mem' ⟨r0,rfl,⟨rfl,ks',vs',hM',rfl⟩,hlen⟩ _
     have hset:∀ (r:List AObj) o,(m1 ++ r).set (M0 + i) o = m1.set (M0 + i) o ++ r:=fun r o => List.set_append_left _ _ (by omega)
     have hK2:=hK1.put hi hM'
     have hsuc:=zk0 y (at_ ts i) o c
     rw [hb] at hsuc
     rw [hset]
     simp (maxSteps:=4000000) only [go_sem,zae,zac,zad,zan,zaq,czb,cza,↓reduceIte,zab,zay,onz]
     all_goals (repeat' first | (with_reducible first | rfl | apply And.intro | assumption) | ((with_reducible show zaj _ _ = true); rfl)) <;> try first | omega | (simp only [InR]; omega)
     ·trivial
     ·intro q
      rw [if_pos q] at hsuc
      have hbd:=zhE y (at_ ts i) o c
      refine ⟨(by simp only [InR]; omega),(by simp only [InR]; omega),(c + 1,m1.set (M0 + i) (.map ks' (vs'.map AV.bool))),⟨by dsimp only; omega,hK2⟩,by dsimp only; omega,zbl ⟨rfl,rfl,rfl,?_,za0 _,?_,zby ?_,trivial⟩⟩
      ·show mem.length ≤ (List.set m1 _ _ ++ [_]).length
       rw [czc,czt,hml1,hn0]
       omega
      ·show zaN _ (List.set m1 _ _ ++ [_]).length _
       rw [czc,czt,hml1]
       simp [AV.bare,zal,zaN,zaR,zak,zar,zaf,tokz1,lk,zaa,za3,hsuc,hal,hvl,hLl,-List.map_map]
       try omega
      ·have:=hK2.ok
       rw [czt,hml1] at this
       exact zce this (by show n0 ≤ (List.set m1 _ _ ++ [_]).length; rw [czc,czt,hml1]; omega) (by simp [AV.bare,zal,zaN,zaR,zak,zar,zaf,tokz1,lk,zaa,za3,-List.map_map])
     ·intro q
      rw [if_neg (by rw [q]; simp)] at hsuc
      have hbd:=zhE y (at_ ts i) o c
      refine ⟨(by simp only [InR]; omega),(c + 1,m1.set (M0 + i) (.map ks' (vs'.map AV.bool))),⟨by dsimp only; omega,hK2⟩,by dsimp only; omega,zbl ⟨rfl,rfl,rfl,?_,za0 _,?_,zby ?_,trivial⟩⟩
      ·show mem.length ≤ (List.set m1 _ _ ++ [_]).length
       rw [czc,czt,hml1,hn0]
       omega
      ·show zaN _ (List.set m1 _ _ ++ [_]).length _
       rw [czc,czt,hml1]
       simp [AV.bare,zal,zaN,zaR,zak,zar,zaf,tokz1,lk,zaa,za3,hsuc,hal,hvl,hLl,-List.map_map]
       try omega
      ·have:=hK2.ok
       rw [czt,hml1] at this
       exact zce this (by show n0 ≤ (List.set m1 _ _ ++ [_]).length; rw [czc,czt,hml1]; omega) (by simp [AV.bare,zal,zaN,zaR,zak,zar,zaf,tokz1,lk,zaa,za3,-List.map_map])
    ·have hce:c = y.chairs.length:=by omega
     subst hce
     simp (maxSteps:=4000000) only [go_sem,zae,zac,zad,zan,zaq,czb,cza,↓reduceIte,zab,zay,onz,czA]
     all_goals (repeat' first | (with_reducible first | rfl | apply And.intro | assumption) | ((with_reducible show zaj _ _ = true); rfl)) <;> try first | omega | (simp only [InR]; omega)
     ·intro q
      have hlp:zc0 y ts o (i + 1) = (zg3 y (at_ ts i) o y.chairs.length,(i:Int)):=by rw [zc0]; exact if_pos (of_decide_eq_true q)
      refine ⟨(by simp only [InR]; omega),?_⟩
      rw [hQ0]
      simp only [zaW]
      refine ⟨(i + 1,m1),⟨by dsimp only; omega,hK1⟩,by dsimp only; omega,zbl ⟨rfl,rfl,rfl,?_,zd2 _ _,?_,zby ?_,trivial⟩⟩
      ·show mem.length ≤ m1.length
       rw [hml1,hn0]
       omega
      ·show zaN _ m1.length _
       rw [hml1]
       simp [AV.bare,zal,zaN,zaR,zak,zar,zaf,tokz1,lk,zaa,za3,hlp,hal,hvl,hLl,-List.map_map]
       try omega
      ·exact hK1.ok
     ·intro q
      have hlp:zc0 y ts o (i + 1) = zc0 y ts o i:=by rw [zc0]; exact if_neg (of_decide_eq_false q)
      refine ⟨(by simp only [InR]; omega),?_⟩
      rw [hQ0]
      simp only [zaW]
      refine ⟨(i + 1,m1),⟨by dsimp only; omega,hK1⟩,by dsimp only; omega,zbl ⟨rfl,rfl,rfl,?_,zd2 _ _,?_,zby ?_,trivial⟩⟩
      ·show mem.length ≤ m1.length
       rw [hml1,hn0]
       omega
      ·show zaN _ m1.length _
       rw [hml1]
       simp [AV.bare,zal,zaN,zaR,zak,zar,zaf,tokz1,lk,zaa,za3,hlp,hal,hvl,hLl,-List.map_map]
       try omega
      ·exact hK1.ok
  ·have hie:i = ts.length:=by omega
   subst hie
   simp (maxSteps:=4000000) only [go_sem,zae,zac,zad,zan,zaq,czb,cza,↓reduceIte,zab,zay,onz,czA]
   all_goals (repeat' first | (with_reducible first | rfl | apply And.intro | assumption) | ((with_reducible show zaj _ _ = true); rfl)) <;> try first | omega | (simp only [InR]; omega)
   ·rw [cze (by omega)]; exact hK
   ·simp [AV.bare,zal,zaN,zaR,zak,zar,zaf,tokz1,lk,zaa,za3]
   ·rw [cze (by omega),hn0]; exact hmok
end
def zkZ (n0 n i:Nat):List AV:=((List.range i).map fun j => AV.mp (n0 + 1 + j)) ++ List.replicate (n - i) .undef
theorem mpsC_len {n0 n i:Nat} (h:i ≤ n):(zkZ n0 n i).length = n:=by simp [zkZ]; omega
theorem mpsC_0 (n0 n:Nat):zkZ n0 n 0 = List.replicate n .undef:=by simp [zkZ]
theorem mpsC_n (n0 n:Nat):zkZ n0 n n = (List.range n).map fun j => AV.mp (n0 + 1 + j):=by simp [zkZ]
theorem mpsC_succ {n0 n i:Nat} (h:i < n):(zkZ n0 n i).take i ++ [AV.mp (n0 + 1 + i)] ++ (zkZ n0 n i).drop (i + 1) = zkZ n0 n (i + 1):=by
 have hl:((List.range i).map fun j => AV.mp (n0 + 1 + j)).length = i:=by simp
 have h1:(zkZ n0 n i).take i = (List.range i).map fun j => AV.mp (n0 + 1 + j):=List.take_left' hl
 have h2:(zkZ n0 n i).drop (i + 1) = List.replicate (n - (i + 1)) .undef:=by
  unfold zkZ
  rw [List.drop_append,hl,List.drop_of_length_le (by omega),List.nil_append,List.drop_replicate]
  congr 1
  omega
 rw [h1,h2]
 unfold zkZ
 rw [List.range_succ,List.map_append]
 simp
theorem zrC {n0 n i k:Nat} (h:n0 + i < k):∀ c ∈ zkZ n0 n i,bel k 9 c:=fun c hc => by
 rcases czv.1 hc with q | q
 ·obtain ⟨j,hj,rfl⟩:=czx.1 q
  have:=List.mem_range.1 hj
  simp only [bel]; omega
 ·rw [(czL.1 q).2]; trivial
section
variable {mem:List AObj} {a v:Nat}
theorem zk6 (y:Yd) (ts:List Sea) (st:Nat) (zs:List (List AV)) (hl:ts.length ≤ 4096)
  (ha:zaa mem a = .cells [.int .i64 y.t.last,.sl (y.t.heights.map EncE.cs) .no,.int .i64 y.t.step,.sl (y.t.levels.map EncE.cs) .no,.sl (y.t.marks.map EncE.cs) .no,.int .i64 y.hands,.sl (y.chairs.map EncE.cs) .no,.sl (y.order.map EncE.cs) .no,.sl (y.hires.map EncE.cs) .no,.vec v st 0 ts.length 2])
  (hvv:zaa mem v = .vec (ts.map EncE.cs ++ zs) 2 st) (hm:∀ o ∈ mem,zb6 mem.length o) :
  zeK Tryz.prog 104 [.ptr a 0] mem
   (fun r m => r = .arr mem.length 0 ts.length 1 ∧ m = mem ++ .cells ((List.range ts.length).map fun i => .mp (mem.length + 1 + i)) :: List.replicate ts.length (.map [] [])):=by
 have hal:=zbf ha (by simp)
 have hvl:=zbf hvv (by simp)
 obtain ⟨n0,hn0⟩:∃ n0,mem.length = n0:=⟨_,rfl⟩
 rw [hn0] at hm
 have g0:∀ r,zaa (mem ++ r) n0 = zaa r 0:=fun r => by rw [← hn0]; exact zaK _ _ 0
 have s0:∀ r o,(mem ++ r).set n0 o = mem ++ r.set 0 o:=fun r o => by rw [← hn0]; exact zbN _ _ 0 _
 rw [hn0]
 refine zbU (Φ:=P131) Tryz.func104 rfl (by rfl) (by rw [Tryz.ntmps104]; simp) zaB zik ?_
 rw [Tryz.ntmps104]
 simp only [Tryz.f104,zai,zam]
 refine zkI fun Q0 hQ0 => ?_
 simp (maxSteps:=4000000) only [go_sem,zae,zac,zad,zan,zaq,czb,cza,↓reduceIte,zab,zay,onz,ha,hn0,g0,s0]
 all_goals (repeat' first | (with_reducible first | rfl | apply And.intro | assumption) | ((with_reducible show zaj _ _ = true); rfl)) <;> try first | omega | (simp only [InR]; omega)
 have hrep:zb9 [AV.undef] ts.length = zkZ n0 ts.length 0:=by rw [mpsC_0]; exact zd8 _ _
 rw [hrep]
 have hN:∀ C i,(mem ++ C :: List.replicate i (AObj.map [] [])).length = n0 + 1 + i:=fun C i => by simp [hn0]; omega
 have hok:∀ i,i ≤ ts.length → ∀ o ∈ mem ++ .cells (zkZ n0 ts.length i) :: List.replicate i (AObj.map [] []),zb6 (n0 + 1 + i) o:=fun i hi o ho => by
  rcases czv.1 ho with q | q
  ·exact zc9 (by omega) o (hm o q)
  ·rcases czn.1 q with q | q
   ·subst q; exact zrC (by omega)
   ·rw [(czL.1 q).2]; intro c hc; cases hc
 refine zbG (ts.length) [] [2,3,12] (fun i => [(13,.int .i64 i)]) (fun i _ => mem ++ .cells (zkZ n0 ts.length i) :: List.replicate i (AObj.map [] [])) (fun _ => True) ?_ ?_ ?_ ?_
 ·trivial
 ·refine ⟨rfl,rfl,rfl,?_,za0 _,?_,zby ?_,trivial⟩
  ·show n0 ≤ (mem ++ _ :: List.replicate 0 _).length
   rw [hN]; omega
  ·show zaN _ (mem ++ _ :: List.replicate 0 _).length _
   rw [hN]
   simp [AV.bare,zal,zaN,zaR,zak,zar,zaf,tokz1,lk,zaa,za3]
   try omega
  ·have:=hok 0 (Nat.zero_le _)
   rw [← hN (.cells (zkZ n0 ts.length 0)) 0] at this
   exact this
 ·intro i hi _
  have hi':=czH.2 hi
  have hml:=mpsC_len (n0:=n0) (Nat.le_of_lt hi)
  have hsu:=mpsC_succ (n0:=n0) hi
  refine zkI fun Q2 hQ2 => ?_
  simp (maxSteps:=4000000) only [go_sem,zae,zac,zad,zan,zaq,czb,cza,↓reduceIte,zab,zay,onz,g0,s0,hN,hi',hml,hsu,czd,czs,List.set_cons_zero]
  all_goals (repeat' first | (with_reducible first | rfl | apply And.intro | assumption) | ((with_reducible show zaj _ _ = true); rfl)) <;> try first | omega | (simp only [InR]; omega)
  rw [hQ2]; clear hQ2 Q2
  rw [← List.replicate_succ']
  refine nxt hi trivial ⟨rfl,rfl,rfl,?_,za0 _,?_,zby ?_,trivial⟩
  ·show n0 ≤ (mem ++ _ :: List.replicate (i + 1) _).length
   rw [hN]; omega
  ·show zaN _ (mem ++ _ :: List.replicate (i + 1) _).length _
   rw [hN]
   simp [AV.bare,zal,zaN,zaR,zak,zar,zaf,tokz1,lk,zaa,za3]
   try omega
  ·have:=hok (i + 1) hi
   rw [← hN (.cells (zkZ n0 ts.length (i + 1))) (i + 1)] at this
   exact this
 ·intro _
  simp (maxSteps:=4000000) only [go_sem,zae,zac,zad,zan,zaq,czb,cza,↓reduceIte,zab,zay,onz,hQ0]
  refine ⟨n0 + 1 + ts.length,by omega,by rw [hN]; omega,?_,?_,?_⟩
  ·rw [cze (by rw [hN]; omega),mpsC_n]
  ·simp only [bel]; omega
  ·rw [cze (by rw [hN]; omega)]
   exact hok _ (czf _)
end
structure Tri8 (α β γ:Type) where
 a:α
 b:β
 c:γ
instance {α β γ:Type} [Enc α] [Enc β] [Enc γ]:Enc (Tri8 α β γ) where
 enc p:=.tup [Enc.enc p.a,Enc.enc p.b,Enc.enc p.c]
 dec
  | .tup [a,b,c] => match (Enc.dec a:Option α),(Enc.dec b:Option β),(Enc.dec c:Option γ) with
   | some a,some b,some c => some ⟨a,b,c⟩
   | _,_,_ => none
  | _ => none
 law v x h:=by
  split at h
  ·split at h
   ·rename_i h1 h2 h3
    cases h
    rw [Enc.law _ _ h1,Enc.law _ _ h2,Enc.law _ _ h3]
   ·cases h
  ·cases h
 dep:=max (Enc.dep α) (max (Enc.dep β) (Enc.dep γ)) + 1
 ok x:=by
  simp only [zbr,czn,czk,or_false,forall_eq_or_imp,forall_eq]
  exact ⟨zft _ _ _ (Enc.ok x.a) (by omega),zft _ _ _ (Enc.ok x.b) (by omega),zft _ _ _ (Enc.ok x.c) (by omega)⟩
theorem zaH {α β γ:Type} [Enc α] [Enc β] [Enc γ] (p:Tri8 α β γ):Enc.enc p = .tup [Enc.enc p.a,Enc.enc p.b,Enc.enc p.c]:=rfl
theorem kn8_fresh (y:Yd) (ts:List Sea) {A:List AObj} {n0:Nat} (hl:A.length = n0) (hA:∀ o ∈ A,zb6 n0 o) :
  Kn8 y ts (n0 + 1) (A ++ .cells ((List.range ts.length).map fun i => .mp (n0 + 1 + i)) :: List.replicate ts.length (.map [] [])) (A ++ .cells ((List.range ts.length).map fun i => .mp (n0 + 1 + i)) :: List.replicate ts.length (.map [] [])):=by
 rw [← mpsC_n]
 have hN:(A ++ AObj.cells (zkZ n0 ts.length ts.length) :: List.replicate ts.length (AObj.map [] [])).length = n0 + 1 + ts.length:=by simp [hl]; omega
 refine ⟨rfl,fun _ _ => rfl,fun i hi => ⟨[],[],zm5 _ _,?_⟩,?_⟩
 ·rw [← hl,Nat.add_assoc,zaK]
  simp [zaa,List.getD,Nat.add_comm 1 i,hi]
 ·rw [hN]
  intro o ho
  rcases czv.1 ho with q | q
  ·exact zc9 (by omega) o (hA o q)
  ·rcases czn.1 q with q | q
   ·subst q; exact zrC (by omega)
   ·rw [(czL.1 q).2]; intro c hc; cases hc
theorem ziY (K:List Sea) (n k s:Nat):zb6 k (.vec (K.map EncE.cs ++ List.replicate n zoV) 2 s):=fun e he c hc => by
 rcases czv.1 he with h | h
 ·obtain ⟨x,_,rfl⟩:=czx.1 h
  exact zcR _ _ _ (EncE.ok x c hc) (by rw [zfA]; omega)
 ·rw [(czL.1 h).2] at hc
  simp only [zoV,czn,czk,or_false] at hc
  rcases hc with rfl | rfl <;> simp [bel]
theorem lossP_lt (y:Yd) (ts:List Sea) (o:List Int):∀ i,0 < i → (zc0 y ts o i).2 < i
 | 0,h => by omega
 | i + 1,_ => by
  have:=zi7 y ts o i
  unfold zc0
  split
  ·dsimp only; omega
  ·omega
theorem kept_hrs {y:Yd} (hv:VY y):∀ s ∈ zee y,s.hs.length = hrs y:=fun s hs => by
 rw [zpS hv] at hs
 obtain ⟨p,hp,rfl⟩:=czx.1 hs
 exact work_hrs hv hp
def zfb (y:Yd) (o:List Int):Tri8 Int (List Int) Int :=
 if zgN y (za8 y.chairs.length o) = 0 then ⟨(zc0 y (wkY y).ts o (wkY y).ts.length).1,(at_ (wkY y).ts (zc0 y (wkY y).ts o (wkY y).ts.length).2.toNat).hs,0⟩ else ⟨0,[],zgN y (za8 y.chairs.length o)⟩
theorem zuO (y:Yd) (o:List Int) (h:(y.t.heights.length ≤ 4096 ∧ y.order.length ≤ 4096) ∧ o.length ≤ 4096):zaP Tryz.prog 38 [Enc.enc y,Enc.enc o] (· = Enc.enc (zfb y o)):=by
 obtain ⟨h12,h3⟩:=h
 unfold zfb
 have ha:(FnFine.lost y o).ask = za8 y.chairs.length o:=rfl
 obtain ⟨A,hA⟩:∃ A,za8 y.chairs.length o = A:=⟨_,rfl⟩
 simp only [zaH,ydC]
 simp only [zcf]
 refine cpz zik Tryz.func38 zaB ?_
 rw [Tryz.ntmps38]
 simp only [Tryz.f38,zai,zam]
 refine zkI fun Q0 hQ0 => ?_
 refine zaC fun Q1 h1 => ?_
 simp (maxSteps:=4000000) only [go_sem,zae,zac,zad,zan,zaq,zaa,czb,cza,↓reduceIte,zaQ,zau,zav,zat,zaw,zao,zap,zaH,zab,onz]
 all_goals (repeat' first | (with_reducible first | rfl | apply And.intro | assumption) | ((with_reducible show zaj _ _ = true); rfl)) <;> try first | omega | (simp only [InR]; omega)
 rw [h1]; clear h1 Q1; simp only [zaW,zaA]
 refine zaC fun Q1 h1 => ?_
 simp (maxSteps:=4000000) only [go_sem,zae,zac,zad,zan,zaq,zaa,czb,cza,↓reduceIte,zaQ,zau,zav,zat,zaw,zao,zap,zaH,zab,onz]
 refine ⟨_,askedl y o h12 rfl rfl h3 (zcY ⟨zcc y _,by simp [AV.bare,zal,zaN,zaR,zak,zar,zaf,tokz1,lk,zaa,za3],trivial⟩),?_⟩
 rintro r m hR _
 rw [ha,hA] at hR
 rw [hA] at hQ0
 unfold zlp at hR
 rw [zkd] at hR
 by_cases e:zgN y A = 0
 ·rw [if_pos e] at hR hQ0
  obtain ⟨rfl,rfl⟩:=hR
  obtain ⟨hv,ht,htr,_,hk⟩:=zjb e
  have hk2:=zrh hv
  have hp:=zoZ hv htr
  have hts:(wkY y).ts = zee y:=hk.symm
  rw [hts] at hQ0 hp
  obtain ⟨K,hK⟩:∃ K,zee y = K:=⟨_,rfl⟩
  have hW:wkY y = ⟨y,K⟩:=by rw [← hK,hk]; rfl
  rw [hW] at hk2
  unfold zhY yC
  rw [hK] at hQ0 hp ⊢
  simp (maxSteps:=4000000) only [go_sem,zae,zac,zad,zan,zaq,zaa,czb,cza,↓reduceIte,zaQ,zau,zav,zat,zaw,zao,zap,zaH,zab,onz]
  rw [h1]; clear h1 Q1
  simp only [zaW,zaA]
  have hvb:=ziY K ((zba y).length - K.length) 7 (zba y).length
  generalize hr:List.replicate ((zba y).length - K.length) zoV = RR at hvb ⊢
  generalize hs:(zba y).length = S at hvb ⊢
  iterate 2 (
   refine zaC fun Q1 h1 => ?_
   simp (maxSteps:=4000000) only [go_sem,zae,zac,zad,zan,zaq,zaa,czb,cza,↓reduceIte,zaQ,zau,zav,zat,zaw,zao,zap,zaH,zab,onz,decide_true,decide_false]
   all_goals (repeat' first | (with_reducible first | rfl | apply And.intro | assumption) | ((with_reducible show zaj _ _ = true); rfl)) <;> try first | omega | (simp only [InR]; omega)
   rw [h1]; clear h1 Q1; simp only [zaW,zaA])
  refine zaC fun Q1 h1 => ?_
  simp (maxSteps:=4000000) only [go_sem,zae,zac,zad,zan,zaq,zaa,czb,cza,↓reduceIte,zaQ,zau,zav,zat,zaw,zao,zap,zaH,zab,onz,decide_true,decide_false]
  obtain ⟨A0,hA0⟩:∃ A0:List AObj,[yC y,.cells [.sl (o.map EncE.cs) .no],yC y,yC y,
    .cells [.int .i64 y.t.last,.sl (y.t.heights.map EncE.cs) .no,.int .i64 y.t.step,.sl (y.t.levels.map EncE.cs) .no,.sl (y.t.marks.map EncE.cs) .no,.int .i64 y.hands,.sl (y.chairs.map EncE.cs) .no,.sl (y.order.map EncE.cs) .no,.sl (y.hires.map EncE.cs) .no,.vec 6 S 0 K.length 2],
    .cells [.ptr 4 0],.vec (K.map EncE.cs ++ RR) 2 S] = A0:=⟨_,rfl⟩
  have hA4:=congrArg (fun m => zaa m 4) hA0.symm
  simp only [mA4] at hA4
  have hA6:=congrArg (fun m => zaa m 6) hA0.symm
  simp only [mA6] at hA6
  have hA1:=congrArg (fun m => zaa m 1) hA0.symm
  simp only [mA1] at hA1
  have hAl:A0.length = 7:=by rw [← hA0]; rfl
  have hAok:∀ o ∈ A0,zb6 7 o:=by
   rw [← hA0]
   exact zcY ⟨zcc y _,by simp [AV.bare,zal,zaN,zaR,zak,zar,zaf,tokz1,lk,zaa,za3],zcc y _,zcc y _,by simp [AV.bare,zal,zaN,zaR,zak,zar,zaf,tokz1,lk,zaa,za3,-List.map_map],by simp [AV.bare,zal,zaN,zaR,zak,zar,zaf,tokz1,lk,zaa,za3],hvb,trivial⟩
  have hf:=zk6 (mem:=A0) y K S RR hk2.l1 hA4 hA6 (by rw [hAl]; exact hAok)
  rw [hAl] at hf
  unfold yC at hA0
  rw [hA0]
  refine ⟨by rfl,[0,1],by rfl,_,hf,?_⟩
  rintro r m ⟨rfl,rfl⟩ _
  have gA1:=fun r => (zaT (m:=A0) (r:=r) (k:=1) (by omega)).trans hA1
  have gA4:=fun r => (zaT (m:=A0) (r:=r) (k:=4) (by omega)).trans hA4
  have gA6:=fun r => (zaT (m:=A0) (r:=r) (k:=6) (by omega)).trans hA6
  have gA7:∀ r,zaa (A0 ++ r) 7 = zaa r 0:=fun r => by rw [← hAl]; exact zaK _ _ 0
  have hkn:=kn8_fresh y K hAl hAok
  obtain ⟨A1,hA1'⟩:∃ A1,A0 ++ .cells ((List.range K.length).map fun i => .mp (7 + 1 + i)) :: List.replicate K.length (.map [] []) = A1:=⟨_,rfl⟩
  have hL1:=gA7 (.cells ((List.range K.length).map fun i => .mp (7 + 1 + i)) :: List.replicate K.length (.map [] []))
  rw [hA1'] at hL1
  have hB1:=gA1 (.cells ((List.range K.length).map fun i => .mp (7 + 1 + i)) :: List.replicate K.length (.map [] []))
  rw [hA1'] at hB1
  have hB4:=gA4 (.cells ((List.range K.length).map fun i => .mp (7 + 1 + i)) :: List.replicate K.length (.map [] []))
  rw [hA1'] at hB4
  have hB6:=gA6 (.cells ((List.range K.length).map fun i => .mp (7 + 1 + i)) :: List.replicate K.length (.map [] []))
  rw [hA1'] at hB6
  simp only [mA0] at hL1
  rw [hA1'] at hkn ⊢
  have hlc:=znd (mem:=A1) y K S RR o hk2 h3 hB4 hB6 hL1 hkn
  simp (maxSteps:=4000000) only [go_sem,zae,zac,zad,zan,zaq,czb,cza,↓reduceIte,zaQ,zau,zav,zat,zaw,zao,zap,zaH,zab,onz,zuF,hB1,hB4,hB6,hL1,decide_true,decide_false]
  refine ⟨?_,?_⟩
  ·(repeat' apply And.intro) <;> first | trivial | (intro d hd; cases hd; rfl)
  refine ⟨[],by rfl,_,zbE hlc,?_⟩
  rintro r m ⟨r0,rfl,⟨rfl,hk3⟩,hlen⟩ _
  have hC4:=hkn.keep hk3 hB4
  have hC6:=hkn.keepV hk3 hB6
  simp (maxSteps:=4000000) only [go_sem,zae,zac,zad,zan,zaq,czb,cza,↓reduceIte,zaQ,zau,zav,zat,zaw,zao,zap,zaH,zab,onz,zuF,decide_true,decide_false]
  rw [h1]; clear h1 Q1
  simp only [zaW,zaA]
  have hlt:=lossP_lt y K o K.length hp
  have hbd:=zi7 y K o K.length
  obtain ⟨wi,hwi⟩:=czu hbd.2.2.1
  have hwl:wi < K.length:=by omega
  have hwl':=czH.2 hwl
  have hgd:(K.map EncE.cs ++ RR).getD wi [] = EncE.cs (at_ K wi):=by
   have:=zax (f:=EncE.cs) hwl
   rw [← this]
   simp [List.getD,czi,hwl]
  have hhl:(at_ K wi).hs.length ≤ 4096:=by
   have:=kept_hrs hv (at_ K wi) (by rw [hK]; exact zbv hwl)
   have:=hv.hrs
   omega
  rw [hwi] at hQ0 ⊢
  obtain ⟨lm,hlm⟩:∃ lm,(zc0 y K o K.length).1 = lm:=⟨_,rfl⟩
  rw [hlm] at hQ0 ⊢
  simp only [czF] at hQ0
  simp (maxSteps:=4000000) only [go_sem,zae,zac,zad,zan,zaq,czb,cza,↓reduceIte,zaQ,zau,zav,zat,zaw,zao,zap,zaH,zab,onz,hC4,hC6,hgd,hwl',hQ0]
  all_goals exact auz
 ·rw [if_neg e] at hR hQ0
  obtain ⟨rfl,rfl⟩:=hR
  simp (maxSteps:=4000000) only [go_sem,zae,zac,zad,zan,zaq,zaa,czb,cza,↓reduceIte,zaQ,zau,zav,zat,zaw,zao,zap,zaH,zab,onz]
  rw [h1]; clear h1 Q1
  simp only [zaW,zaA]
  simp (maxSteps:=4000000) only [go_sem,zae,zac,zad,zan,zaq,zaa,czb,cza,↓reduceIte,zaQ,zau,zav,zat,zaw,zao,zap,zaH,zab,onz,e,hQ0,decide_true,decide_false]
  all_goals exact auz
def P132 (g:FuncId):=(zas 38 (zbF (fun (y:Yd) (o:List Int) => (y.t.heights.length ≤ 4096 ∧ y.order.length ≤ 4096) ∧ o.length ≤ 4096) zfb) (P131):zaJ) g
theorem zqZ:zaz Tryz.prog P132:=zah (zaM zuO) (zik)
theorem zoq (d:Option Nat):zaF P132 d = none:=(zag (by decide) d).trans (zor d)
attribute [go_sem] P132 zoq
def zdW (y:Yd) (o:List Int) (n:Int):Bool:=decide ((zfb y o).c = 0) && decide ((zfb y o).a ≤ n)
theorem ziU (y:Yd) (o:List Int) (n:Int) (h:(y.t.heights.length ≤ 4096 ∧ y.order.length ≤ 4096) ∧ o.length ≤ 4096):zaP Tryz.prog 39 [Enc.enc y,Enc.enc o,Enc.enc n] (· = Enc.enc (zdW y o n)):=by
 unfold zdW
 obtain ⟨h1,h2⟩:=h
 cases c1:decide ((zfb y o).c = 0)
 ·simp only [zcf]
  refine cpz zqZ Tryz.func39 zaB ?_
  rw [Tryz.ntmps39]
  simp only [Tryz.f39,zai,zam]
  simp (maxSteps:=4000000) only [go_sem,AV.one,zae,zac,zad,zan,zaq,zaa,czb,cza,↓reduceIte,zaQ,zau,zav,zat,zaw,zao,zap,zaH,zab,onz,c1]
  all_goals exact auz
 ·simp only [zcf]
  refine cpz zqZ Tryz.func39 zaB ?_
  rw [Tryz.ntmps39]
  simp only [Tryz.f39,zai,zam]
  simp (maxSteps:=4000000) only [go_sem,AV.one,zae,zac,zad,zan,zaq,zaa,czb,cza,↓reduceIte,zaQ,zau,zav,zat,zaw,zao,zap,zaH,zab,onz,c1]
  all_goals exact auz
def P133 (g:FuncId):=(zas 39 (zec (fun (y:Yd) (o:List Int) (_:Int) => (y.t.heights.length ≤ 4096 ∧ y.order.length ≤ 4096) ∧ o.length ≤ 4096) zdW) (P132):zaJ) g
theorem P133_ok:zaz Tryz.prog P133:=zah (zb8 ziU) (zqZ)
theorem zop (d:Option Nat):zaF P133 d = none:=(zag (by decide) d).trans (zoq d)
attribute [go_sem] P133 zop
end Go.Proofs
