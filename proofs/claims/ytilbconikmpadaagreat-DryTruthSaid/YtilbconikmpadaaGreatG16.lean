/- The texts H15, H16, H17, H18, H19, joined. -/
import Derived.Test.YtilbconikmpadaaGreatG15
set_option linter.all false
namespace Go.Proofs
open Go.Fs
set_option maxHeartbeats 4000000
set_option maxRecDepth 8000
def wkY (y:Yd):W8:=⟨y,(zfv y).map (zbP y.t)⟩
theorem ztw {y:Yd} (hv:VY y):zxx (wkY y):=by
 refine ⟨hv,fun s hs => ?_,?_⟩
 ·obtain ⟨p,_,rfl⟩:=czx.1 hs
  exact ys_of hv p
 ·have:=work_len hv
  unfold wkY
  rw [czz]
  omega
theorem zkr {y:Yd} (hv:VY y) (h:zaJ y ≠ []):0 < (wkY y).ts.length:=by
 unfold wkY
 rw [czz]
 exact List.length_pos_iff.2 fun q => h ((zj1 hv).1 q)
def zxw (y:Yd) (o:List Int) (c:Int):Bool:=za2 y.chairs.length o && inB c 0 ((y.chairs.length:Int) - 1)
def zhA (y:Yd) (o:List Int) (c:Int):Rg × Int:=if zfq y (zxw y o c) = 0 then (zdE .free (wkY y) o c,0) else (⟨0,0⟩,zfq y (zxw y o c))
theorem zto (y:Yd) (o:List Int) (c:Int) (h:(y.t.heights.length ≤ 4096 ∧ y.order.length ≤ 4096) ∧ o.length ≤ 4096):zaU Tryz.prog 33 [Enc.enc y,Enc.enc o,Enc.enc c] (· = Enc.enc (zhA y o c)):=by
 obtain ⟨h12,h3⟩:=h
 unfold zhA
 have ha:(FnFine.hours y o c).ask = zxw y o c:=rfl
 obtain ⟨A,hA⟩:∃ A,zxw y o c = A:=⟨_,rfl⟩
 simp only [zaa,ydC]
 simp only [zbY]
 refine cpz zth Tryz.func33 zaF ?_
 rw [Tryz.ntmps33]
 simp only [Tryz.f33,zah,zaq]
 refine zlU fun Q0 hQ0 => ?_
 refine zar fun Q1 h1 => ?_
 simp (maxSteps:=4000000) only [go_sem,zae,zac,zad,zap,zas,zab,czb,cza,↓reduceIte,zaV,zbW,zbV,zaz,zaA,zay,zaB,zav,zaw,zaa,onz]
 all_goals (repeat' first | (with_reducible first | rfl | apply And.intro | assumption) | ((with_reducible show zaf _ _ = true); rfl)) <;> try first | omega | (simp only [InR]; omega)
 rw [h1]; clear h1 Q1; simp only [zaG,zan]
 refine zar fun Q1 h1 => ?_
 simp (maxSteps:=4000000) only [go_sem,zae,zac,zad,zap,zas,zab,czb,cza,↓reduceIte,zaV,zbW,zbV,zaz,zaA,zay,zaB,zav,zaw,zaa,onz]
 refine ⟨_,askedh y o c h12 rfl rfl rfl h3 (zc6 ⟨zcf y _,by simp [AV.bare,zal,zaP,zaS,zak,zau,zag,tokz1,lk,zab,za4],by simp [AV.bare,zal,zaP,zaS,zak,zau,zag,tokz1,lk,zab,za4],by simp [AV.bare,zal,zaP,zaS,zak,zau,zag,tokz1,lk,zab,za4],trivial⟩),?_⟩
 rintro r m hR _
 rw [ha,hA] at hR
 rw [hA] at hQ0
 unfold znc at hR
 rw [zlI] at hR
 by_cases e:zfq y A = 0
 ·rw [if_pos e] at hR hQ0
  obtain ⟨rfl,rfl⟩:=hR
  obtain ⟨hv,ht,htr,_,hk⟩:=zko e
  have hk2:=ztw hv
  have hp:=zkr hv htr
  subst ht
  unfold zxw at hA
  simp only [czl] at hA
  have hc:0 ≤ c ∧ c ≤ (y.chairs.length:Int) - 1:=by simpa [inB] using hA.2
  have hdw:=zaV (wkY y)
  have hts:(wkY y).ts = zeD y:=hk.symm
  rw [hts] at hdw hp
  have hWy:(wkY y).y = y:=rfl
  rw [hWy] at hdw
  have hWc:0 ≤ c ∧ c < ((wkY y).y.chairs.length:Int):=by rw [hWy]; omega
  obtain ⟨W,hW⟩:∃ W,wkY y = W:=⟨_,rfl⟩
  obtain ⟨K,hK⟩:∃ K,zeD y = K:=⟨_,rfl⟩
  have htk:∀ r,(K.map EncE.cs ++ r).take K.length = K.map (EncE.cs (α:=Sea)):=fun r => List.take_left' (by simp)
  unfold ziX yC
  rw [hK] at hts hdw hp ⊢
  rw [hW] at hts hdw hk2 hQ0 hWc
  have hpp:0 < W.ts.length:=by rw [hts]; exact hp
  simp (maxSteps:=4000000) only [go_sem,zae,zac,zad,zap,zas,zab,czb,cza,↓reduceIte,zaV,zbW,zbV,zaz,zaA,zay,zaB,zav,zaw,zaa,onz]
  rw [h1]; clear h1 Q1
  simp only [zaG,zan]
  obtain ⟨B,hB⟩:∃ B,zdE .free W o c = B:=⟨_,rfl⟩
  simp (maxSteps:=4000000) only [go_sem,zae,zac,zad,zap,zas,zab,czb,cza,↓reduceIte,zaV,zbW,zbV,zaz,zaA,zay,zaB,zav,zaw,zaa,onz,hdw,htk,hQ0,hB,decide_true,decide_false]
  all_goals exact auz
 ·rw [if_neg e] at hR hQ0
  obtain ⟨rfl,rfl⟩:=hR
  simp (maxSteps:=4000000) only [go_sem,zae,zac,zad,zap,zas,zab,czb,cza,↓reduceIte,zaV,zbW,zbV,zaz,zaA,zay,zaB,zav,zaw,zaa,onz]
  rw [h1]; clear h1 Q1
  simp only [zaG,zan]
  simp (maxSteps:=4000000) only [go_sem,zae,zac,zad,zap,zas,zab,czb,cza,↓reduceIte,zaV,zbW,zbV,zaz,zaA,zay,zaB,zav,zaw,zaa,onz,e,hQ0,decide_true,decide_false]
def zjl (y:Yd) (o:List Int) (c k:Int):Bool:=za2 y.chairs.length o && inB c 0 ((y.chairs.length:Int) - 1) && inB k 0 y.t.last
def freeQ (r:Rg):Int:=if r.lo = 1 then 1 else if r.hi = 0 then 2 else 3
def freeR (y:Yd) (o:List Int) (c k:Int):Int × Int:=if zfq y (zjl y o c k) = 0 then (freeQ (zdE (.has k) (wkY y) o c),0) else (0,zfq y (zjl y o c k))
theorem zxo (y:Yd) (o:List Int) (c k:Int) (h:(y.t.heights.length ≤ 4096 ∧ y.order.length ≤ 4096) ∧ o.length ≤ 4096):zaU Tryz.prog 32 [Enc.enc y,Enc.enc o,Enc.enc c,Enc.enc k] (· = Enc.enc (freeR y o c k)):=by
 obtain ⟨h12,h3⟩:=h
 unfold freeR
 have ha:(FnFine.free y o c k).ask = zjl y o c k:=rfl
 obtain ⟨A,hA⟩:∃ A,zjl y o c k = A:=⟨_,rfl⟩
 simp only [zaa,ydC]
 simp only [zbY]
 refine cpz zth Tryz.func32 zaF ?_
 rw [Tryz.ntmps32]
 simp only [Tryz.f32,zah,zaq]
 refine zlU fun Q0 hQ0 => ?_
 refine zar fun Q1 h1 => ?_
 simp (maxSteps:=4000000) only [go_sem,zae,zac,zad,zap,zas,zab,czb,cza,↓reduceIte,zaV,zbW,zbV,zaz,zaA,zay,zaB,zav,zaw,zaa,onz]
 all_goals (repeat' first | (with_reducible first | rfl | apply And.intro | assumption) | ((with_reducible show zaf _ _ = true); rfl)) <;> try first | omega | (simp only [InR]; omega)
 rw [h1]; clear h1 Q1; simp only [zaG,zan]
 refine zar fun Q1 h1 => ?_
 simp (maxSteps:=4000000) only [go_sem,zae,zac,zad,zap,zas,zab,czb,cza,↓reduceIte,zaV,zbW,zbV,zaz,zaA,zay,zaB,zav,zaw,zaa,onz]
 refine ⟨_,askedf y o c k h12 rfl rfl rfl rfl h3 (zc6 ⟨zcf y _,by simp [AV.bare,zal,zaP,zaS,zak,zau,zag,tokz1,lk,zab,za4],by simp [AV.bare,zal,zaP,zaS,zak,zau,zag,tokz1,lk,zab,za4],by simp [AV.bare,zal,zaP,zaS,zak,zau,zag,tokz1,lk,zab,za4],trivial⟩),?_⟩
 rintro r m hR _
 rw [ha,hA] at hR
 rw [hA] at hQ0
 unfold znc at hR
 rw [zlI] at hR
 by_cases e:zfq y A = 0
 ·rw [if_pos e] at hR hQ0
  obtain ⟨rfl,rfl⟩:=hR
  obtain ⟨hv,ht,htr,_,hk⟩:=zko e
  have hk2:=ztw hv
  have hp:=zkr hv htr
  subst ht
  unfold zjl at hA
  simp only [czl] at hA
  have hc:0 ≤ c ∧ c ≤ (y.chairs.length:Int) - 1:=by simpa [inB] using hA.1.2
  have hdw:=zaV (wkY y)
  have hts:(wkY y).ts = zeD y:=hk.symm
  rw [hts] at hdw hp
  have hWy:(wkY y).y = y:=rfl
  rw [hWy] at hdw
  have hWc:0 ≤ c ∧ c < ((wkY y).y.chairs.length:Int):=by rw [hWy]; omega
  obtain ⟨W,hW⟩:∃ W,wkY y = W:=⟨_,rfl⟩
  obtain ⟨K,hK⟩:∃ K,zeD y = K:=⟨_,rfl⟩
  have htk:∀ r,(K.map EncE.cs ++ r).take K.length = K.map (EncE.cs (α:=Sea)):=fun r => List.take_left' (by simp)
  unfold ziX yC
  unfold freeQ at hQ0
  rw [hK] at hts hdw hp ⊢
  rw [hW] at hts hdw hk2 hQ0 hWc
  have hpp:0 < W.ts.length:=by rw [hts]; exact hp
  simp (maxSteps:=4000000) only [go_sem,zae,zac,zad,zap,zas,zab,czb,cza,↓reduceIte,zaV,zbW,zbV,zaz,zaA,zay,zaB,zav,zaw,zaa,onz]
  rw [h1]; clear h1 Q1
  simp only [zaG,zan]
  obtain ⟨B,hB⟩:∃ B,zdE (.has k) W o c = B:=⟨_,rfl⟩
  simp (maxSteps:=4000000) only [go_sem,zae,zac,zad,zap,zas,zab,czb,cza,↓reduceIte,zaV,zbW,zbV,zaz,zaA,zay,zaB,zav,zaw,zaa,onz,hdw,htk,hQ0,hB,decide_true,decide_false]
  all_goals (repeat' first | (with_reducible first | rfl | apply And.intro | assumption) | ((with_reducible show zaf _ _ = true); rfl)) <;> try first | omega | (simp only [InR]; omega)
  ·intro q; rw [if_pos (of_decide_eq_true q)]
  ·intro q
   rw [if_neg (of_decide_eq_false q)]
   exact ⟨fun r => by rw [if_pos (of_decide_eq_true r)],fun r => by rw [if_neg (of_decide_eq_false r)]⟩
 ·rw [if_neg e] at hR hQ0
  obtain ⟨rfl,rfl⟩:=hR
  simp (maxSteps:=4000000) only [go_sem,zae,zac,zad,zap,zas,zab,czb,cza,↓reduceIte,zaV,zbW,zbV,zaz,zaA,zay,zaB,zav,zaw,zaa,onz]
  rw [h1]; clear h1 Q1
  simp only [zaG,zan]
  simp (maxSteps:=4000000) only [go_sem,zae,zac,zad,zap,zas,zab,czb,cza,↓reduceIte,zaV,zbW,zbV,zaz,zaA,zay,zaB,zav,zaw,zaa,onz,e,hQ0,decide_true,decide_false]
def P131 (g:FuncId):=(zax 33 (zeB (fun (y:Yd) (o:List Int) (_:Int) => (y.t.heights.length ≤ 4096 ∧ y.order.length ≤ 4096) ∧ o.length ≤ 4096) zhA) (zax 32 (zjT (fun (y:Yd) (o:List Int) (_ _:Int) => (y.t.heights.length ≤ 4096 ∧ y.order.length ≤ 4096) ∧ o.length ≤ 4096) freeR) (P130)):zaN) g
theorem zjn:zaD Tryz.prog P131:=zaj (zcc zto) (zaj (zeJ zxo) (zth))
theorem zqt (d:Option Nat):zaK P131 d = none:=(zai (by decide) d).trans ((zai (by decide) d).trans (zqu d))
attribute [go_sem] P131 zqt
def zjW (y:Yd) (s:Sea) (c b:Int):Bool:=decide ((zfT y s ⟨c,b⟩).rot ≤ y.t.last)
structure Memo8 (y:Yd) (s:Sea) (ks:List (List Int)) (vs:List Bool):Prop where
 len:vs.length = ks.length
 ok:∀ i,i < ks.length → ∃ c b,ks.getD i [] = [c,b] ∧ vs.getD i false = zjW y s c b
theorem Memo8.two {y:Yd} {s:Sea} {ks:List (List Int)} {vs:List Bool} (h:Memo8 y s ks vs):∀ k ∈ ks,k.length = 2:=fun k hk => by
 obtain ⟨i,hi,rfl⟩:=List.mem_iff_getElem.1 hk
 obtain ⟨c,b,e,_⟩:=h.ok i hi
 have:ks.getD i [] = ks[i]:=by simp [List.getD,hi]
 rw [← this,e]; rfl
theorem zo0 (y:Yd) (s:Sea):Memo8 y s [] []:=⟨rfl,fun i hi => by simp at hi⟩
theorem zjC {ks:List (List Int)} {k:List Int} {i:Nat} (h:zad ks k = some i):i < ks.length ∧ ks.getD i [] = k:=by
 unfold zad at h
 have h1:=(List.findIdx?_eq_some_iff_getElem.1 h)
 obtain ⟨hi,h2,_⟩:=h1
 exact ⟨hi,by simpa [List.getD,hi] using h2⟩
theorem look8_ok {y:Yd} {s:Sea} {ks:List (List Int)} {vs:List Bool} (h:Memo8 y s ks vs) {c b:Int} {i:Nat} (hk:zad ks [c,b] = some i):vs.getD i false = zjW y s c b:=by
 obtain ⟨hi,h1⟩:=zjC hk
 obtain ⟨c',b',e,hv⟩:=h.ok i hi
 rw [h1] at e
 cases e
 exact hv
theorem memo8_put {y:Yd} {s:Sea} {ks:List (List Int)} {vs:List Bool} (h:Memo8 y s ks vs) {c b:Int} (hk:zad ks [c,b] = none):Memo8 y s (ks ++ [[c,b]]) (vs ++ [zjW y s c b]):=by
 refine ⟨by simp [h.len],fun i hi => ?_⟩
 simp at hi
 by_cases e:i < ks.length
 ·obtain ⟨c',b',e1,e2⟩:=h.ok i e
  refine ⟨c',b',?_,?_⟩
  ·rw [← e1]; simp [List.getD,czi e]
  ·rw [← e2]; simp [List.getD,czi (show i < vs.length by rw [h.len]; exact e)]
 ·have:i = ks.length:=by omega
  subst this
  refine ⟨c,b,by simp [List.getD],?_⟩
  rw [← h.len]; simp [List.getD]
theorem getD_vs8 (vs:List Bool) {i:Nat} (hi:i < vs.length):(vs.map AV.bool).getD i .undef = .bool (vs.getD i false):=by simp [List.getD,hi]
theorem keyOk28:ztn Tryz.prog 192 2:=zub ek_192
theorem zlC (k:Nat) (ks:List (List Int)) (vs:List Bool):zcd k (.map ks (vs.map AV.bool)) = True:=by
 simp only [zdo,eq_iff_iff,iff_true]
 intro c hc
 obtain ⟨x,_,rfl⟩:=czx.1 hc
 trivial
section
variable {mem:List AObj} {a m:Nat}
theorem zoF (y:Yd) (s:Sea) (T:AV) (hT:T.one = true) (ks:List (List Int)) (vs:List Bool) (hM:Memo8 y s ks vs) (c b:Int) (hys:YS y s) (hc:0 ≤ c ∧ c < y.chairs.length)
  (ha:zab mem a = .cells [.int .i64 y.t.last,.sl (y.t.heights.map EncE.cs) .no,.int .i64 y.t.step,.sl (y.t.levels.map EncE.cs) .no,.sl (y.t.marks.map EncE.cs) .no,.int .i64 y.hands,.sl (y.chairs.map EncE.cs) .no,.sl (y.order.map EncE.cs) .no,.sl (y.hires.map EncE.cs) .no,T]) (hmm:zab mem m = .map ks (vs.map AV.bool)) (hm:∀ o ∈ mem,zcd mem.length o) :
  zgq Tryz.prog 141 [.ptr a 0,seaC s,.mp m,.agg [.int .i64 c,.int .i64 b]] mem
   (fun r m' => r = .bool (zjW y s c b) ∧ ∃ ks' vs',Memo8 y s ks' vs' ∧ m' = mem.set m (.map ks' (vs'.map AV.bool))):=by
 have hal:=zbi ha (by simp)
 have hml:=zbi hmm (by simp)
 have g0:∀ r,zab (mem ++ r) a = .cells [.int .i64 y.t.last,.sl (y.t.heights.map EncE.cs) .no,.int .i64 y.t.step,.sl (y.t.levels.map EncE.cs) .no,.sl (y.t.marks.map EncE.cs) .no,.int .i64 y.hands,.sl (y.chairs.map EncE.cs) .no,.sl (y.order.map EncE.cs) .no,.sl (y.hires.map EncE.cs) .no,T]:=fun r => by rw [zaW hal,ha]
 have g1:∀ r,zab (mem ++ r) m = .map ks (vs.map AV.bool):=fun r => by rw [zaW hml,hmm]
 have g2:∀ r,zab (mem ++ r) mem.length = zab r 0:=fun r => zaQ _ _ 0
 have g3:∀ r k,zab (mem ++ r) (mem.length + k) = zab r k:=fun r k => zaQ _ _ k
 have s2:∀ r o,(mem ++ r).set mem.length o = mem ++ r.set 0 o:=fun r o => zb2 _ _ 0 _
 have s3:∀ r k o,(mem ++ r).set (mem.length + k) o = mem ++ r.set k o:=fun r k o => zb2 _ _ k _
 have s1:∀ r o,(mem ++ r).set m o = mem.set m o ++ r:=fun r o => List.set_append_left _ _ hml
 have hk2:=keyOk28
 have h2:=hM.two
 have hpre:=hys.pre (b:=b) hc.1 hc.2
 refine zck (Φ:=P131) Tryz.func141 rfl (by rfl) (by rw [Tryz.ntmps141]; simp) zaF zjn (by simp [AV.strip,AV.strip1,seaC,Tk.strip]) ?_
 rw [Tryz.ntmps141]
 simp only [Tryz.f141,zah,zaq,seaC]
 cases hki:zad ks [c,b] with
 | some i =>
  have hlk:=look8_ok hM hki
  have hi:=(zjC hki).1
  have hgv:=getD_vs8 vs (i:=i) (by rw [hM.len]; exact hi)
  rw [hlk] at hgv
  simp (maxSteps:=4000000) only [go_sem,zae,zac,zap,zas,czb,cza,↓reduceIte,zaa,zao,onz,czd,czc,g0,g1,g2,g3,s1,s2,s3,hki,hgv,Option.isSome_some]
  all_goals (repeat' first | (with_reducible first | rfl | apply And.intro | assumption) | ((with_reducible show zaf _ _ = true); rfl)) <;> try first | omega | (simp only [InR]; omega)
  ·rw [List.take_append_of_le_length (czf _),czm]
   exact ⟨ks,vs,hM,(znn hmm).symm⟩
  ·simp [AV.bare,zal,zaP,zaS,zak,zau,zag,tokz1,lk,zab,za4]
  ·rw [List.take_append_of_le_length (czf _),czm]
   exact hm
 | none =>
  simp (maxSteps:=4000000) only [go_sem,zae,zac,zap,zas,czb,cza,↓reduceIte,zaa,zao,onz,czd,czc,g0,g1,g2,g3,s1,s2,s3,hki,hT,Option.isSome_none]
  all_goals (repeat' first | (with_reducible first | rfl | apply And.intro | assumption) | ((with_reducible show zaf _ _ = true); rfl)) <;> try first | omega | (simp only [InR]; omega)
  ·rfl
  ·rw [List.take_left' (czt)]
   exact ⟨ks ++ [[c,b]],vs ++ [zjW y s c b],memo8_put hM hki,by rw [List.map_append]; rfl⟩
  ·simp [AV.bare,zal,zaP,zaS,zak,zau,zag,tokz1,lk,zab,za4]
  ·rw [List.take_left' (czt)]
   intro o ho
   rcases List.mem_or_eq_of_mem_set ho with q | q
   ·exact hm o q
   ·subst q
    have:=zlC mem.length (ks ++ [[c,b]]) (vs ++ [zjW y s c b])
    rw [List.map_append] at this
    exact this.mpr trivial
end
def zgo (y:Yd) (s:Sea) (o:List Int) (k:Nat):Int:=(((List.range k).filter fun c:Nat => zjW y s c (zb6 y o c)).length:Nat)
theorem zmI (y:Yd) (s:Sea) (o:List Int) (k:Nat):zgo y s o (k + 1) = if zjW y s k (zb6 y o k) = true then zgo y s o k + 1 else zgo y s o k:=by
 unfold zgo
 rw [List.range_succ,List.filter_append,czc]
 by_cases c:zjW y s k (zb6 y o k) = true <;> simp [c]
theorem ziC (y:Yd) (s:Sea) (o:List Int) (k:Nat):0 ≤ zgo y s o k ∧ zgo y s o k ≤ k:=by
 unfold zgo
 have:=List.length_filter_le (fun c:Nat => zjW y s c (zb6 y o c)) (List.range k)
 simp at this
 omega
def zcm (y:Yd) (ts:List Sea) (o:List Int):Nat → Int × Int
 | 0 => (-1,0)
 | i + 1 => if (zcm y ts o i).1 < zgo y (at_ ts i) o y.chairs.length then (zgo y (at_ ts i) o y.chairs.length,i) else zcm y ts o i
theorem ziB (y:Yd) (ts:List Sea) (o:List Int):∀ i,-1 ≤ (zcm y ts o i).1 ∧ (zcm y ts o i).1 ≤ y.chairs.length ∧ 0 ≤ (zcm y ts o i).2 ∧ (zcm y ts o i).2 ≤ i
 | 0 => by simp only [zcm]; omega
 | i + 1 => by
  have h:=ziB y ts o i
  have hb:=ziC y (at_ ts i) o y.chairs.length
  unfold zcm
  split
  ·dsimp only; omega
  ·omega
structure Kn8 (y:Yd) (ts:List Sea) (M0:Nat) (mem m:List AObj):Prop where
 len:m.length = mem.length
 same:∀ j,(j < M0 ∨ M0 + ts.length ≤ j) → zab m j = zab mem j
 maps:∀ i,i < ts.length → ∃ ks vs,Memo8 y (at_ ts i) ks vs ∧ zab m (M0 + i) = .map ks (vs.map AV.bool)
 ok:∀ o ∈ m,zcd m.length o
theorem Kn8.keep {y:Yd} {ts:List Sea} {M0:Nat} {mem m:List AObj} (h0:Kn8 y ts M0 mem mem) (h:Kn8 y ts M0 mem m) {j:Nat} {cs:List AV} (hj:zab mem j = .cells cs):zab m j = .cells cs:=by
 rw [← hj]
 refine h.same j ?_
 by_cases c:j < M0
 ·exact .inl c
 ·refine .inr (czE fun q => ?_)
  obtain ⟨ks,vs,_,e⟩:=h0.maps (j - M0) (by omega)
  rw [show M0 + (j - M0) = j by omega,hj] at e
  cases e
theorem Kn8.keepV {y:Yd} {ts:List Sea} {M0:Nat} {mem m:List AObj} (h0:Kn8 y ts M0 mem mem) (h:Kn8 y ts M0 mem m) {j:Nat} {es sz st} (hj:zab mem j = .vec es sz st):zab m j = .vec es sz st:=by
 rw [← hj]
 refine h.same j ?_
 by_cases c:j < M0
 ·exact .inl c
 ·refine .inr (czE fun q => ?_)
  obtain ⟨ks,vs,_,e⟩:=h0.maps (j - M0) (by omega)
  rw [show M0 + (j - M0) = j by omega,hj] at e
  cases e
theorem Kn8.put {y:Yd} {ts:List Sea} {M0:Nat} {mem m:List AObj} (h:Kn8 y ts M0 mem m) {i:Nat} (hi:i < ts.length) {ks:List (List Int)} {vs:List Bool} (hM:Memo8 y (at_ ts i) ks vs):Kn8 y ts M0 mem (m.set (M0 + i) (.map ks (vs.map AV.bool))):=by
 have hl:M0 + i < m.length:=by
  obtain ⟨_,_,_,e⟩:=h.maps i hi
  exact zbi e (by simp)
 refine ⟨by rw [czt,h.len],fun j hj => ?_,fun j hj => ?_,fun o ho => ?_⟩
 ·rw [zaH _ _ _ _ hl,if_neg (by omega),h.same j hj]
 ·by_cases e:j = i
  ·subst e
   exact ⟨ks,vs,hM,zeq hl _⟩
  ·obtain ⟨ks',vs',h1,h2⟩:=h.maps j hj
   exact ⟨ks',vs',h1,by rw [zaH _ _ _ _ hl,if_neg (by omega),h2]⟩
 ·rw [czt]
  rcases List.mem_or_eq_of_mem_set ho with q | q
  ·exact h.ok o q
  ·subst q; exact (zlC _ _ _).mpr trivial
section
variable {mem:List AObj} {a v L M0:Nat}
theorem zo9 (y:Yd) (ts:List Sea) (st:Nat) (zs:List (List AV)) (o:List Int) (hw:zxx ⟨y,ts⟩) (ho:o.length ≤ 4096)
  (ha:zab mem a = .cells [.int .i64 y.t.last,.sl (y.t.heights.map EncE.cs) .no,.int .i64 y.t.step,.sl (y.t.levels.map EncE.cs) .no,.sl (y.t.marks.map EncE.cs) .no,.int .i64 y.hands,.sl (y.chairs.map EncE.cs) .no,.sl (y.order.map EncE.cs) .no,.sl (y.hires.map EncE.cs) .no,.vec v st 0 ts.length 2])
  (hvv:zab mem v = .vec (ts.map EncE.cs ++ zs) 2 st) (hL:zab mem L = .cells ((List.range ts.length).map fun i => .mp (M0 + i))) (h0:Kn8 y ts M0 mem mem) :
  zgq Tryz.prog 103 [.ptr a 0,.sl (o.map EncE.cs) .no,.arr L 0 ts.length 1] mem
   (fun r m' => r = .tup [.int .i64 (zcm y ts o ts.length).1,.int .i64 (zcm y ts o ts.length).2] ∧ Kn8 y ts M0 mem m'):=by
 have hal:=zbi ha (by simp)
 have hvl:=zbi hvv (by simp)
 have hLl:=zbi hL (by simp)
 obtain ⟨hv,hys,hl4⟩:=hw
 dsimp only at hv hys hl4
 have hb1:=hv.l0
 have hb2:=hv.h0
 have hb3:=hv.h5
 have hc5:=hv.c5
 refine zck (Φ:=P131) Tryz.func103 rfl (by rfl) (by rw [Tryz.ntmps103]; simp) zaF zjn (by simp [AV.strip,AV.strip1,Tk.strip]) ?_
 rw [Tryz.ntmps103]
 simp only [Tryz.f103,zah,zaq]
 simp (maxSteps:=4000000) only [go_sem,zae,zac,zad,zap,zas,czb,cza,↓reduceIte,zaa,zao,onz,ha,hvv]
 all_goals (repeat' first | (with_reducible first | rfl | apply And.intro | assumption) | ((with_reducible show zaf _ _ = true); rfl)) <;> try first | omega | (simp only [InR]; omega)
 refine zk6 [] [0,1,2,15,16] (fun b:Nat × List AObj => [(17,.int .i64 b.1),(6,.int .i64 (zcm y ts o b.1).1),(7,.int .i64 (zcm y ts o b.1).2)]) (fun b _ => b.2) (fun b => b.1 ≤ ts.length ∧ Kn8 y ts M0 mem b.2) (fun b => ts.length - b.1) (((0,mem):Nat × List AObj)) ?_ ?_ ?_
 ·exact ⟨Nat.zero_le _,h0⟩
 ·refine ⟨rfl,rfl,rfl,czf _,za1 _,?_,zbx h0.ok,trivial⟩
  show zaP _ mem.length _
  simp [AV.bare,zal,zaP,zaS,zak,zau,zag,tokz1,lk,zab,za4,zcm,hal,hvl,hLl,-List.map_map]
 ·rintro ⟨i,m⟩ ⟨hi0,hK⟩
  simp only at hi0 hK
  have hml:=hK.len
  have hma:=h0.keep hK ha
  have hmv:=h0.keepV hK hvv
  have hmL:=h0.keep hK hL
  obtain ⟨n0,hn0⟩:∃ n0,mem.length = n0:=⟨_,rfl⟩
  rw [hn0] at hml hal hvl hLl
  have gA:∀ r,zab (m ++ r) a = _:=fun r => (zaW (by omega)).trans hma
  have gV:∀ r,zab (m ++ r) v = _:=fun r => (zaW (by omega)).trans hmv
  have gL:∀ r,zab (m ++ r) L = _:=fun r => (zaW (by omega)).trans hmL
  have g0:∀ r,zab (m ++ r) n0 = zab r 0:=fun r => by rw [← hml]; exact zaQ _ _ 0
  have s0:∀ r o,(m ++ r).set n0 o = m ++ r.set 0 o:=fun r o => by rw [← hml]; exact zb2 _ _ 0 _
  have hmok:=hK.ok
  rw [hml] at hmok
  by_cases hi:i < ts.length
  ·have hi':=czH.2 hi
   have hgd:(ts.map EncE.cs ++ zs).getD i [] = EncE.cs (at_ ts i):=by
    have:=zat (f:=EncE.cs) hi
    rw [← this]
    simp [List.getD,czi,hi]
   refine zlU fun Q0 hQ0 => ?_
   simp (maxSteps:=4000000) only [go_sem,zae,zac,zad,zap,zas,czb,cza,↓reduceIte,zaa,zao,onz,gA,gV,gL,g0,s0,hma,hmv,hmL,hml,hgd,hi',czc]
   all_goals (repeat' first | (with_reducible first | rfl | apply And.intro | assumption) | ((with_reducible show zaf _ _ = true); rfl)) <;> try first | omega | (simp only [InR]; omega)
   refine zk6 [] [0,1,2,6,7,8,9,15,16,17,19,20,21,22,23,24,25,26,27] (fun b:Nat × List AObj => [(28,.int .i64 b.1),(10,.int .i64 (zgo y (at_ ts i) o b.1))]) (fun b _ => b.2 ++ [.cells [.sl ((at_ ts i).hs.map EncE.cs) .no,.sl ((at_ ts i).rows.map EncE.cs) .no]]) (fun b => b.1 ≤ y.chairs.length ∧ Kn8 y ts M0 mem b.2) (fun b => y.chairs.length - b.1) (((0,m):Nat × List AObj)) ?_ ?_ ?_
   ·exact ⟨Nat.zero_le _,hK⟩
   ·refine ⟨rfl,rfl,rfl,?_,za1 _,?_,zbx ?_,trivial⟩
    ·show mem.length ≤ (m ++ [_]).length
     rw [czc,hml,hn0]
     omega
    ·show zaP _ (m ++ [_]).length _
     rw [czc,hml]
     simp [AV.bare,zal,zaP,zaS,zak,zau,zag,tokz1,lk,zab,za4,hal,hvl,hLl,zgo,-List.map_map]
     try omega
    ·exact zcl (m:=m) (n0:=n0) hmok (by show n0 ≤ (m ++ [_]).length; rw [czc,hml]; omega) (by simp [AV.bare,zal,zaP,zaS,zak,zau,zag,tokz1,lk,zab,za4,-List.map_map])
   ·rintro ⟨c,m1⟩ ⟨hc0,hK1⟩
    simp only at hc0 hK1
    have hml1:=hK1.len
    rw [hn0] at hml1
    have hma1:=h0.keep hK1 ha
    have hmv1:=h0.keepV hK1 hvv
    have hmL1:=h0.keep hK1 hL
    have gA1:∀ r,zab (m1 ++ r) a = _:=fun r => (zaW (by omega)).trans hma1
    have gV1:∀ r,zab (m1 ++ r) v = _:=fun r => (zaW (by omega)).trans hmv1
    have gL1:∀ r,zab (m1 ++ r) L = _:=fun r => (zaW (by omega)).trans hmL1
    have g01:∀ r,zab (m1 ++ r) n0 = zab r 0:=fun r => by rw [← hml1]; exact zaQ _ _ 0
    have hmok1:=hK1.ok
    rw [hml1] at hmok1
    by_cases hc:c < y.chairs.length
    ·have hc':=czH.2 hc
     have hci:(0:Int) ≤ c ∧ (c:Int) < y.chairs.length:=⟨by omega,hc'⟩
     obtain ⟨ks,vs,hM,hmm⟩:=hK1.maps i hi
     have hMl:=zbi hmm (by simp)
     have hkn:((List.range ts.length).map fun i => AV.mp (M0 + i)).getD i .undef = .mp (M0 + i):=by simp [List.getD,hi]
     obtain ⟨b,hb⟩:∃ b,zb6 y o c = b:=⟨_,rfl⟩
     have hrc:=zoF (mem:=m1 ++ [.cells [.sl ((at_ ts i).hs.map EncE.cs) .no,.sl ((at_ ts i).rows.map EncE.cs) .no]]) (a:=a) (m:=M0 + i) y (at_ ts i) (.vec v st 0 ts.length 2) rfl ks vs hM c b (hys _ (zbb hi)) hci (gA1 _) ((zaW hMl).trans hmm) (by
      have:(m1 ++ [AObj.cells [.sl ((at_ ts i).hs.map EncE.cs) .no,.sl ((at_ ts i).rows.map EncE.cs) .no]]).length = n0 + 1:=by simp [hml1]
      rw [this]
      exact zcl hmok1 (by omega) (by simp [AV.bare,zal,zaP,zaS,zak,zau,zag,tokz1,lk,zab,za4,-List.map_map]))
     simp (maxSteps:=4000000) only [go_sem,zae,zac,zad,zap,zas,czb,cza,↓reduceIte,zaa,zao,onz,gA1,gV1,gL1,g01,hml1,hkn,hc',hb,czc]
     all_goals (repeat' first | (with_reducible first | rfl | apply And.intro | assumption) | ((with_reducible show zaf _ _ = true); rfl)) <;> try first | omega | (simp only [InR]; omega)
     ·simpa using hi
     refine ⟨[],by rfl,_,zbK hrc,?_⟩
     rintro r mem' ⟨r0,rfl,⟨rfl,ks',vs',hM',rfl⟩,hlen⟩ _
     have hset:∀ (r:List AObj) o,(m1 ++ r).set (M0 + i) o = m1.set (M0 + i) o ++ r:=fun r o => List.set_append_left _ _ (by omega)
     have hK2:=hK1.put hi hM'
     have hsuc:=zmI y (at_ ts i) o c
     rw [hb] at hsuc
     rw [hset]
     simp (maxSteps:=4000000) only [go_sem,zae,zac,zad,zap,zas,czb,cza,↓reduceIte,zaa,zao,onz]
     all_goals (repeat' first | (with_reducible first | rfl | apply And.intro | assumption) | ((with_reducible show zaf _ _ = true); rfl)) <;> try first | omega | (simp only [InR]; omega)
     ·trivial
     ·intro q
      rw [if_pos q] at hsuc
      have hbd:=ziC y (at_ ts i) o c
      refine ⟨(by simp only [InR]; omega),(by simp only [InR]; omega),(c + 1,m1.set (M0 + i) (.map ks' (vs'.map AV.bool))),⟨by dsimp only; omega,hK2⟩,by dsimp only; omega,zbo ⟨rfl,rfl,rfl,?_,za1 _,?_,zbx ?_,trivial⟩⟩
      ·show mem.length ≤ (List.set m1 _ _ ++ [_]).length
       rw [czc,czt,hml1,hn0]
       omega
      ·show zaP _ (List.set m1 _ _ ++ [_]).length _
       rw [czc,czt,hml1]
       simp [AV.bare,zal,zaP,zaS,zak,zau,zag,tokz1,lk,zab,za4,hsuc,hal,hvl,hLl,-List.map_map]
       try omega
      ·have:=hK2.ok
       rw [czt,hml1] at this
       exact zcl this (by show n0 ≤ (List.set m1 _ _ ++ [_]).length; rw [czc,czt,hml1]; omega) (by simp [AV.bare,zal,zaP,zaS,zak,zau,zag,tokz1,lk,zab,za4,-List.map_map])
     ·intro q
      rw [if_neg (by rw [q]; simp)] at hsuc
      have hbd:=ziC y (at_ ts i) o c
      refine ⟨(by simp only [InR]; omega),(c + 1,m1.set (M0 + i) (.map ks' (vs'.map AV.bool))),⟨by dsimp only; omega,hK2⟩,by dsimp only; omega,zbo ⟨rfl,rfl,rfl,?_,za1 _,?_,zbx ?_,trivial⟩⟩
      ·show mem.length ≤ (List.set m1 _ _ ++ [_]).length
       rw [czc,czt,hml1,hn0]
       omega
      ·show zaP _ (List.set m1 _ _ ++ [_]).length _
       rw [czc,czt,hml1]
       simp [AV.bare,zal,zaP,zaS,zak,zau,zag,tokz1,lk,zab,za4,hsuc,hal,hvl,hLl,-List.map_map]
       try omega
      ·have:=hK2.ok
       rw [czt,hml1] at this
       exact zcl this (by show n0 ≤ (List.set m1 _ _ ++ [_]).length; rw [czc,czt,hml1]; omega) (by simp [AV.bare,zal,zaP,zaS,zak,zau,zag,tokz1,lk,zab,za4,-List.map_map])
    ·have hce:c = y.chairs.length:=by omega
     subst hce
     simp (maxSteps:=4000000) only [go_sem,zae,zac,zad,zap,zas,czb,cza,↓reduceIte,zaa,zao,onz,czA]
     all_goals (repeat' first | (with_reducible first | rfl | apply And.intro | assumption) | ((with_reducible show zaf _ _ = true); rfl)) <;> try first | omega | (simp only [InR]; omega)
     ·intro q
      have hlp:zcm y ts o (i + 1) = (zgo y (at_ ts i) o y.chairs.length,(i:Int)):=by rw [zcm]; exact if_pos (of_decide_eq_true q)
      refine ⟨(by simp only [InR]; omega),?_⟩
      rw [hQ0]
      simp only [zaG]
      refine ⟨(i + 1,m1),⟨by dsimp only; omega,hK1⟩,by dsimp only; omega,zbo ⟨rfl,rfl,rfl,?_,zeo _ _,?_,zbx ?_,trivial⟩⟩
      ·show mem.length ≤ m1.length
       rw [hml1,hn0]
       omega
      ·show zaP _ m1.length _
       rw [hml1]
       simp [AV.bare,zal,zaP,zaS,zak,zau,zag,tokz1,lk,zab,za4,hlp,hal,hvl,hLl,-List.map_map]
       try omega
      ·exact hK1.ok
     ·intro q
      have hlp:zcm y ts o (i + 1) = zcm y ts o i:=by rw [zcm]; exact if_neg (of_decide_eq_false q)
      refine ⟨(by simp only [InR]; omega),?_⟩
      rw [hQ0]
      simp only [zaG]
      refine ⟨(i + 1,m1),⟨by dsimp only; omega,hK1⟩,by dsimp only; omega,zbo ⟨rfl,rfl,rfl,?_,zeo _ _,?_,zbx ?_,trivial⟩⟩
      ·show mem.length ≤ m1.length
       rw [hml1,hn0]
       omega
      ·show zaP _ m1.length _
       rw [hml1]
       simp [AV.bare,zal,zaP,zaS,zak,zau,zag,tokz1,lk,zab,za4,hlp,hal,hvl,hLl,-List.map_map]
       try omega
      ·exact hK1.ok
  ·have hie:i = ts.length:=by omega
   subst hie
   simp (maxSteps:=4000000) only [go_sem,zae,zac,zad,zap,zas,czb,cza,↓reduceIte,zaa,zao,onz,czA]
   all_goals (repeat' first | (with_reducible first | rfl | apply And.intro | assumption) | ((with_reducible show zaf _ _ = true); rfl)) <;> try first | omega | (simp only [InR]; omega)
   ·rw [cze (by omega)]; exact hK
   ·simp [AV.bare,zal,zaP,zaS,zak,zau,zag,tokz1,lk,zab,za4]
   ·rw [cze (by omega),hn0]; exact hmok
end
def zmG (n0 n i:Nat):List AV:=((List.range i).map fun j => AV.mp (n0 + 1 + j)) ++ List.replicate (n - i) .undef
theorem mpsC_len {n0 n i:Nat} (h:i ≤ n):(zmG n0 n i).length = n:=by simp [zmG]; omega
theorem mpsC_0 (n0 n:Nat):zmG n0 n 0 = List.replicate n .undef:=by simp [zmG]
theorem mpsC_n (n0 n:Nat):zmG n0 n n = (List.range n).map fun j => AV.mp (n0 + 1 + j):=by simp [zmG]
theorem mpsC_succ {n0 n i:Nat} (h:i < n):(zmG n0 n i).take i ++ [AV.mp (n0 + 1 + i)] ++ (zmG n0 n i).drop (i + 1) = zmG n0 n (i + 1):=by
 have hl:((List.range i).map fun j => AV.mp (n0 + 1 + j)).length = i:=by simp
 have h1:(zmG n0 n i).take i = (List.range i).map fun j => AV.mp (n0 + 1 + j):=List.take_left' hl
 have h2:(zmG n0 n i).drop (i + 1) = List.replicate (n - (i + 1)) .undef:=by
  unfold zmG
  rw [List.drop_append,hl,List.drop_of_length_le (by omega),List.nil_append,List.drop_replicate]
  congr 1
  omega
 rw [h1,h2]
 unfold zmG
 rw [List.range_succ,List.map_append]
 simp
theorem zt0 {n0 n i k:Nat} (h:n0 + i < k):∀ c ∈ zmG n0 n i,bel k 9 c:=fun c hc => by
 rcases czv.1 hc with q | q
 ·obtain ⟨j,hj,rfl⟩:=czx.1 q
  have:=List.mem_range.1 hj
  simp only [bel]; omega
 ·rw [(czL.1 q).2]; trivial
section
variable {mem:List AObj} {a v:Nat}
theorem zmQ (y:Yd) (ts:List Sea) (st:Nat) (zs:List (List AV)) (hl:ts.length ≤ 4096)
  (ha:zab mem a = .cells [.int .i64 y.t.last,.sl (y.t.heights.map EncE.cs) .no,.int .i64 y.t.step,.sl (y.t.levels.map EncE.cs) .no,.sl (y.t.marks.map EncE.cs) .no,.int .i64 y.hands,.sl (y.chairs.map EncE.cs) .no,.sl (y.order.map EncE.cs) .no,.sl (y.hires.map EncE.cs) .no,.vec v st 0 ts.length 2])
  (hvv:zab mem v = .vec (ts.map EncE.cs ++ zs) 2 st) (hm:∀ o ∈ mem,zcd mem.length o) :
  zfs Tryz.prog 104 [.ptr a 0] mem
   (fun r m => r = .arr mem.length 0 ts.length 1 ∧ m = mem ++ .cells ((List.range ts.length).map fun i => .mp (mem.length + 1 + i)) :: List.replicate ts.length (.map [] [])):=by
 have hal:=zbi ha (by simp)
 have hvl:=zbi hvv (by simp)
 obtain ⟨n0,hn0⟩:∃ n0,mem.length = n0:=⟨_,rfl⟩
 rw [hn0] at hm
 have g0:∀ r,zab (mem ++ r) n0 = zab r 0:=fun r => by rw [← hn0]; exact zaQ _ _ 0
 have s0:∀ r o,(mem ++ r).set n0 o = mem ++ r.set 0 o:=fun r o => by rw [← hn0]; exact zb2 _ _ 0 _
 rw [hn0]
 refine zb5 (Φ:=P131) Tryz.func104 rfl (by rfl) (by rw [Tryz.ntmps104]; simp) zaF zjn ?_
 rw [Tryz.ntmps104]
 simp only [Tryz.f104,zah,zaq]
 refine zlU fun Q0 hQ0 => ?_
 simp (maxSteps:=4000000) only [go_sem,zae,zac,zad,zap,zas,czb,cza,↓reduceIte,zaa,zao,onz,ha,hn0,g0,s0]
 all_goals (repeat' first | (with_reducible first | rfl | apply And.intro | assumption) | ((with_reducible show zaf _ _ = true); rfl)) <;> try first | omega | (simp only [InR]; omega)
 have hrep:zci [AV.undef] ts.length = zmG n0 ts.length 0:=by rw [mpsC_0]; exact zet _ _
 rw [hrep]
 have hN:∀ C i,(mem ++ C :: List.replicate i (AObj.map [] [])).length = n0 + 1 + i:=fun C i => by simp [hn0]; omega
 have hok:∀ i,i ≤ ts.length → ∀ o ∈ mem ++ .cells (zmG n0 ts.length i) :: List.replicate i (AObj.map [] []),zcd (n0 + 1 + i) o:=fun i hi o ho => by
  rcases czv.1 ho with q | q
  ·exact zdi (by omega) o (hm o q)
  ·rcases czn.1 q with q | q
   ·subst q; exact zt0 (by omega)
   ·rw [(czL.1 q).2]; intro c hc; cases hc
 refine zbA (ts.length) [] [2,3,12] (fun i => [(13,.int .i64 i)]) (fun i _ => mem ++ .cells (zmG n0 ts.length i) :: List.replicate i (AObj.map [] [])) (fun _ => True) ?_ ?_ ?_ ?_
 ·trivial
 ·refine ⟨rfl,rfl,rfl,?_,za1 _,?_,zbx ?_,trivial⟩
  ·show n0 ≤ (mem ++ _ :: List.replicate 0 _).length
   rw [hN]; omega
  ·show zaP _ (mem ++ _ :: List.replicate 0 _).length _
   rw [hN]
   simp [AV.bare,zal,zaP,zaS,zak,zau,zag,tokz1,lk,zab,za4]
   try omega
  ·have:=hok 0 (Nat.zero_le _)
   rw [← hN (.cells (zmG n0 ts.length 0)) 0] at this
   exact this
 ·intro i hi _
  have hi':=czH.2 hi
  have hml:=mpsC_len (n0:=n0) (Nat.le_of_lt hi)
  have hsu:=mpsC_succ (n0:=n0) hi
  refine zlU fun Q2 hQ2 => ?_
  simp (maxSteps:=4000000) only [go_sem,zae,zac,zad,zap,zas,czb,cza,↓reduceIte,zaa,zao,onz,g0,s0,hN,hi',hml,hsu,czd,czs,List.set_cons_zero]
  all_goals (repeat' first | (with_reducible first | rfl | apply And.intro | assumption) | ((with_reducible show zaf _ _ = true); rfl)) <;> try first | omega | (simp only [InR]; omega)
  rw [hQ2]; clear hQ2 Q2
  rw [← List.replicate_succ']
  refine nxt hi trivial ⟨rfl,rfl,rfl,?_,za1 _,?_,zbx ?_,trivial⟩
  ·show n0 ≤ (mem ++ _ :: List.replicate (i + 1) _).length
   rw [hN]; omega
  ·show zaP _ (mem ++ _ :: List.replicate (i + 1) _).length _
   rw [hN]
   simp [AV.bare,zal,zaP,zaS,zak,zau,zag,tokz1,lk,zab,za4]
   try omega
  ·have:=hok (i + 1) hi
   rw [← hN (.cells (zmG n0 ts.length (i + 1))) (i + 1)] at this
   exact this
 ·intro _
  simp (maxSteps:=4000000) only [go_sem,zae,zac,zad,zap,zas,czb,cza,↓reduceIte,zaa,zao,onz,hQ0]
  refine ⟨n0 + 1 + ts.length,by omega,by rw [hN]; omega,?_,?_,?_⟩
  ·rw [cze (by rw [hN]; omega),mpsC_n]
  ·simp only [bel]; omega
  ·rw [cze (by rw [hN]; omega)]
   exact hok _ (czf _)
end
structure Tri8 (α β γ:Type) where
 a:α
 b:β
 c:γ
instance {α β γ:Type} [Enc α] [Enc β] [Enc γ]:Enc (Tri8 α β γ) where
 enc p:=.tup [Enc.enc p.a,Enc.enc p.b,Enc.enc p.c]
 dec
  | .tup [a,b,c] => match (Enc.dec a:Option α),(Enc.dec b:Option β),(Enc.dec c:Option γ) with
   | some a,some b,some c => some ⟨a,b,c⟩
   | _,_,_ => none
  | _ => none
 law v x h:=by
  split at h
  ·split at h
   ·rename_i h1 h2 h3
    cases h
    rw [Enc.law _ _ h1,Enc.law _ _ h2,Enc.law _ _ h3]
   ·cases h
  ·cases h
 dep:=max (Enc.dep α) (max (Enc.dep β) (Enc.dep γ)) + 1
 ok x:=by
  simp only [zbt,czn,czk,or_false,forall_eq_or_imp,forall_eq]
  exact ⟨zfX _ _ _ (Enc.ok x.a) (by omega),zfX _ _ _ (Enc.ok x.b) (by omega),zfX _ _ _ (Enc.ok x.c) (by omega)⟩
theorem zam {α β γ:Type} [Enc α] [Enc β] [Enc γ] (p:Tri8 α β γ):Enc.enc p = .tup [Enc.enc p.a,Enc.enc p.b,Enc.enc p.c]:=rfl
theorem kn8_fresh (y:Yd) (ts:List Sea) {A:List AObj} {n0:Nat} (hl:A.length = n0) (hA:∀ o ∈ A,zcd n0 o) :
  Kn8 y ts (n0 + 1) (A ++ .cells ((List.range ts.length).map fun i => .mp (n0 + 1 + i)) :: List.replicate ts.length (.map [] [])) (A ++ .cells ((List.range ts.length).map fun i => .mp (n0 + 1 + i)) :: List.replicate ts.length (.map [] [])):=by
 rw [← mpsC_n]
 have hN:(A ++ AObj.cells (zmG n0 ts.length ts.length) :: List.replicate ts.length (AObj.map [] [])).length = n0 + 1 + ts.length:=by simp [hl]; omega
 refine ⟨rfl,fun _ _ => rfl,fun i hi => ⟨[],[],zo0 _ _,?_⟩,?_⟩
 ·rw [← hl,Nat.add_assoc,zaQ]
  simp [zab,List.getD,Nat.add_comm 1 i,hi]
 ·rw [hN]
  intro o ho
  rcases czv.1 ho with q | q
  ·exact zdi (by omega) o (hA o q)
  ·rcases czn.1 q with q | q
   ·subst q; exact zt0 (by omega)
   ·rw [(czL.1 q).2]; intro c hc; cases hc
theorem zj5 (K:List Sea) (n k s:Nat):zcd k (.vec (K.map EncE.cs ++ List.replicate n zqZ) 2 s):=fun e he c hc => by
 rcases czv.1 he with h | h
 ·obtain ⟨x,_,rfl⟩:=czx.1 h
  exact zc1 _ _ _ (EncE.ok x c hc) (by rw [zf7]; omega)
 ·rw [(czL.1 h).2] at hc
  simp only [zqZ,czn,czk,or_false] at hc
  rcases hc with rfl | rfl <;> simp [bel]
theorem zt8 (y:Yd) (ts:List Sea) (o:List Int):∀ i,0 < i → (zcm y ts o i).2 < i
 | 0,h => by omega
 | i + 1,_ => by
  have:=ziB y ts o i
  unfold zcm
  split
  ·dsimp only; omega
  ·omega
theorem kept_hrs {y:Yd} (hv:VY y):∀ s ∈ zeD y,s.hs.length = hrs y:=fun s hs => by
 rw [zr4 hv] at hs
 obtain ⟨p,hp,rfl⟩:=czx.1 hs
 exact zh0 hv hp
def zk4 (y:Yd) (o:List Int):Tri8 Int (List Int) Int :=
 if zfq y (za2 y.chairs.length o) = 0 then ⟨(zcm y (wkY y).ts o (wkY y).ts.length).1,(at_ (wkY y).ts (zcm y (wkY y).ts o (wkY y).ts.length).2.toNat).hs,0⟩ else ⟨0,[],zfq y (za2 y.chairs.length o)⟩
theorem zxk (y:Yd) (o:List Int) (h:(y.t.heights.length ≤ 4096 ∧ y.order.length ≤ 4096) ∧ o.length ≤ 4096):zaU Tryz.prog 38 [Enc.enc y,Enc.enc o] (· = Enc.enc (zk4 y o)):=by
 obtain ⟨h12,h3⟩:=h
 unfold zk4
 have ha:(FnFine.lost y o).ask = za2 y.chairs.length o:=rfl
 obtain ⟨A,hA⟩:∃ A,za2 y.chairs.length o = A:=⟨_,rfl⟩
 simp only [zam,ydC]
 simp only [zbY]
 refine cpz zjn Tryz.func38 zaF ?_
 rw [Tryz.ntmps38]
 simp only [Tryz.f38,zah,zaq]
 refine zlU fun Q0 hQ0 => ?_
 refine zar fun Q1 h1 => ?_
 simp (maxSteps:=4000000) only [go_sem,zae,zac,zad,zap,zas,zab,czb,cza,↓reduceIte,zaV,zaz,zaA,zay,zaB,zav,zaw,zam,zaa,onz]
 all_goals (repeat' first | (with_reducible first | rfl | apply And.intro | assumption) | ((with_reducible show zaf _ _ = true); rfl)) <;> try first | omega | (simp only [InR]; omega)
 rw [h1]; clear h1 Q1; simp only [zaG,zan]
 refine zar fun Q1 h1 => ?_
 simp (maxSteps:=4000000) only [go_sem,zae,zac,zad,zap,zas,zab,czb,cza,↓reduceIte,zaV,zaz,zaA,zay,zaB,zav,zaw,zam,zaa,onz]
 refine ⟨_,askedl y o h12 rfl rfl h3 (zc6 ⟨zcf y _,by simp [AV.bare,zal,zaP,zaS,zak,zau,zag,tokz1,lk,zab,za4],trivial⟩),?_⟩
 rintro r m hR _
 rw [ha,hA] at hR
 rw [hA] at hQ0
 unfold znc at hR
 rw [zlI] at hR
 by_cases e:zfq y A = 0
 ·rw [if_pos e] at hR hQ0
  obtain ⟨rfl,rfl⟩:=hR
  obtain ⟨hv,ht,htr,_,hk⟩:=zko e
  have hk2:=ztw hv
  have hp:=zkr hv htr
  have hts:(wkY y).ts = zeD y:=hk.symm
  rw [hts] at hQ0 hp
  obtain ⟨K,hK⟩:∃ K,zeD y = K:=⟨_,rfl⟩
  have hW:wkY y = ⟨y,K⟩:=by rw [← hK,hk]; rfl
  rw [hW] at hk2
  unfold ziX yC
  rw [hK] at hQ0 hp ⊢
  simp (maxSteps:=4000000) only [go_sem,zae,zac,zad,zap,zas,zab,czb,cza,↓reduceIte,zaV,zaz,zaA,zay,zaB,zav,zaw,zam,zaa,onz]
  rw [h1]; clear h1 Q1
  simp only [zaG,zan]
  have hvb:=zj5 K ((zbd y).length - K.length) 7 (zbd y).length
  generalize hr:List.replicate ((zbd y).length - K.length) zqZ = RR at hvb ⊢
  generalize hs:(zbd y).length = S at hvb ⊢
  iterate 2 (
   refine zar fun Q1 h1 => ?_
   simp (maxSteps:=4000000) only [go_sem,zae,zac,zad,zap,zas,zab,czb,cza,↓reduceIte,zaV,zaz,zaA,zay,zaB,zav,zaw,zam,zaa,onz,decide_true,decide_false]
   all_goals (repeat' first | (with_reducible first | rfl | apply And.intro | assumption) | ((with_reducible show zaf _ _ = true); rfl)) <;> try first | omega | (simp only [InR]; omega)
   rw [h1]; clear h1 Q1; simp only [zaG,zan])
  refine zar fun Q1 h1 => ?_
  simp (maxSteps:=4000000) only [go_sem,zae,zac,zad,zap,zas,zab,czb,cza,↓reduceIte,zaV,zaz,zaA,zay,zaB,zav,zaw,zam,zaa,onz,decide_true,decide_false]
  obtain ⟨A0,hA0⟩:∃ A0:List AObj,[yC y,.cells [.sl (o.map EncE.cs) .no],yC y,yC y,
    .cells [.int .i64 y.t.last,.sl (y.t.heights.map EncE.cs) .no,.int .i64 y.t.step,.sl (y.t.levels.map EncE.cs) .no,.sl (y.t.marks.map EncE.cs) .no,.int .i64 y.hands,.sl (y.chairs.map EncE.cs) .no,.sl (y.order.map EncE.cs) .no,.sl (y.hires.map EncE.cs) .no,.vec 6 S 0 K.length 2],
    .cells [.ptr 4 0],.vec (K.map EncE.cs ++ RR) 2 S] = A0:=⟨_,rfl⟩
  have hA4:=congrArg (fun m => zab m 4) hA0.symm
  simp only [mA4] at hA4
  have hA6:=congrArg (fun m => zab m 6) hA0.symm
  simp only [mA6] at hA6
  have hA1:=congrArg (fun m => zab m 1) hA0.symm
  simp only [mA1] at hA1
  have hAl:A0.length = 7:=by rw [← hA0]; rfl
  have hAok:∀ o ∈ A0,zcd 7 o:=by
   rw [← hA0]
   exact zc6 ⟨zcf y _,by simp [AV.bare,zal,zaP,zaS,zak,zau,zag,tokz1,lk,zab,za4],zcf y _,zcf y _,by simp [AV.bare,zal,zaP,zaS,zak,zau,zag,tokz1,lk,zab,za4,-List.map_map],by simp [AV.bare,zal,zaP,zaS,zak,zau,zag,tokz1,lk,zab,za4],hvb,trivial⟩
  have hf:=zmQ (mem:=A0) y K S RR hk2.l1 hA4 hA6 (by rw [hAl]; exact hAok)
  rw [hAl] at hf
  unfold yC at hA0
  rw [hA0]
  refine ⟨by rfl,[0,1],by rfl,_,hf,?_⟩
  rintro r m ⟨rfl,rfl⟩ _
  have gA1:=fun r => (zaW (m:=A0) (r:=r) (k:=1) (by omega)).trans hA1
  have gA4:=fun r => (zaW (m:=A0) (r:=r) (k:=4) (by omega)).trans hA4
  have gA6:=fun r => (zaW (m:=A0) (r:=r) (k:=6) (by omega)).trans hA6
  have gA7:∀ r,zab (A0 ++ r) 7 = zab r 0:=fun r => by rw [← hAl]; exact zaQ _ _ 0
  have hkn:=kn8_fresh y K hAl hAok
  obtain ⟨A1,hA1'⟩:∃ A1,A0 ++ .cells ((List.range K.length).map fun i => .mp (7 + 1 + i)) :: List.replicate K.length (.map [] []) = A1:=⟨_,rfl⟩
  have hL1:=gA7 (.cells ((List.range K.length).map fun i => .mp (7 + 1 + i)) :: List.replicate K.length (.map [] []))
  rw [hA1'] at hL1
  have hB1:=gA1 (.cells ((List.range K.length).map fun i => .mp (7 + 1 + i)) :: List.replicate K.length (.map [] []))
  rw [hA1'] at hB1
  have hB4:=gA4 (.cells ((List.range K.length).map fun i => .mp (7 + 1 + i)) :: List.replicate K.length (.map [] []))
  rw [hA1'] at hB4
  have hB6:=gA6 (.cells ((List.range K.length).map fun i => .mp (7 + 1 + i)) :: List.replicate K.length (.map [] []))
  rw [hA1'] at hB6
  simp only [mA0] at hL1
  rw [hA1'] at hkn ⊢
  have hlc:=zo9 (mem:=A1) y K S RR o hk2 h3 hB4 hB6 hL1 hkn
  simp (maxSteps:=4000000) only [go_sem,zae,zac,zad,zap,zas,czb,cza,↓reduceIte,zaV,zaz,zaA,zay,zaB,zav,zaw,zam,zaa,onz,zw9,hB1,hB4,hB6,hL1,decide_true,decide_false]
  refine ⟨?_,?_⟩
  ·(repeat' apply And.intro) <;> first | trivial | (intro d hd; cases hd; rfl)
  refine ⟨[],by rfl,_,zbK hlc,?_⟩
  rintro r m ⟨r0,rfl,⟨rfl,hk3⟩,hlen⟩ _
  have hC4:=hkn.keep hk3 hB4
  have hC6:=hkn.keepV hk3 hB6
  simp (maxSteps:=4000000) only [go_sem,zae,zac,zad,zap,zas,czb,cza,↓reduceIte,zaV,zaz,zaA,zay,zaB,zav,zaw,zam,zaa,onz,zw9,decide_true,decide_false]
  rw [h1]; clear h1 Q1
  simp only [zaG,zan]
  have hlt:=zt8 y K o K.length hp
  have hbd:=ziB y K o K.length
  obtain ⟨wi,hwi⟩:=czu hbd.2.2.1
  have hwl:wi < K.length:=by omega
  have hwl':=czH.2 hwl
  have hgd:(K.map EncE.cs ++ RR).getD wi [] = EncE.cs (at_ K wi):=by
   have:=zat (f:=EncE.cs) hwl
   rw [← this]
   simp [List.getD,czi,hwl]
  have hhl:(at_ K wi).hs.length ≤ 4096:=by
   have:=kept_hrs hv (at_ K wi) (by rw [hK]; exact zbb hwl)
   have:=hv.hrs
   omega
  rw [hwi] at hQ0 ⊢
  obtain ⟨lm,hlm⟩:∃ lm,(zcm y K o K.length).1 = lm:=⟨_,rfl⟩
  rw [hlm] at hQ0 ⊢
  simp only [czF] at hQ0
  simp (maxSteps:=4000000) only [go_sem,zae,zac,zad,zap,zas,czb,cza,↓reduceIte,zaV,zaz,zaA,zay,zaB,zav,zaw,zam,zaa,onz,hC4,hC6,hgd,hwl',hQ0]
  all_goals exact auz
 ·rw [if_neg e] at hR hQ0
  obtain ⟨rfl,rfl⟩:=hR
  simp (maxSteps:=4000000) only [go_sem,zae,zac,zad,zap,zas,zab,czb,cza,↓reduceIte,zaV,zaz,zaA,zay,zaB,zav,zaw,zam,zaa,onz]
  rw [h1]; clear h1 Q1
  simp only [zaG,zan]
  simp (maxSteps:=4000000) only [go_sem,zae,zac,zad,zap,zas,zab,czb,cza,↓reduceIte,zaV,zaz,zaA,zay,zaB,zav,zaw,zam,zaa,onz,e,hQ0,decide_true,decide_false]
  all_goals exact auz
def P132 (g:FuncId):=(zax 38 (zbL (fun (y:Yd) (o:List Int) => (y.t.heights.length ≤ 4096 ∧ y.order.length ≤ 4096) ∧ o.length ≤ 4096) zk4) (P131):zaN) g
theorem ztg:zaD Tryz.prog P132:=zaj (zaR zxk) (zjn)
theorem zqs (d:Option Nat):zaK P132 d = none:=(zai (by decide) d).trans (zqt d)
attribute [go_sem] P132 zqs
def zkQ (y:Yd) (o:List Int) (n:Int):Bool:=decide ((zk4 y o).c = 0) && decide ((zk4 y o).a ≤ n)
theorem zj0 (y:Yd) (o:List Int) (n:Int) (h:(y.t.heights.length ≤ 4096 ∧ y.order.length ≤ 4096) ∧ o.length ≤ 4096):zaU Tryz.prog 39 [Enc.enc y,Enc.enc o,Enc.enc n] (· = Enc.enc (zkQ y o n)):=by
 unfold zkQ
 obtain ⟨h1,h2⟩:=h
 cases c1:decide ((zk4 y o).c = 0)
 ·simp only [zbY]
  refine cpz ztg Tryz.func39 zaF ?_
  rw [Tryz.ntmps39]
  simp only [Tryz.f39,zah,zaq]
  simp (maxSteps:=4000000) only [go_sem,AV.one,zae,zac,zad,zap,zas,zab,czb,cza,↓reduceIte,zaV,zaz,zaA,zay,zaB,zav,zaw,zam,zaa,onz,c1]
  all_goals exact auz
 ·simp only [zbY]
  refine cpz ztg Tryz.func39 zaF ?_
  rw [Tryz.ntmps39]
  simp only [Tryz.f39,zah,zaq]
  simp (maxSteps:=4000000) only [go_sem,AV.one,zae,zac,zad,zap,zas,zab,czb,cza,↓reduceIte,zaV,zaz,zaA,zay,zaB,zav,zaw,zam,zaa,onz,c1]
  all_goals exact auz
def P133 (g:FuncId):=(zax 39 (zeB (fun (y:Yd) (o:List Int) (_:Int) => (y.t.heights.length ≤ 4096 ∧ y.order.length ≤ 4096) ∧ o.length ≤ 4096) zkQ) (P132):zaN) g
theorem P133_ok:zaD Tryz.prog P133:=zaj (zcc zj0) (ztg)
theorem zqr (d:Option Nat):zaK P133 d = none:=(zai (by decide) d).trans (zqs d)
attribute [go_sem] P133 zqr
end Go.Proofs
