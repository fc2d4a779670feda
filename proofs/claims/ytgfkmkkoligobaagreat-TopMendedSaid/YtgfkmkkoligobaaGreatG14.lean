/- The texts Y18, YM7, Y19, joined. -/
import Derived.Test.YtgfkmkkoligobaaGreatG13
set_option linter.all false
namespace Go.Proofs
open Go.Fs
set_option maxHeartbeats 8000000
set_option maxRecDepth 8000
def flY (y:My):List Int:=zc2 (zd7 y.chairs)
def zom (L p:List Int):List (List Int):=(zcR (L.drop p.length)).map (p ++ ·)
def zkz (L p:List Int) (n:Nat):List (List Int):=(List.range n).flatMap fun j:Nat => if at_ L p.length = 2 ∨ at_ L p.length = (j:Int) then zom L (p ++ [(j:Int)]) else []
theorem zef (y:My):(flY y).length = 3 * y.chairs.length:=by unfold flY; rw [zjP,ze4]
theorem zol (L:List Int):zom L [] = zcR L:=by unfold zom; simp
theorem seqD_full {L p:List Int} (h:p.length = L.length):zom L p = [p]:=by
 unfold zom; rw [h,List.drop_length]; simp [zcR]
theorem ze1 (L p:List Int) (n:Nat):zkz L p (n + 1) = zkz L p n ++ (if at_ L p.length = 2 ∨ at_ L p.length = (n:Int) then zom L (p ++ [(n:Int)]) else []):=by
 simp only [zkz,List.range_succ,List.flatMap_append,List.flatMap_cons,List.flatMap_nil,List.append_nil]
theorem drop_at7 {L:List Int} {n:Nat} (h:n < L.length):L.drop n = at_ L n :: L.drop (n + 1):=by
 rw [List.drop_eq_getElem_cons h]
 simp [at_,List.getD,h]
theorem seqD_two {L p:List Int} (h:p.length < L.length):zom L p = zkz L p 2:=by
 have e:∀ j:Nat,zom L (p ++ [(j:Int)]) = ((zcR (L.drop (p.length + 1))).map (((j:Int)) :: ·)).map (p ++ ·):=fun j => by
  unfold zom
  rw [List.map_map,czc]
  show (zcR (L.drop (p.length + 1))).map _ = _
  congr 1
  funext l
  simp
 rw [ze1,ze1,e 0,e 1]
 show (zcR (L.drop p.length)).map (p ++ ·) = [] ++ _ ++ _
 rw [drop_at7 h,List.nil_append,show zcR (at_ L p.length :: L.drop (p.length + 1)) = (zhT (at_ L p.length)).flatMap fun n => (zcR (L.drop (p.length + 1))).map fun l => n :: l from rfl]
 unfold zhT
 by_cases h2:at_ L p.length = 2
 ·simp [h2]
 ·by_cases h0:at_ L p.length = 0
  ·simp [h0]
  ·by_cases h1:at_ L p.length = 1
   ·simp [h1]
   ·have h0':¬ at_ L p.length = ((0:Nat):Int):=by simpa using h0
    have h1':¬ at_ L p.length = ((1:Nat):Int):=by simpa using h1
    simp [h2,h0,h1,h0',h1']
theorem zfz:∀ {l:List Pt} {c:Nat},c < l.length → at_ (zc2 l) (3 * c) = (at_ l c).a ∧ at_ (zc2 l) (3 * c + 1) = (at_ l c).b ∧ at_ (zc2 l) (3 * c + 2) = (at_ l c).c
 | [],c,h => by simp at h
 | x :: r,0,h => ⟨rfl,rfl,rfl⟩
 | x :: r,c + 1,h => by
  have:=zfz (l:=r) (c:=c) (by simpa using h)
  rw [show 3 * (c + 1) = 3 * c + 1 + 1 + 1 by omega]
  exact this
theorem zgu:∀ (l:List Pt),zb7 3 l.length ((zc2 l).map (AV.int .i64)) = l.map EncE.cs
 | [] => rfl
 | x :: r => by
  have:=zgu r
  unfold zc2
  simp only [czb,cza,zb7]
  rw [← this]
  rfl
theorem zih {l:List Int} {k:Nat} (h:k < l.length) (v:Int):(l.set k v).take (k + 1) = l.take k ++ [v]:=by
 rw [List.take_add_one,List.take_set_of_le (czf k)]
 simp [h]
/-! The iterator. -/
def yC (y:My):List AV:=[.sl (y.chairs.map EncE.cs) .no,.int .i64 y.fit,.sl (y.claims.map EncE.cs) .no]
def zgh (y:My) (m0:Nat):AV:=.fn (.func 77) [] [.ptr (m0 + 2) 0,.ptr m0 0,.ref (yC y) 0,.ptr (m0 + 3) 0]
def zck (y:My) (m0 l:Nat) (s:List Int):List AObj:=[.cells [.yld l],.cells (s.map (AV.int .i64)),.cells [.arr (m0 + 1) 0 y.chairs.length 3],.cells [zgh y m0]]
structure zrh (Inv:List (List Int) → List AObj → Prop) (m0 l:Nat) (y:My):Prop where
 len:∀ d m,Inv d m → m.length = m0
 lt:l < m0
 ok:∀ d m,Inv d m → ∀ o ∈ m,zcK m0 o
 yield:∀ d s m,Inv d m → (∃ r,zcR (flY y) = d ++ s :: r) → s.length = 3 * y.chairs.length → zjd Tryz.prog l [.arr (m0 + 1) 0 y.chairs.length 3] (m ++ zck y m0 l s) (fun r mem' => r = .bool true ∧ ∃ m2,Inv (d ++ [s]) m2 ∧ mem' = m2 ++ zck y m0 l s)
theorem yC_bel (y:My) (k n:Nat) (h:4 ≤ n):∀ c ∈ yC y,bel k n c:=by
 intro c hc
 have:za8 2 c:=by
  have:=(Enc.ok (α:=My) y)
  simp only [zi1,za8] at this
  exact this c hc
 exact ze3 _ _ _ this (by omega)
theorem zjf {y:My} {m0 l:Nat} (hlt:l < m0) (s:List Int):∀ o ∈ zck y m0 l s,zcK (m0 + 4) o:=by
 intro o ho
 simp only [zck,czn,czk,or_false] at ho
 rcases ho with rfl | rfl | rfl | rfl
 ·simp only [zdd,czn,czk,or_false,forall_eq,znT]; omega
 ·rw [zdd,zj2]; trivial
 ·simp only [zdd,czn,czk,or_false,forall_eq,znX]; omega
 ·simp only [zdd,czn,czk,or_false,forall_eq,zgh,bel_fn,forall_eq_or_imp,znW,znV]
  exact ⟨fun c h => h.elim,by omega,by omega,yC_bel y _ _ (by omega),by omega⟩
section
variable {Inv:List (List Int) → List AObj → Prop} {m0 l:Nat} {y:My}
theorem zgi (hi:zrh Inv m0 l y) {d:List (List Int)} {m:List AObj} (hI:Inv d m) (s:List Int):∀ o ∈ m ++ zck y m0 l s,zcK (m0 + 4) o:=fun o ho => by
 rcases czv.1 ho with q | q
 ·exact zcQ (by omega) o (hi.ok d m hI o q)
 ·exact zjf hi.lt s o q
theorem ze8 (hi:zrh Inv m0 l y) {d:List (List Int)} {m:List AObj} (hI:Inv d m) (s:List Int):(m ++ zck y m0 l s).length = m0 + 4:=by
 rw [czc,hi.len d m hI]; rfl
theorem zlh (hi:zrh Inv m0 l y) (hy:MOk y):∀ (f:Nat) (p s:List Int) (d:List (List Int)) (m:List AObj),p.length + f = 3 * y.chairs.length → s.length = 3 * y.chairs.length → s.take p.length = p → Inv d m → (∃ r,zcR (flY y) = d ++ (zom (flY y) p ++ r)) →
  zet Tryz.prog 77 [.int .i64 p.length,.ptr (m0 + 2) 0,.ptr m0 0,.ref (yC y) 0,.ptr (m0 + 3) 0] (m ++ zck y m0 l s)
   (fun r mem' => ∃ s' m2,s'.length = 3 * y.chairs.length ∧ s'.take p.length = p ∧ r = .bool true ∧ Inv (d ++ zom (flY y) p) m2 ∧ mem' = m2 ++ zck y m0 l s'):=by
 have h7:=hy.len
 intro f
 induction f with
 | zero =>
  intro p s d m hf hsl hp hI hpre
  have hpl:p.length = 3 * y.chairs.length:=by omega
  have hps:p = s:=by rw [← hp,hpl,← hsl,czm]
  subst hps
  have hfull:zom (flY y) p = [p]:=seqD_full (by rw [zef]; exact hpl)
  rw [hfull] at hpre ⊢
  have hlenA:=ze8 hi hI p
  have hokA:=zgi hi hI p
  obtain ⟨r,hr⟩:=hpre
  have hY:=hi.yield d p m hI ⟨r,by rw [hr]; rfl⟩ hpl
  rw [hpl]
  obtain ⟨n,hn⟩:∃ n,y.chairs.length = n:=⟨_,rfl⟩
  rw [hn] at hY hpl h7 ⊢
  have g0:zaa (m ++ zck y m0 l p) m0 = .cells [.yld l]:=by rw [← hi.len d m hI]; exact zaE _ _ 0
  have g2:zaa (m ++ zck y m0 l p) (m0 + 2) = .cells [.arr (m0 + 1) 0 n 3]:=by rw [← hi.len d m hI,← hn]; exact zaE _ _ 2
  have hq:(((3 * n:Nat):Int)) / 3 = (n:Int):=by omega
  have hq':∃ k:Int,(((3 * n:Nat):Int)) % 3 = k:=⟨_,rfl⟩
  obtain ⟨k,hk⟩:=hq'
  have hir:0 ≤ ((3 * n:Nat):Int) ∧ ((3 * n:Nat):Int) ≤ 21:=by omega
  refine zbW (Φ:=zrc) Tryz.func77 rfl (by rfl) (by rw [Tryz.ntmps77]; simp) zaA zdI (by simp [AV.strip,AV.strip1]) ?_
  rw [Tryz.ntmps77]
  simp only [Tryz.f77,zaj,zao]
  simp (maxSteps:=4000000) only [go_sem,zae,zab,zac,zan,zaq,czb,cza,↓reduceIte,zaf,onz,g0,g2,hq,hk,hlenA]
  all_goals (repeat' first | (with_reducible first | rfl | apply And.intro | assumption) | ((with_reducible show zad _ _ = true); rfl)) <;> try first | omega | (simp only [InR]; omega)
  refine ⟨_,hY,?_⟩
  rintro r mem' ⟨rfl,m2,hI2,rfl⟩ hlen
  have hokB:=zgi hi hI2 p
  have hlenB:=ze8 hi hI2 p
  rw [cze (by omega)]
  simp (maxSteps:=4000000) only [go_sem,zae,zab,zac,zan,zaq,czb,cza,↓reduceIte,zaf,onz]
  exact ⟨⟨p,m2,by omega,by rw [← hpl,czm],hI2,rfl⟩,trivial,hokB⟩
 | succ f ih =>
  intro p s d m hf hsl hp hI hpre
  obtain ⟨c,hc⟩:∃ c,p.length / 3 = c:=⟨_,rfl⟩
  obtain ⟨k,hk⟩:∃ k,p.length % 3 = k:=⟨_,rfl⟩
  have hk3:k < 3:=by omega
  have hck:3 * c + k = p.length:=by omega
  have hcl:c < y.chairs.length:=by omega
  have hplt:p.length < (flY y).length:=by rw [zef]; omega
  have hir:0 ≤ (p.length:Int) ∧ (p.length:Int) ≤ 21:=by omega
  have hq:(p.length:Int) / 3 = (c:Int):=by omega
  have hq':(p.length:Int) % 3 = (k:Int):=by omega
  obtain ⟨x,hx⟩:∃ x,at_ (flY y) p.length = x:=⟨_,rfl⟩
  have hpt:=(hy.ch _ (zaS hcl)).2
  have hfa:=zfz (l:=zd7 y.chairs) (c:=c) (by rw [ze4]; exact hcl)
  have ham:at_ (zd7 y.chairs) c = (at_ y.chairs c).p:=by simp [zd7,at_,List.getD,hcl]
  rw [ham] at hfa
  have hgx:[AV.int .i64 (at_ y.chairs c).size,.int .i64 (at_ y.chairs c).p.a,.int .i64 (at_ y.chairs c).p.b,.int .i64 (at_ y.chairs c).p.c].getD (1 + k) .undef = .int .i64 x:=by
   rw [← hx,← hck]
   unfold flY
   rcases (show k = 0 ∨ k = 1 ∨ k = 2 by omega) with rfl | rfl | rfl
   ·rw [show 3 * c + 0 = 3 * c from rfl,hfa.1]; rfl
   ·rw [hfa.2.1]; rfl
   ·rw [hfa.2.2]; rfl
  have hx02:x = 0 ∨ x = 1 ∨ x = 2:=by
   rw [← hx,← hck]
   unfold flY
   obtain ⟨⟨p1,p2⟩,⟨p3,p4⟩,p5,p6⟩:=hpt
   rcases (show k = 0 ∨ k = 1 ∨ k = 2 by omega) with rfl | rfl | rfl
   ·rw [Nat.add_zero,hfa.1]; omega
   ·rw [hfa.2.1]; omega
   ·rw [hfa.2.2]; omega
  have hge:=zar (f:=(EncE.cs:Mc → List AV)) hcl
  rw [cs_mc] at hge
  have hseq:=seqD_two hplt
  have hlenT:=fun (d:List (List Int)) (m:List AObj) (hI:Inv d m) (s:List Int) => ze8 (s:=s) hi hI
  obtain ⟨n,hn⟩:∃ n,y.chairs.length = n:=⟨_,rfl⟩
  have hcn:¬ ((c:Int) = (n:Int)):=by omega
  have hcn':c < n:=by omega
  have hck':c * 3 + k = p.length:=by omega
  have hlenA:=ze8 hi hI s
  have g2:∀ d m s,Inv d m → zaa (m ++ zck y m0 l s) (m0 + 2) = .cells [.arr (m0 + 1) 0 n 3]:=fun d m s hI => by rw [← hi.len d m hI,← hn]; exact zaE _ _ 2
  have g2a:=g2 d m s hI
  refine zbW (Φ:=zrc) Tryz.func77 rfl (by rfl) (by rw [Tryz.ntmps77]; simp) zaA zdI (by simp [AV.strip,AV.strip1]) ?_
  rw [Tryz.ntmps77]
  simp only [Tryz.f77,zaj,zao]
  simp (maxSteps:=4000000) only [go_sem,zae,zab,zac,zan,zaq,czb,cza,↓reduceIte,zaf,onz,g2a,hq,hq',hcn,hlenA]
  all_goals (repeat' first | (with_reducible first | rfl | apply And.intro | assumption) | ((with_reducible show zad _ _ = true); rfl)) <;> try first | omega | (simp only [InR]; omega)
  refine zqn [] [0,1,3,4,6,7,8] (fun b:Nat × List Int × List AObj => [(22,.int .i64 b.1)]) (fun b _ => b.2.2 ++ zck y m0 l b.2.1) (fun b => b.1 ≤ 2 ∧ b.2.1.length = 3 * y.chairs.length ∧ b.2.1.take p.length = p ∧ Inv (d ++ zkz (flY y) p b.1) b.2.2) (fun b => 2 - b.1) ((0,s,m)) ?_ ?_ ?_
  ·exact ⟨Nat.zero_le _,hsl,hp,by simpa [zkz] using hI⟩
  ·simp only [zai,zcX]
   refine ⟨rfl,rfl,rfl,by show m0 + 4 ≤ _; rw [hlenA]; exact czf _,zbd _,?_,zb5 (by rw [hlenA]; exact zgi hi hI s),trivial⟩
   show zaF _ (m ++ zck y m0 l s).length _
   rw [hlenA]
   have hyb:=yC_bel y (m0 + 4) 8 (by omega)
   simp [AV.bare,zal,zaF,zaI,zak,zas,zai,tokz1,lk,zaa,zaZ]
   exact hyb
  ·rintro ⟨j,s',mm⟩ ⟨hj,hsl',hp',hI'⟩
   simp only at hj hsl' hp' hI'
   have hlenB:=ze8 hi hI' s'
   have g2b:=g2 _ mm s' hI'
   have hph:p.length < s'.length:=by omega
   have e1:zaa (mm ++ zck y m0 l s') (m0 + 1) = .cells (s'.map (AV.int .i64)):=by rw [← hi.len _ mm hI']; exact zaE _ _ 1
   by_cases hj2:j < 2
   ·obtain ⟨s1,hs1⟩:∃ s1,s'.set p.length (j:Int) = s1:=⟨_,rfl⟩
    have hs1l:s1.length = 3 * y.chairs.length:=by rw [← hs1,czt]; exact hsl'
    have hov:=zeJ hph (j:Int)
    rw [hs1] at hov
    have eset:(mm ++ zck y m0 l s').set (m0 + 1) (AObj.cells (s1.map (AV.int .i64))) = mm ++ zck y m0 l s1:=by
     rw [← hi.len _ mm hI',zb8]; rfl
    have e3:zaa (mm ++ zck y m0 l s1) (m0 + 3) = .cells [zgh y m0]:=by rw [← hi.len _ mm hI']; exact zaE _ _ 3
    unfold zgh at e3
    have ht1:s1.take (p.length + 1) = p ++ [(j:Int)]:=by rw [← hs1,zih hph,hp']
    have hpq:(p ++ [(j:Int)]).length = p.length + 1:=by simp
    have hts1:s1.take p.length = p:=by
     have:=congrArg (List.take p.length) ht1
     rw [List.take_take] at this
     simpa using this
    have hsn:=ze1 (flY y) p j
    rw [hx] at hsn
    have hj':(j:Int) < 2:=by omega
    by_cases hxj:x = 2 ∨ x = (j:Int)
    ·rw [if_pos hxj] at hsn
     have hpre2:∃ r,zcR (flY y) = (d ++ zkz (flY y) p j) ++ (zom (flY y) (p ++ [(j:Int)]) ++ r):=by
      obtain ⟨r,hr⟩:=hpre
      rw [hseq] at hr
      rcases (show j = 0 ∨ j = 1 by omega) with rfl | rfl
      ·rw [ze1 _ _ 1,hsn,czd,czd] at hr
       exact ⟨(if at_ (flY y) p.length = 2 ∨ at_ (flY y) p.length = ((1:Nat):Int) then zom (flY y) (p ++ [((1:Nat):Int)]) else []) ++ r,by rw [hr]; simp only [czd]⟩
      ·rw [hsn] at hr
       exact ⟨r,by rw [hr]; simp only [czd]⟩
     have ihq:=ih (p ++ [(j:Int)]) s1 (d ++ zkz (flY y) p j) mm (by rw [hpq]; omega) hs1l (by rw [hpq]; exact ht1) hI' hpre2
     rw [hpq,show ((p.length + 1:Nat):Int) = (p.length:Int) + 1 by omega] at ihq
     have hdx:(decide (x = 2) || decide (x = (j:Int))) = true:=by simpa using hxj
     simp (maxSteps:=4000000) only [go_sem,zae,zab,zac,zaq,czb,cza,↓reduceIte,zaf,onz,g2b,e1,e3,eset,hov,hj',hge,hgx,hn,hcn',hck',hdx,yC,hlenB]
     all_goals (repeat' first | (with_reducible first | rfl | apply And.intro | assumption) | ((with_reducible show zad _ _ = true); rfl)) <;> try first | omega | (simp only [InR]; omega)
     refine ⟨_,za6 ihq,?_⟩
     rintro r mem' ⟨r0,rfl,⟨s2,m2,k0,k1,rfl,k3,rfl⟩,hlen⟩ _
     have hts2:s2.take p.length = p:=by
      have:=congrArg (List.take p.length) k1
      rw [List.take_take] at this
      simpa using this
     have hlenC:=ze8 hi k3 s2
     simp (maxSteps:=4000000) only [go_sem,zae,zab,zac,zan,zaq,czb,cza,↓reduceIte,zaf,onz,hlenC]
     all_goals (repeat' first | (with_reducible first | rfl | apply And.intro | assumption) | ((with_reducible show zad _ _ = true); rfl)) <;> try first | omega | (simp only [InR]; omega)
     refine ⟨(j + 1,s2,m2),⟨by dsimp only; omega,by dsimp only; omega,hts2,by dsimp only; rw [hsn,← czd]; exact k3⟩,by dsimp only; omega,zbj ⟨rfl,rfl,rfl,by dsimp only; rw [hlenC]; exact czf _,zbd _,?_,zb5 (by dsimp only; rw [hlenC]; exact zgi hi k3 s2),trivial⟩⟩
     show zaF _ (m2 ++ zck y m0 l s2).length _
     rw [hlenC]
     simp [AV.bare,zal,zaF,zaI,zak,zas,zai,tokz1,lk,zaa,zaZ]
    ·rw [if_neg hxj,List.append_nil] at hsn
     have hdx:(decide (x = 2) || decide (x = (j:Int))) = false:=by
      rw [Bool.eq_false_iff]; intro q; exact hxj (by simpa using q)
     simp (maxSteps:=4000000) only [go_sem,zae,zab,zac,zaq,czb,cza,↓reduceIte,zaf,onz,g2b,e1,e3,eset,hov,hj',hge,hgx,hn,hcn',hck',hdx,yC,hlenB]
     all_goals (repeat' first | (with_reducible first | rfl | apply And.intro | assumption) | ((with_reducible show zad _ _ = true); rfl)) <;> try first | omega | (simp only [InR]; omega)
     refine ⟨(j + 1,s',mm),⟨by dsimp only; omega,by dsimp only; omega,hp',by dsimp only; rw [hsn]; exact hI'⟩,by dsimp only; omega,zbj ⟨rfl,rfl,rfl,by dsimp only; rw [hlenB]; exact czf _,zbd _,?_,zb5 (by dsimp only; rw [hlenB]; exact zgi hi hI' s'),trivial⟩⟩
     show zaF _ (mm ++ zck y m0 l s').length _
     rw [hlenB]
     simp [AV.bare,zal,zaF,zaI,zak,zas,zai,tokz1,lk,zaa,zaZ]
   ·have hj2':j = 2:=by omega
    subst hj2'
    have hjf:¬ (((2:Nat):Int) < 2):=by omega
    rw [← hseq] at hI'
    simp (maxSteps:=4000000) only [go_sem,zae,zab,zac,zan,zaq,czb,cza,↓reduceIte,zaf,onz,hjf,hlenB]
    all_goals (repeat' first | (with_reducible first | rfl | apply And.intro | assumption) | ((with_reducible show zad _ _ = true); rfl)) <;> try first | omega | (simp only [InR]; omega)
    all_goals (try rw [cze (show (mm ++ zck y m0 l s').length ≤ m0 + 4 by omega)])
    ·exact ⟨s',mm,by omega,hp',hI',rfl⟩
    ·trivial
    ·exact zgi hi hI' s'
theorem zkE:∀ n,zbh [AV.int .i64 0,AV.int .i64 0,AV.int .i64 0] n = (List.replicate (3 * n) (0:Int)).map (AV.int .i64)
 | 0 => rfl
 | n + 1 => by
  rw [zbh,zkE n,show 3 * (n + 1) = 3 * n + 1 + 1 + 1 by omega]
  rfl
theorem zkn (hi:zrh Inv m0 l y) (hy:MOk y) {m:List AObj} (hI:Inv [] m) :
  zet Tryz.prog 76 [.yld l,.ref (yC y) 0] m (fun r mem' => Inv (zcR (flY y)) mem'):=by
 have h7:=hy.len
 obtain ⟨n,hn⟩:∃ n,y.chairs.length = n:=⟨_,rfl⟩
 have hla:=hi.len _ m hI
 have hzl:(List.replicate (3 * n) (0:Int)).length = 3 * n:=by simp
 have hc:=zlh hi hy (3 * n) [] (List.replicate (3 * n) 0) [] m (by rw [hn]; simp) (by rw [hn]; exact hzl) rfl hI ⟨[],by rw [zol]; simp⟩
 rw [zol,List.nil_append] at hc
 unfold zck zgh at hc
 have hi':=fun m2 (h2:Inv (zcR (flY y)) m2) => hi.len _ m2 h2
 rw [hn] at hc h7
 have gk:∀ r k,zaa (m ++ r) (m0 + k) = zaa r k:=fun r k => by rw [← hla]; exact zaE _ _ k
 have sk:∀ r k o,(m ++ r).set (m0 + k) o = m ++ r.set k o:=fun r k o => by rw [← hla]; exact zb8 _ _ k _
 have hrep:zbh [AV.int .i64 0,AV.int .i64 0,AV.int .i64 0] n = (List.replicate (3 * n) (0:Int)).map (AV.int .i64):=by
  exact zkE n
 refine zbW (Φ:=zrc) Tryz.func76 rfl (by rfl) (by rw [Tryz.ntmps76]; simp) zaA zdI (by simp [AV.strip,AV.strip1]) ?_
 rw [Tryz.ntmps76]
 simp only [Tryz.f76,zaj,zao,yC]
 unfold yC at hc
 iterate 4 (
  refine zaz fun Q1 h1 => ?_
  simp (maxSteps:=4000000) only [go_sem,zae,zab,zac,zan,zaq,czb,cza,↓reduceIte,zaf,onz,gk,sk,hn,hrep,hla,czd,czc]
  all_goals (repeat' first | (with_reducible first | rfl | apply And.intro | assumption) | ((with_reducible show zad _ _ = true); rfl)) <;> try first | omega | (simp only [InR]; omega)
  rw [h1]; clear h1 Q1; simp only [zaO,zav])
 simp (maxSteps:=4000000) only [go_sem,zae,zab,zac,zan,zaq,czb,cza,↓reduceIte,zaf,onz,gk,sk,hn,hrep,hla,czd,czc]
 refine ⟨_,za6 hc,?_⟩
 rintro r mem' ⟨r0,rfl,⟨s',m2,_,_,rfl,k3,rfl⟩,hlen⟩ _
 simp (maxSteps:=4000000) only [go_sem,zae,zab,zac,zan,zaq,czb,cza,↓reduceIte,zaf,onz,List.take_left' (hi' _ k3)]
 exact ⟨k3,by simp [bel],hi.ok _ m2 k3⟩
end
theorem zjv {y:My} {Inv:List (List Int) → List AObj → Prop} (tm':List (Nat × AV))
  {Q:QA} {st:St} {f:Operand} {ps:Array Tmp} {asg body:Code}
  (hy:MOk y) (hf:(evT st.tm f).un = .fn (.func 76) [] [.ref (yC y) 0]) (hav:(evT st.tm f).av)
  (htm:∀ q ∈ tm',q.2 = (lk st.tm q.1).strip)
  (hi:zrh Inv (st.mem.length + 2) (st.mem.length + 1) y) (hI:Inv [] (st.mem ++ [AObj.deferred,AObj.loop .ready none tm' st.n ps asg body]))
  (hend:∀ m,Inv (zcR (flY y)) m → endA Q st m (zaa m (st.mem.length + 1))):zhj Tryz.prog f ps asg body Q st:=by
 unfold zhj
 rw [hf]
 exact ⟨hav,tm',(fun r mem' => Inv (zcR (flY y)) mem'),htm,zkn hi hy hI,fun r mem' h hlen => hend mem' h⟩
theorem vc_range7 {P:Program} {Φ:zay} {Q:QA} {st:St} {f:Operand} {ps:Array Tmp} {asg body:Code} (ts:List TZ) (h:zhj P f ps asg body Q (tokz ts st)):vc P Φ (.rangeFunc f ps asg body) Q st:=⟨ts,h⟩
theorem zmx (y:My):zaH Tryz.prog 51 [Enc.enc y] (· = .fn (.func 76) [] [.ref (yC y) 0]):=by
 simp only [zbT]
 refine cpz zdI Tryz.func51 zaA ?_
 rw [Tryz.ntmps51]
 simp only [Tryz.f51,zaj,zao]
 simp (maxSteps:=4000000) only [go_sem,AV.one,zae,zab,zac,zan,zaq,zaa,czb,cza,↓reduceIte,zaf,onz,yC]
structure TruV where
 y:My
instance:Enc TruV where
 enc x:=.fn (.func 76) [] [.ref (yC x.y) 0]
 dec _:=none
 law v x h:=by cases h
 dep:=4
 ok x:=by
  have:=(Enc.ok (α:=My) x.y)
  simp only [zi1,za8] at this
  exact ⟨fun _ h => (by cases h),fun c hc => by
   simp only [czn,czk,or_false] at hc
   subst hc
   exact this⟩
theorem enc_truv (x:TruV):Enc.enc x = .fn (.func 76) [] [.ref (yC x.y) 0]:=rfl
def P234 (g:FuncId):=(zat 51 (zbN (fun _:My => True) (fun y => (⟨y⟩:TruV))) (zrc):zay) g
theorem zkd:zam Tryz.prog P234:=zah (zaN fun y _ => zmx y) (zdI)
theorem zlP (d:Option Nat):zaw P234 d = none:=(zag (by decide) d).trans (zlQ d)
attribute [go_sem] P234 zlP
def scK (s:Sc):List Int:=s.whole :: s.broken :: s.fits.l
theorem scK_inj {a b:Sc} (h:scK a = scK b):a = b:=by
 unfold scK at h
 obtain ⟨h1,h2⟩:=List.cons.inj h
 obtain ⟨h4,h3⟩:=List.cons.inj h2
 have h5:=Arr.ext h3
 clear h h2 h3
 cases a; cases b
 simp only at h1 h4 h5
 subst h1 h4 h5
 rfl
def zoi (y:My) (a:List Sc × List Int) (s:List Int):List Sc × List Int :=
 if (zdx y.claims (zb3 (za7 y (zbM s))) && (decide (a.1.length = 0) || !decide (scK (at_ a.1 (a.1.length - 1)) = scK (za7 y (zbM s))))) = true
 then (a.1 ++ [za7 y (zbM s)],a.2 ++ [zb3 (za7 y (zbM s))]) else a
def zf7 (y:My) (d:List (List Int)):List Sc × List Int:=d.foldl (zoi y) ([],[])
theorem zon (y:My) (d:List (List Int)) (s:List Int):zf7 y (d ++ [s]) = zoi y (zf7 y d) s:=by unfold zf7; rw [List.foldl_append]; rfl
theorem zd5 (y:My) (d:List (List Int)):(zf7 y d).1.length ≤ d.length ∧ (zf7 y d).2 = (zf7 y d).1.map zb3 ∧
  (∀ c ∈ (zf7 y d).1,∃ s ∈ d,c = za7 y (zbM s) ∧ zdx y.claims (zb3 c) = true) ∧
  ∀ s ∈ d,zdx y.claims (zb3 (za7 y (zbM s))) = true → za7 y (zbM s) ∈ (zf7 y d).1:=by
 have key:∀ r:List (List Int),(zf7 y r.reverse).1.length ≤ r.reverse.length ∧ (zf7 y r.reverse).2 = (zf7 y r.reverse).1.map zb3 ∧
  (∀ c ∈ (zf7 y r.reverse).1,∃ s ∈ r.reverse,c = za7 y (zbM s) ∧ zdx y.claims (zb3 c) = true) ∧
  ∀ s ∈ r.reverse,zdx y.claims (zb3 (za7 y (zbM s))) = true → za7 y (zbM s) ∈ (zf7 y r.reverse).1:=by
  intro r
  induction r with
  | nil => exact ⟨czf _,rfl,(fun c hc => by cases hc),(fun s hs => by cases hs)⟩
  | cons x r ih =>
   rw [List.reverse_cons,zon]
   generalize r.reverse = d at ih ⊢
   generalize zf7 y d = a at ih ⊢
   obtain ⟨i1,i2,i3,i4⟩:=ih
   unfold zoi
   split
   ·rename_i hc
    rw [czl] at hc
    refine ⟨by simp; omega,by simp [i2],fun c hcm => ?_,fun s hs ha => ?_⟩
    ·rcases czv.1 hcm with q | q
     ·obtain ⟨s,k1,k2⟩:=i3 c q
      exact ⟨s,by simp [k1],k2⟩
     ·rw [czC.1 q]
      exact ⟨x,by simp,rfl,hc.1⟩
    ·rcases czv.1 hs with q | q
     ·exact czv.2 (.inl (i4 s q ha))
     ·rw [czC.1 q]; simp
   ·rename_i hc
    refine ⟨by simp; omega,i2,fun c hcm => ?_,fun s hs ha => ?_⟩
    ·obtain ⟨s,k1,k2⟩:=i3 c hcm
     exact ⟨s,by simp [k1],k2⟩
    ·rcases czv.1 hs with q | q
     ·exact i4 s q ha
     ·have:=czC.1 q
      subst this
      rw [ha,Bool.true_and,czI,not_or] at hc
      have h1:¬ a.1.length = 0:=by simpa using hc.1
      have h2:scK (at_ a.1 (a.1.length - 1)) = scK (za7 y (zbM s)):=by simpa using hc.2
      have h3:=scK_inj h2
      rw [← h3]
      exact zaS (by omega)
 have:=key d.reverse
 rw [List.reverse_reverse] at this
 exact this
theorem cand_len (p:Int):(zhT p).length ≤ if p = 2 then 2 else 1:=by
 unfold zhT
 by_cases h:p = 2
 ·rw [if_pos h]; exact List.length_filter_le _ [0,1]
 ·rw [if_neg h]
  simp only [h,decide_false,Bool.false_or]
  by_cases h0:p = 0
  ·subst h0; decide
  ·by_cases h1:p = 1
   ·subst h1; decide
   ·simp [h0,h1]
theorem ziF:∀ l:List Int,(zcR l).length ≤ 2 ^ zkm l
 | [] => by simp [zcR,zkm]
 | p :: r => by
  have ih:=ziF r
  have hu:zkm (p :: r) = zkm r + if p = 2 then 1 else 0:=by
   unfold zkm
   rw [List.countP_cons]
   simp only [decide_eq_true_eq]
  have e:(zcR (p :: r)).length = (zhT p).length * (zcR r).length:=by
   show ((zhT p).flatMap fun n => (zcR r).map fun l => n :: l).length = _
   generalize zhT p = c
   generalize zcR r = q
   induction c with
   | nil => simp
   | cons a c ih => rw [List.flatMap_cons,czc,ih,czz,cza,Nat.add_mul,Nat.one_mul,Nat.add_comm]
  have hc:=cand_len p
  rw [e,hu]
  by_cases h:p = 2
  ·rw [if_pos h] at hc ⊢
   rw [Nat.pow_succ,Nat.mul_comm]
   exact Nat.mul_le_mul ih hc
  ·rw [if_neg h] at hc ⊢
   calc (zhT p).length * (zcR r).length ≤ 1 * 2 ^ zkm r:=Nat.mul_le_mul hc ih
    _ = 2 ^ (zkm r + 0):=by simp
theorem zg5:∀ l:List Mc,zkm (zc2 (zd7 l)) = zbY l
 | [] => rfl
 | c :: r => by
  have ih:=zg5 r
  show zkm (c.p.a :: c.p.b :: c.p.c :: zc2 (zd7 r)) = unkP c.p + zbY r
  rw [← ih]
  unfold zkm
  simp only [List.countP_cons,decide_eq_true_eq]
  unfold unkP
  omega
theorem zg9 {y:My} (h:zbY y.chairs ≤ 8):(zcR (flY y)).length ≤ 256:=by
 have:=ziF (flY y)
 rw [show zkm (flY y) = zbY y.chairs from zg5 y.chairs] at this
 exact Nat.le_trans this (zmT _ h)
def P235:zay:=zif [1000007] P234
theorem P235_app (g:FuncId) (h:¬ (g = 4000000000)):P235 g = P234 g:=by unfold P235 zif; rw [if_neg h]
theorem zn3:zam Tryz.prog P235:=zfo zkd
theorem P235_flag (d:Nat):zaw P235 (some d) = if d ∈ ([1000007]:List Nat) then some d else none:=zbK _ _ d
attribute [go_sem] P235_app P235_flag
theorem zca:zab [] = some []:=rfl
theorem zdq (s:Sc):zab (AV.int .i64 s.whole :: AV.int .i64 s.broken :: s.fits.l.map (AV.int .i64)) = some (scK s):=by
 simp only [zab,zdS,Option.map_some,scK]
theorem zfr (s:Sc):(scK s).length = 9:=by unfold scK; simp [s.fits.h]
theorem zmr {P:Program} {l:Nat} {args:List AV} {mem:List AObj} {R:AV → List AObj → Prop} (h:∀ R',R' = R → zjd P l args mem R'):zjd P l args mem R:=h _ rfl
theorem zlx {P:Program} {Φ:zay} {l k:Nat} {R:AV → List AObj → Prop} {bd:Code} {st:St} {pend:Option Code} {tm:List (Nat × AV)} {n:Nat} {ps:Array Tmp} {asg body:Code}
  (hl:zaa st.mem l = .loop .ready pend tm n ps asg body) (h:∀ LB,LB = AObj.loop .busy pend tm n ps asg body → ∀ Q0,Q0 = roundA l k R → vc P Φ bd Q0 { st with mem:=st.mem.set l LB }):zly P Φ l k R bd st:=by
 unfold zly
 rw [hl]
 exact ⟨rfl,h _ rfl _ rfl⟩
theorem zqI {l k:Nat} {R:AV → List AObj → Prop} {s':LoopState} {pend':Option Code} {r:Bool} {st:St} {LB:AObj} {pend:Option Code} {tm:List (Nat × AV)} {n:Nat} {ps:Array Tmp} {asg body:Code}
  (hl:zaa st.mem l = LB) (hLB:LB = AObj.loop .busy pend tm n ps asg body)
  (h:R (.bool r) ((st.mem.set l (AObj.loop s' pend' tm n ps asg body)).take k) ∧ ∀ o ∈ (st.mem.set l (AObj.loop s' pend' tm n ps asg body)).take k,zcK k o):endB l k R s' pend' r st:=by
 unfold endB
 rw [hl,hLB]
 exact h
theorem zhA (x0 x1 x2:AObj) (r:List AObj):zaa (x0 :: x1 :: x2 :: r) 2 = x2:=rfl
theorem zhz (x0 x1 x2 x3:AObj) (r:List AObj):zaa (x0 :: x1 :: x2 :: x3 :: r) 3 = x3:=rfl
theorem zhy (x0 x1 x2 x3 x4:AObj) (r:List AObj):zaa (x0 :: x1 :: x2 :: x3 :: x4 :: r) 4 = x4:=rfl
theorem zhx (x0 x1 x2 x3 x4 x5:AObj) (r:List AObj):zaa (x0 :: x1 :: x2 :: x3 :: x4 :: x5 :: r) 5 = x5:=rfl
theorem zhw (x0 x1 x2 x3 x4 x5 x6:AObj) (r:List AObj):zaa (x0 :: x1 :: x2 :: x3 :: x4 :: x5 :: x6 :: r) 6 = x6:=rfl
theorem zhv (x0 x1 x2 x3 x4 x5 x6 x7:AObj) (r:List AObj):zaa (x0 :: x1 :: x2 :: x3 :: x4 :: x5 :: x6 :: x7 :: r) 7 = x7:=rfl
theorem zhu (x0 x1 x2 x3 x4 x5 x6 x7 x8:AObj) (r:List AObj):zaa (x0 :: x1 :: x2 :: x3 :: x4 :: x5 :: x6 :: x7 :: x8 :: r) 8 = x8:=rfl
theorem zht (x0 x1 x2 x3 x4 x5 x6 x7 x8 x9:AObj) (r:List AObj):zaa (x0 :: x1 :: x2 :: x3 :: x4 :: x5 :: x6 :: x7 :: x8 :: x9 :: r) 9 = x9:=rfl
theorem zeO (x0 x1 x2 x3 x4 x5 x6 x7 x8 x9 x10:AObj) (r:List AObj):zaa (x0 :: x1 :: x2 :: x3 :: x4 :: x5 :: x6 :: x7 :: x8 :: x9 :: x10 :: r) 10 = x10:=rfl
theorem zeN (x0 x1 x2 x3 x4 x5 x6 x7 x8 x9 x10 x11:AObj) (r:List AObj):zaa (x0 :: x1 :: x2 :: x3 :: x4 :: x5 :: x6 :: x7 :: x8 :: x9 :: x10 :: x11 :: r) 11 = x11:=rfl
theorem zeM (x0 x1 x2 x3 x4 x5 x6 x7 x8 x9 x10 x11 x12:AObj) (r:List AObj):zaa (x0 :: x1 :: x2 :: x3 :: x4 :: x5 :: x6 :: x7 :: x8 :: x9 :: x10 :: x11 :: x12 :: r) 12 = x12:=rfl
theorem zik {y:My} (Inv:AObj → List (List Int) → List AObj → Prop) (tm':List (Nat × AV))
  {Q:QA} {st:St} {f:Operand} {ps:Array Tmp} {asg body:Code}
  (hy:MOk y) (hf:(evT st.tm f).un = .fn (.func 76) [] [.ref (yC y) 0]) (hav:(evT st.tm f).av)
  (htm:∀ q ∈ tm',q.2 = (lk st.tm q.1).strip)
  (hi:zrh (Inv (AObj.loop .ready none tm' st.n ps asg body)) (st.mem.length + 2) (st.mem.length + 1) y) (hI:Inv (AObj.loop .ready none tm' st.n ps asg body) [] (st.mem ++ [AObj.deferred,AObj.loop .ready none tm' st.n ps asg body]))
  (hend:∀ m,Inv (AObj.loop .ready none tm' st.n ps asg body) (zcR (flY y)) m → endA Q st m (zaa m (st.mem.length + 1))):zhj Tryz.prog f ps asg body Q st :=
 zjv tm' hy hf hav htm hi hI hend
section
variable {y:My} {a m n0:Nat} {M:List AObj}
theorem KnP.pushL (h:KnP y a m n0 M) {rs:List AObj} {k:Nat} (hk:n0 + rs.length = k) (ho:∀ o ∈ rs,zcK k o):KnP y a m k (M ++ rs):=by
 have hl:=h.len
 have ha:=h.al
 have hm:=h.ml
 refine ⟨by rw [czc,hl]; exact hk,by rw [zaB (by omega)]; exact h.wk,?_,fun x hx => ?_⟩
 ·obtain ⟨ks,vs,q,e⟩:=h.mp
  exact ⟨ks,vs,q,by rw [zaB (by omega)]; exact e⟩
 ·rcases czv.1 hx with q | q
  ·exact zcQ (by omega) _ (h.ok x q)
  ·exact ho x q
theorem KnP.popL (h:KnP y a m n0 M) {rs:List AObj} {M':List AObj} {k:Nat} (hk:n0 + rs.length = k) (h':KnP y a m k M') (hf:FrP m (M ++ rs) M'):∃ M2,M' = M2 ++ rs ∧ KnP y a m n0 M2 ∧ FrP m M M2:=by
 have hl:=h.len
 have hl':=h'.len
 have ha:=h.al
 have hm:=h.ml
 have e:M' = M'.take n0 ++ rs:=by
  conv => lhs; rw [← List.take_append_drop n0 M']
  congr 1
  refine List.ext_getElem (by rw [List.length_drop]; omega) fun i h1 h2 => ?_
  rw [List.getElem_drop,← zbV (by omega),hf (n0 + i) (by omega),← hl,zaE]
  exact zbV h2
 have hget:∀ l,l < n0 → zaa (M'.take n0) l = zaa M' l:=fun l hl2 => by
  conv => rhs; rw [e]
  rw [zaB (by rw [czO]; omega)]
 have htl:(M'.take n0).length = n0:=by rw [czO]; omega
 refine ⟨M'.take n0,e,⟨htl,by rw [hget a ha]; exact h'.wk,?_,fun x hx => ?_⟩,fun l hlm => ?_⟩
 ·obtain ⟨ks,vs,q,e2⟩:=h'.mp
  exact ⟨ks,vs,q,by rw [hget m hm]; exact e2⟩
 ·obtain ⟨l,hl2,rfl⟩:=List.mem_iff_getElem.1 hx
  rw [← zbV hl2]
  have hln:l < n0:=by omega
  by_cases c:l = m
  ·subst c
   obtain ⟨ks,vs,_,e2⟩:=h'.mp
   rw [hget l hln,e2]
   exact (zh3 _ _ _).mpr trivial
  ·rw [hget l hln,hf l c,zaB (by omega),zbV (by omega)]
   exact h.ok _ (List.getElem_mem _)
 ·by_cases q:l < n0
  ·rw [hget l q,hf l hlm,zaB (by omega)]
  ·unfold zaa
   simp [List.getD,czB (show (M'.take n0).length ≤ l by omega),czB (show M.length ≤ l by omega)]
theorem zg7 {y:My} (hy:MOk y) {s:List Int} (hm:s ∈ zcR (flY y)) (hl:s.length = 3 * y.chairs.length) :
  (zbM s).length = y.chairs.length ∧ TOk (zbM s) ∧ zb7 3 y.chairs.length (s.map (AV.int .i64)) = (zbM s).map EncE.cs:=by
 have hf:=zhN _ s hl
 have h1:(zbM s).length = y.chairs.length:=by
  have:=zjP (zbM s)
  rw [hf] at this; omega
 have h02:∀ p ∈ flY y,p = 0 ∨ p = 1 ∨ p = 2:=by
  intro p hp
  obtain ⟨i,hi,rfl⟩:=List.mem_iff_getElem.1 hp
  rw [zef] at hi
  have hc:i / 3 < y.chairs.length:=by omega
  have hpt:=(hy.ch _ (zaS hc)).2
  have hfa:=zfz (l:=zd7 y.chairs) (c:=i / 3) (by rw [ze4]; exact hc)
  have ham:at_ (zd7 y.chairs) (i / 3) = (at_ y.chairs (i / 3)).p:=by simp [zd7,at_,List.getD,hc]
  rw [ham] at hfa
  have e:(flY y)[i] = at_ (flY y) i:=by simp [at_,List.getD,zef,hi]
  rw [e]
  obtain ⟨⟨p1,p2⟩,⟨p3,p4⟩,p5,p6⟩:=hpt
  unfold flY
  rcases (show i = 3 * (i / 3) ∨ i = 3 * (i / 3) + 1 ∨ i = 3 * (i / 3) + 2 by omega) with q | q | q
  ·rw [q,hfa.1]; omega
  ·rw [q,hfa.2.1]; omega
  ·rw [q,hfa.2.2]; omega
 have hok:=zmK h02 hm
 refine ⟨h1,fun p hp => ?_,?_⟩
 ·obtain ⟨c,hc,rfl⟩:=List.mem_iff_getElem.1 hp
  have hfa:=zfz hc
  rw [hf] at hfa
  have e:(zbM s)[c] = at_ (zbM s) c:=by simp [at_,List.getD,hc]
  rw [e]
  rw [zef] at hok
  have k1:=(hok (3 * c) (by omega)).1
  have k2:=(hok (3 * c + 1) (by omega)).1
  have k3:=(hok (3 * c + 2) (by omega)).1
  rw [hfa.1] at k1
  rw [hfa.2.1] at k2
  rw [hfa.2.2] at k3
  exact ⟨by omega,by omega,by omega⟩
 ·have:=zgu (zbM s)
  rw [hf,h1] at this
  exact this
def zrk (a n0:Nat) (c:List Sc × List Int) (lp:AObj):List AObj:=[.cells [.ptr a 0],.cells [.sl [] .full],.cells [.sl (c.1.map EncE.cs) (.own (n0 + 4))],.cells [.sl (c.2.map EncE.cs) (.own (n0 + 5))],.tok c.1.length 9,.tok c.2.length 1,.deferred,lp]
theorem zhd (hy:MOk y) (h8:zbY y.chairs ≤ 8) (hK:KnP y a m n0 M) :
  zfi Tryz.prog 30 [.ptr a 0,.sl [] .full] M
   (fun r M' => r = .tup [.sl ((zf7 y (zcR (flY y))).1.map EncE.cs) (.own (n0 + 4)),.sl ((zf7 y (zcR (flY y))).2.map EncE.cs) (.own (n0 + 5))] ∧ (M'.length = n0 + 6 ∧ ∀ o ∈ M',zcK M'.length o) ∧ ∀ l,l < n0 → l ≠ m → zaa M' l = zaa M l):=by
 have hl:=hK.len
 have hal:=hK.al
 have hml:=hK.ml
 have g0:∀ r,zaa (M ++ r) n0 = zaa r 0:=fun r => by rw [← hl]; exact zaE _ _ 0
 have gk:∀ r k,zaa (M ++ r) (n0 + k) = zaa r k:=fun r k => by rw [← hl]; exact zaE _ _ k
 have s0:∀ r o,(M ++ r).set n0 o = M ++ r.set 0 o:=fun r o => by rw [← hl]; exact zb8 _ _ 0 _
 have sk:∀ r k o,(M ++ r).set (n0 + k) o = M ++ r.set k o:=fun r k o => by rw [← hl]; exact zb8 _ _ k _
 have hwk:=hK.wk
 unfold wkY at hwk
 have gA:∀ r,zaa (M ++ r) a = _:=fun r => (zaB (by omega)).trans hwk
 refine zbc (Φ:=P235) Tryz.func30 rfl (by rfl) (by rw [Tryz.ntmps30]; simp) zaA zn3 ?_
 rw [Tryz.ntmps30]
 simp only [Tryz.f30,zaj,zao]
 simp (maxSteps:=4000000) only [go_sem,zae,zab,zac,zan,zaq,czb,cza,↓reduceIte,zaf,onz,enc_truv,g0,gk,s0,sk,gA,hl,czd,czc,Nat.add_assoc]
 all_goals (repeat' first | (with_reducible first | rfl | apply And.intro | assumption) | ((with_reducible show zad _ _ = true); rfl)) <;> try first | omega | (simp only [InR]; omega)
 refine vc_range7 [.cell (n0 + 2) 0 9,.cell (n0 + 3) 0 1] ?_
 have q2:∀ (x y z:AObj) r,zaa (x :: y :: z :: r) 2 = z:=fun _ _ _ _ => rfl
 have q3:∀ (x y z w:AObj) r,zaa (x :: y :: z :: w :: r) 3 = w:=fun _ _ _ _ _ => rfl
 simp only [zfE,zcX,tokz1,g0,gk,s0,sk,q2,q3,hl,czd,List.getD_cons_zero,List.getD_cons_succ,List.set_cons_zero,List.set_cons_succ,cza,czy,czc,Nat.reduceAdd,Nat.add_assoc,Nat.zero_add,czs,List.nil_append]
 have hcn:=zg9 h8
 have hlen6:∀ (B:List AObj) (c:List Sc × List Int) (lp:AObj),B.length = n0 → (B ++ zrk a n0 c lp).length = n0 + 8:=fun B c lp h => by rw [czc,h]; rfl
 refine zik (y:=y) (fun lp d mem => ∃ B,KnP y a m n0 B ∧ FrP m M B ∧ mem = B ++ zrk a n0 (zf7 y d) lp) [(2,.ptr n0 0),(3,.ptr (n0 + 1) 0),(4,.ptr (n0 + 2) 0),(5,.ptr (n0 + 3) 0)] hy rfl trivial ?_ ?_ ?_ ?_
 ·simp [lk,AV.strip]
 ·have hxo:∀ (c:List Sc × List Int) (lp:AObj),zcK (n0 + 8) lp → ∀ o ∈ zrk a n0 c lp,zcK (n0 + 8) o:=fun c lp hlp o ho => by
   refine zc7 (k:=n0 + 8) ?_ o ho
   refine ⟨?_,?_,?_,?_,trivial,trivial,?_,hlp,trivial⟩
   ·simp [AV.bare,zal,zaF,zaI,zak,zas,zai,tokz1,lk,zaa,zaZ]; omega
   ·simp [AV.bare,zal,zaF,zaI,zak,zas,zai,tokz1,lk,zaa,zaZ]
   ·simp [AV.bare,zal,zaF,zaI,zak,zas,zai,tokz1,lk,zaa,zaZ]; rw [zfg _ _ (by rw [zfl]; omega)]; omega
   ·simp [AV.bare,zal,zaF,zaI,zak,zas,zai,tokz1,lk,zaa,zaZ]
   ·simp [AV.bare,zal,zaF,zaI,zak,zas,zai,tokz1,lk,zaa,zaZ]
  refine ⟨?_,by show _ < _; simp [hl],?_,?_⟩
  ·rintro d mm ⟨B,h1,h2,rfl⟩
   rw [hlen6 _ _ _ h1.len]; simp [hl]
  ·rintro d mm ⟨B,h1,h2,rfl⟩ o ho
   have e:∀ X:List AObj,(M ++ X).length + 2 = n0 + (X.length + 2):=fun X => by rw [czc,hl]; omega
   dsimp only
   rw [e]
   exact zfk h1.ok (by show n0 ≤ n0 + 8; omega) (zb5 (hxo _ _ (by simp [AV.bare,zal,zaF,zaI,zak,zas,zai,tokz1,lk,zaa,zaZ]))) o ho
  ·rintro d s mm ⟨B,h1,h2,rfl⟩ ⟨r,hr⟩ hsl
   have hms:s ∈ zcR (flY y):=by rw [hr]; simp
   obtain ⟨hul,hto,hch⟩:=zg7 hy hms hsl
   have hstp:=zon y d s
   have hsc:=(zd5 y d).1
   have hscm:=(zd5 y d).2.1
   have hdl:d.length ≤ 256:=by have:=congrArg List.length hr; rw [czc] at this; omega
   obtain ⟨SC,hSC⟩:∃ SC,za7 y (zbM s) = SC:=⟨_,rfl⟩
   have hso:=zez hy hul
   have hso':ScY y SC:=hSC ▸ hso
   obtain ⟨scs,ms,hcs⟩:∃ scs ms,zf7 y d = (scs,ms):=⟨_,_,rfl⟩
   rw [hcs] at hsc hscm hstp
   unfold zoi at hstp
   rw [hSC] at hstp
   simp only at hsc hscm hstp
   rw [hcs]
   have hBl:=h1.len
   have b0:∀ r,zaa (B ++ r) n0 = zaa r 0:=fun r => by rw [← hBl]; exact zaE _ _ 0
   have bk:∀ r k,zaa (B ++ r) (n0 + k) = zaa r k:=fun r k => by rw [← hBl]; exact zaE _ _ k
   have t0:∀ r o,(B ++ r).set n0 o = B ++ r.set 0 o:=fun r o => by rw [← hBl]; exact zb8 _ _ 0 _
   have tk:∀ r k o,(B ++ r).set (n0 + k) o = B ++ r.set k o:=fun r k o => by rw [← hBl]; exact zb8 _ _ k _
   have hwk1:=h1.wk
   unfold wkY at hwk1
   have gB:∀ r,zaa (B ++ r) a = _:=fun r => (zaB (by omega)).trans hwk1
   refine zmr fun R' hR => ?_
   dsimp only
   simp only [czc,hl,cza,czy,Nat.add_assoc,Nat.reduceAdd] at hR ⊢
   have hlen7:∀ (c:List Sc × List Int) (lp:AObj),(B ++ zrk a n0 c lp ++ zck y (n0 + 8) (n0 + 7) s).length = n0 + 12:=fun c lp => by rw [czc,hlen6 _ _ _ hBl]; rfl
   have hBB:∀ rest:List AObj,zaI (n0 + rest.length) rest → ∃ k,KnP y a m k (B ++ rest):=fun rest h => ⟨_,h1.pushL rfl (zc7 h)⟩
   simp only [czd,zrk,zck,czs,List.nil_append]
   refine zki (Φ:=P235) (hl:=by rw [bk]; rfl) rfl (by simp) rfl rfl zaA zn3 (by simp [AV.strip,AV.strip1]) (by simp [AV.strip,AV.strip1]) ?_
   simp (maxSteps:=4000000) only [go_sem,zae,zab,zan,czb,cza,↓reduceIte,zaf,onz,zcE]
   refine zlx (by rw [bk]; rfl) fun LB hLB Q0 hQ0 => ?_
   simp only [czc,hBl,cza,czy,Nat.reduceAdd] at hQ0
   simp only [tk,zod]
   have h39:y.chairs.length * 3 ≤ s.length:=by omega
   have hGl:=SC.fits.h
   have hd7:List.drop 7 [AV.int .i64 0,.int .i64 0,.int .i64 0,.int .i64 0,.int .i64 0,.int .i64 0,.int .i64 0] = []:=rfl
   have htk7:List.take 7 (SC.fits.l.map (AV.int .i64)) = SC.fits.l.map (AV.int .i64):=zdA SC.fits
   refine zaz fun Q1 h1 => ?_
   simp (maxSteps:=4000000) only [go_sem,zae,zab,zan,czb,cza,↓reduceIte,zaf,onz,b0,bk,t0,tk,gB,hBl,hch,hSC,h39,hGl,hd7,htk7,List.append_nil,czd,czc,Nat.add_assoc,zhA,zhz,zhy,zhx,zhw,zhv,zhu,zht,zeO,zeN,zeM]
   all_goals (repeat' first | (with_reducible first | rfl | apply And.intro | assumption) | ((with_reducible show zad _ _ = true); rfl)) <;> try first | omega | (simp only [InR]; omega)
   rw [h1]; clear h1 Q1; simp only [zaO,zav]
   refine zaz fun Q1 h1' => ?_
   simp (maxSteps:=4000000) only [go_sem,zae,zab,zan,czb,cza,↓reduceIte,zaf,onz,b0,bk,t0,tk,gB,hBl,hch,hSC,h39,hGl,hd7,htk7,List.append_nil,czd,czc,Nat.add_assoc,zhA,zhz,zhy,zhx,zhw,zhv,zhu,zht,zeO,zeN,zeM]
   all_goals (repeat' first | (with_reducible first | rfl | apply And.intro | assumption) | ((with_reducible show zad _ _ = true); rfl)) <;> try first | omega | (simp only [InR]; omega)
   have hLBo:∀ k,n0 + 8 ≤ k → zcK k LB:=fun k hk => by rw [hLB]; simp [AV.bare,zal,zaF,zaI,zak,zas,zai,tokz1,lk,zaa,zaZ]; omega
   have hmc:=fun rest h => zkS (a:=a) (m:=m) hy SC hso' (h1.pushL (rs:=rest) (k:=n0 + rest.length) rfl (zc7 h))
   refine ⟨_,za6 (hmc [_,_,_,_,_,_,_,_,_,_,_,_,_] ?_),?_⟩
   ·simp only [cza,czy,Nat.reduceAdd]
    have hch4:=zjf (y:=y) (m0:=n0 + 8) (l:=n0 + 7) (by omega) s (.cells [zgh y (n0 + 8)]) (by simp [zck])
    refine ⟨?_,?_,?_,?_,?_,?_,?_,hLBo _ (by omega),?_,?_,?_,zcQ (by omega) _ hch4,?_,trivial⟩
    all_goals (simp [AV.bare,zal,zaF,zaI,zak,zas,zai,tokz1,lk,zaa,zaZ])
    all_goals (try omega)
    all_goals (try (rw [zfg _ _ (by rw [zfl]; omega)]; omega))
   rintro r M' ⟨r0,rfl,⟨rfl,hK2',hF2'⟩,hlen2⟩ _
   obtain ⟨C,rfl,hK2,hF2⟩:=h1.popL rfl hK2' hF2'
   have hCl:=hK2.len
   have c0:∀ r,zaa (C ++ r) n0 = zaa r 0:=fun r => by rw [← hCl]; exact zaE _ _ 0
   have ck:∀ r k,zaa (C ++ r) (n0 + k) = zaa r k:=fun r k => by rw [← hCl]; exact zaE _ _ k
   have u0:∀ r o,(C ++ r).set n0 o = C ++ r.set 0 o:=fun r o => by rw [← hCl]; exact zb8 _ _ 0 _
   have uk:∀ r k o,(C ++ r).set (n0 + k) o = C ++ r.set k o:=fun r k o => by rw [← hCl]; exact zb8 _ _ k _
   have hwk2:=hK2.wk
   unfold wkY at hwk2
   have gC:∀ r,zaa (C ++ r) a = _:=fun r => (zaB (by omega)).trans hwk2
   have hF3:=h2.trans hF2
   clear hK2' hF2' hlen2 hmc b0 bk t0 tk gB hwk1
   simp only [AV.strip,AV.un,AV.av,true_and]
   rw [h1']; clear h1' Q1; simp only [zaO,zav]
   have hend:∀ (c:List Sc × List Int) (st:St) (rest:List AObj),st.mem = C ++ (zrk a n0 c LB ++ zck y (n0 + 8) (n0 + 7) s ++ rest) → zf7 y (d ++ [s]) = c → Q0 .normal st:=by
    intro c st rest hst hsn
    rw [hQ0]
    simp only [roundA]
    refine zqI (by rw [hst,ck]; rfl) hLB ?_
    have e:∀ LP,((C ++ (zrk a n0 c LB ++ zck y (n0 + 8) (n0 + 7) s ++ rest)).set (n0 + 7) LP).take (n0 + 12) = C ++ (zrk a n0 c LP ++ zck y (n0 + 8) (n0 + 7) s):=fun LP => by
     rw [uk]
     show (C ++ ((zrk a n0 c LP ++ zck y (n0 + 8) (n0 + 7) s) ++ rest)).take (n0 + 12) = _
     rw [← czd,List.take_left' (by rw [czc,hCl]; rfl)]
    rw [hst,e,hR]
    refine ⟨⟨rfl,_,⟨C,hK2,hF3,by rw [hsn]⟩,by rw [czd]⟩,?_⟩
    refine zfk hK2.ok (by omega) ?_
    refine zb5 fun o ho => ?_
    rcases czv.1 ho with q | q
    ·exact zcQ (by omega) _ (hxo c _ (by simp [AV.bare,zal,zaF,zaI,zak,zas,zai,tokz1,lk,zaa,zaZ]) o q)
    ·exact zjf (by omega) s o q
   have hml2:ms.length = scs.length:=by rw [hscm]; simp
   have hmo:∀ c ∈ EncE.cs SC,c.one = true:=by
    rw [zqL]
    simp [AV.one]
   by_cases he:scs.length = 0
   ·have he':scs = []:=List.length_eq_zero_iff.1 he
    have hms:ms = []:=by rw [hscm,he']; rfl
    clear hscm
    subst he' hms
    cases e1:zdx y.claims (zb3 SC)
    ·rw [e1,Bool.false_and,if_neg (by simp)] at hstp
     refine zaz fun Q1 h1' => ?_
     simp (maxSteps:=4000000) only [go_sem,zae,zan,czb,cza,↓reduceIte,zaf,onz,c0,ck,u0,uk,gC,hCl,hGl,hd7,htk7,zdq,zfr,zca,List.take_nil,List.append_nil,czd,czc,Nat.add_assoc,zhA,zhz,zhy,zhx,zhw,zhv,zhu,zht,zeO,zeN,zeM,e1]
     all_goals (repeat' first | (with_reducible first | rfl | apply And.intro | assumption) | ((with_reducible show zad _ _ = true); rfl)) <;> try first | omega | (simp only [InR]; omega)
     rw [h1']; clear h1' Q1; simp only [zaO,zav]
     simp (maxSteps:=4000000) only [go_sem,zae,zab,zac,zan,zaq,czb,cza,↓reduceIte,zaf,onz]
     exact hend ([],[]) _ [_] rfl hstp
    ·rw [e1,if_pos (by rfl)] at hstp
     refine zaz fun Q1 h1' => ?_
     simp (maxSteps:=4000000) only [go_sem,zae,zan,czb,cza,↓reduceIte,zaf,onz,c0,ck,u0,uk,gC,hCl,hGl,hd7,htk7,zdq,zfr,zca,List.take_nil,List.append_nil,czd,czc,Nat.add_assoc,zhA,zhz,zhy,zhx,zhw,zhv,zhu,zht,zeO,zeN,zeM,e1]
     all_goals (repeat' first | (with_reducible first | rfl | apply And.intro | assumption) | ((with_reducible show zad _ _ = true); rfl)) <;> try first | omega | (simp only [InR]; omega)
     rw [h1']; clear h1' Q1; simp only [zaO,zav]
     simp (maxSteps:=4000000) only [go_sem,zae,zan,czb,cza,↓reduceIte,zaf,onz,c0,ck,u0,uk,gC,hCl,hGl,hd7,htk7,zdq,zfr,zca,List.take_nil,List.append_nil,czd,czc,Nat.add_assoc,zhA,zhz,zhy,zhx,zhw,zhv,zhu,zht,zeO,zeN,zeM]
     all_goals (repeat' first | (with_reducible first | rfl | apply And.intro | assumption) | ((with_reducible show zad _ _ = true); rfl)) <;> try first | omega | (simp only [InR]; omega)
     exact hend ([SC],[zb3 SC]) _ [_,_,_] rfl hstp
   ·obtain ⟨T,hT⟩:∃ T,at_ scs (scs.length - 1) = T:=⟨_,rfl⟩
    have hGT:=T.fits.h
    have hgd:=zar (f:=(EncE.cs:Sc → List AV)) (l:=scs) (i:=scs.length - 1) (by omega)
    rw [hT,zqL] at hgd
    have hl1:((scs.length:Int) - 1).toNat = scs.length - 1:=by omega
    have hne:¬ ((scs.length:Int) = 0):=by omega
    have htk7T:List.take 7 (T.fits.l.map (AV.int .i64)) = T.fits.l.map (AV.int .i64):=zdA T.fits
    rw [hT,show decide (scs.length = 0) = false from by simpa using he,Bool.false_or] at hstp
    cases e1:zdx y.claims (zb3 SC)
    ·rw [e1,Bool.false_and,if_neg (by simp)] at hstp
     refine zaz fun Q1 h1' => ?_
     simp (maxSteps:=4000000) only [go_sem,zae,zan,czb,cza,↓reduceIte,zaf,onz,c0,ck,u0,uk,gC,hCl,hGl,hd7,htk7,zdq,zfr,zca,List.take_nil,List.append_nil,czd,czc,Nat.add_assoc,zhA,zhz,zhy,zhx,zhw,zhv,zhu,zht,zeO,zeN,zeM,hgd,hl1,hGT,hne,htk7T,e1]
     all_goals (repeat' first | (with_reducible first | rfl | apply And.intro | assumption) | ((with_reducible show zad _ _ = true); rfl)) <;> try first | omega | (simp only [InR]; omega)
     rw [h1']; clear h1' Q1; simp only [zaO,zav]
     simp (maxSteps:=4000000) only [go_sem,zae,zab,zac,zan,zaq,czb,cza,↓reduceIte,zaf,onz]
     exact hend (scs,ms) _ [_] rfl hstp
    ·cases e2:decide (scK T = scK SC)
     ·rw [e1,e2,if_pos (by rfl)] at hstp
      refine zaz fun Q1 h1' => ?_
      simp (maxSteps:=4000000) only [go_sem,zae,zan,czb,cza,↓reduceIte,zaf,onz,c0,ck,u0,uk,gC,hCl,hGl,hd7,htk7,zdq,zfr,zca,List.take_nil,List.append_nil,czd,czc,Nat.add_assoc,zhA,zhz,zhy,zhx,zhw,zhv,zhu,zht,zeO,zeN,zeM,hgd,hl1,hGT,hne,htk7T,e1,e2]
      all_goals (repeat' first | (with_reducible first | rfl | apply And.intro | assumption) | ((with_reducible show zad _ _ = true); rfl)) <;> try first | omega | (simp only [InR]; omega)
      rw [h1']; clear h1' Q1; simp only [zaO,zav]
      simp (maxSteps:=4000000) only [go_sem,zae,zan,czb,cza,↓reduceIte,zaf,onz,c0,ck,u0,uk,gC,hCl,hGl,hd7,htk7,zdq,zfr,zca,List.take_nil,List.append_nil,czd,czc,Nat.add_assoc,zhA,zhz,zhy,zhx,zhw,zhv,zhu,zht,zeO,zeN,zeM]
      all_goals (repeat' first | (with_reducible first | rfl | apply And.intro | assumption) | ((with_reducible show zad _ _ = true); rfl)) <;> try first | omega | (simp only [InR]; omega)
      refine hend (scs ++ [SC],ms ++ [zb3 SC]) _ [.cells (.int .i64 SC.whole :: .int .i64 SC.broken :: SC.fits.l.map (AV.int .i64)),.dead,.dead] ?_ hstp
      simp only [zrk,zck,List.map_append,czb,List.map_nil,czc,cza,czy,czs,List.nil_append,zqL]
      rfl
     ·rw [e1,e2,if_neg (by simp)] at hstp
      refine zaz fun Q1 h1' => ?_
      simp (maxSteps:=4000000) only [go_sem,zae,zan,czb,cza,↓reduceIte,zaf,onz,c0,ck,u0,uk,gC,hCl,hGl,hd7,htk7,zdq,zfr,zca,List.take_nil,List.append_nil,czd,czc,Nat.add_assoc,zhA,zhz,zhy,zhx,zhw,zhv,zhu,zht,zeO,zeN,zeM,hgd,hl1,hGT,hne,htk7T,e1,e2]
      all_goals (repeat' first | (with_reducible first | rfl | apply And.intro | assumption) | ((with_reducible show zad _ _ = true); rfl)) <;> try first | omega | (simp only [InR]; omega)
      rw [h1']; clear h1' Q1; simp only [zaO,zav]
      simp (maxSteps:=4000000) only [go_sem,zae,zab,zac,zan,zaq,czb,cza,↓reduceIte,zaf,onz]
      exact hend (scs,ms) _ [_] rfl hstp
 ·refine ⟨M,hK,FrP.refl _ _,?_⟩
  simp [zrk,zf7]
 ·rintro mm ⟨B,h1,h2,rfl⟩
  obtain ⟨scs,ms,hcs⟩:∃ scs ms,zf7 y (zcR (flY y)) = (scs,ms):=⟨_,_,rfl⟩
  rw [hcs]
  have hBl:=h1.len
  have b0:∀ r,zaa (B ++ r) n0 = zaa r 0:=fun r => by rw [← hBl]; exact zaE _ _ 0
  have bk:∀ r k,zaa (B ++ r) (n0 + k) = zaa r k:=fun r k => by rw [← hBl]; exact zaE _ _ k
  have t0:∀ r o,(B ++ r).set n0 o = B ++ r.set 0 o:=fun r o => by rw [← hBl]; exact zb8 _ _ 0 _
  have tk:∀ r k o,(B ++ r).set (n0 + k) o = B ++ r.set k o:=fun r k o => by rw [← hBl]; exact zb8 _ _ k _
  have hmn:(M ++ [AObj.cells [AV.ptr a 0],AObj.cells [AV.sl [] Tk.full],AObj.cells [AV.sl [] (Tk.own (n0 + 4))],AObj.cells [AV.sl [] (Tk.own (n0 + 5))],AObj.tok 0 9,AObj.tok 0 1]).length = n0 + 6:=by rw [czc,hl]; rfl
  have htkB:∀ X,List.take n0 (B ++ X) = B:=fun X => List.take_left' hBl
  unfold zrk
  dsimp only
  rw [hmn,Nat.add_assoc,bk]
  simp (maxSteps:=4000000) only [go_sem,zae,zab,zan,czb,cza,↓reduceIte,zaf,onz,endA,pendA,zgf,htkB,hmn,b0,bk,t0,tk,hBl,czd,czc,Nat.add_assoc,zhA,zhz,zhy,zhx,zhw,zhv,zhu,zht,zeO,zeN,zeM]
  all_goals (repeat' first | (with_reducible first | rfl | apply And.intro | assumption) | ((with_reducible show zad _ _ = true); rfl)) <;> try first | omega | (simp only [InR]; omega)
  ·rfl
  refine ⟨21949123963738723012075312962025600931802499239048399859060604530595504787143150154351985502881171567205176961768353693698,by rfl,?_⟩
  simp (maxSteps:=4000000) only [go_sem,zae,zab,zan,czb,cza,↓reduceIte,zaf,onz,(show Nat.testBit 21949123963738723012075312962025600931802499239048399859060604530595504787143150154351985502881171567205176961768353693698 399 = true from rfl),Bool.false_and,Bool.true_and,czp,(show Nat.testBit 21949123963738723012075312962025600931802499239048399859060604530595504787143150154351985502881171567205176961768353693698 400 = false from rfl),(show Nat.testBit 21949123963738723012075312962025600931802499239048399859060604530595504787143150154351985502881171567205176961768353693698 401 = false from rfl),(show Nat.testBit 21949123963738723012075312962025600931802499239048399859060604530595504787143150154351985502881171567205176961768353693698 402 = false from rfl),(show Nat.testBit 21949123963738723012075312962025600931802499239048399859060604530595504787143150154351985502881171567205176961768353693698 403 = true from rfl),(show Nat.testBit 21949123963738723012075312962025600931802499239048399859060604530595504787143150154351985502881171567205176961768353693698 200 = false from rfl),(show ∀ m,zdU false m = m from fun _ => rfl),zda,zce,znk,zjW,vcFr,Go.Fs.freeR,effL,zlF,zgH,List.all_cons,List.all_nil,List.contains_cons,List.contains_nil,Nat.reduceBEq,Bool.or_self,(show Nat.testBit 21949123963738723012075312962025600931802499239048399859060604530595504787143150154351985502881171567205176961768353693698 0 = false from rfl),(show Nat.testBit 21949123963738723012075312962025600931802499239048399859060604530595504787143150154351985502881171567205176961768353693698 1 = true from rfl),(show Nat.testBit 21949123963738723012075312962025600931802499239048399859060604530595504787143150154351985502881171567205176961768353693698 2 = false from rfl),(show Nat.testBit 21949123963738723012075312962025600931802499239048399859060604530595504787143150154351985502881171567205176961768353693698 3 = false from rfl),endA,pendA,zgf,htkB,hmn,b0,bk,t0,tk,hBl,czd,czc,Nat.add_assoc,zhA,zhz,zhy,zhx,zhw,zhv,zhu,zht,zeO,zeN,zeM]
  all_goals (repeat' first | (with_reducible first | rfl | apply And.intro | assumption) | ((with_reducible show zad _ _ = true); rfl)) <;> try first | omega | (simp only [InR]; omega)
  ·rfl
  ·simp
  have htk6:∀ (x0 x1 x2 x3 x4 x5 x6 x7:AObj),List.take (n0 + 6) (B ++ [x0,x1,x2,x3,x4,x5,x6,x7]) = B ++ [x0,x1,x2,x3,x4,x5]:=fun _ _ _ _ _ _ _ _ => by
   rw [← hBl,List.take_length_add_append]; rfl
  have hok:∀ o ∈ B ++ [AObj.cells [AV.ptr a 0],AObj.cells [AV.sl [] Tk.full],AObj.cells [AV.sl (List.map EncE.cs scs) (Tk.own (n0 + 4))],AObj.cells [AV.sl (List.map EncE.cs ms) (Tk.own (n0 + 5))],AObj.tok scs.length 9,AObj.tok ms.length 1],zcK (n0 + 6) o:=by
   refine zfk h1.ok (by omega) ⟨?_,?_,?_,?_,trivial,trivial,trivial⟩
   ·simp [AV.bare,zal,zaF,zaI,zak,zas,zai,tokz1,lk,zaa,zaZ]; omega
   ·simp [AV.bare,zal,zaF,zaI,zak,zas,zai,tokz1,lk,zaa,zaZ]
   ·simp [AV.bare,zal,zaF,zaI,zak,zas,zai,tokz1,lk,zaa,zaZ]; rw [zfg _ _ (by rw [zfl]; omega)]; omega
   ·simp [AV.bare,zal,zaF,zaI,zak,zas,zai,tokz1,lk,zaa,zaZ]
  refine ⟨n0 + 6,by omega,by omega,?_⟩
  rw [htk6]
  refine ⟨⟨⟨by rw [czc,hBl]; rfl,by rw [czc,hBl]; exact hok⟩,fun l hl1 hl2 => ?_⟩,?_,hok⟩
  ·rw [zaB (by omega)]
   exact h2 l hl2
  ·rw [znU]
   intro c hc
   simp only [czn,czk,or_false] at hc
   rcases hc with rfl | rfl
   ·rw [zfg _ _ (by rw [zfl]; omega)]; omega
   ·simp [AV.bare,zal,zaF,zaI,zak,zas,zai,tokz1,lk,zaa,zaZ]
end
end Go.Proofs
