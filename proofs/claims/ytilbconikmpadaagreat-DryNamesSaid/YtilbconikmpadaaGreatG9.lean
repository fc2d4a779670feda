/- The texts S10, S11, S12, S13, S14, S15, joined. -/
import Derived.Test.YtilbconikmpadaaGreatG8
set_option linter.all false
namespace Go.Proofs
open Go.Fs
set_option maxHeartbeats 4000000
set_option maxRecDepth 8000
def zdO {σ α:Type} (go:σ → α → Bool) (next:σ → α → σ):σ → List α → σ × Bool
 | a,[] => (a,true)
 | a,p :: r => if go a p then zdO go next (next a p) r else (next a p,false)
theorem zey {σ α:Type} (go:σ → α → Bool) (next:σ → α → σ):∀ (x y:List α) (a:σ),zdO go next a (x ++ y) = if (zdO go next a x).2 then zdO go next (zdO go next a x).1 y else zdO go next a x
 | [],y,a => rfl
 | p :: x,y,a => by
  simp only [czs,zdO]
  split
  ·exact zey go next x y _
  ·rfl
def zfT (t:Tb):Nat → List Int → List (List Int)
 | 0,p => [p]
 | f + 1,p => (List.range (szR (at_ t.heights p.length)).toNat).flatMap fun n:Nat =>
   let q:=p ++ [(at_ t.heights p.length).lo + n]
   if zde t q p.length then zfT t f q else []
def zks (t:Tb):List (List Int):=zfT t (t.last + 1).toNat []
def zmH (t:Tb) (f:Nat) (p:List Int) (n:Nat):List (List Int):=(List.range n).flatMap fun n:Nat =>
   let q:=p ++ [(at_ t.heights p.length).lo + n]
   if zde t q p.length then zfT t f q else []
theorem zjn (t:Tb) (f:Nat) (p:List Int) (n:Nat):zmH t f p (n + 1) = zmH t f p n ++ (if zde t (p ++ [(at_ t.heights p.length).lo + n]) p.length then zfT t f (p ++ [(at_ t.heights p.length).lo + n]) else []):=by
 simp only [zmH,List.range_succ,List.flatMap_append,List.flatMap_cons,List.flatMap_nil,List.append_nil]
def tbC (t:Tb):List AV:=[.int .i64 t.last,.sl (t.heights.map EncE.cs) .no,.int .i64 t.step,.sl (t.levels.map EncE.cs) .no,.sl (t.marks.map EncE.cs) .no]
def zgy (t:Tb) (m0 l:Nat) (s:Arr 10):List AObj:=[.cells [.yld l],.cells (s.l.map (AV.int .i64)),.cells [.fn (.func 176) [] [.ref (tbC t) 0,.ptr m0 0,.ptr (m0 + 1) 0,.ptr (m0 + 2) 0]]]
theorem zaK (m r:List AObj) (k:Nat):zaa (m ++ r) (m.length + k) = zaa r k:=by
 simp [zaa,List.getD,czj]
theorem zbN (m r:List AObj) (k:Nat) (o:AObj):(m ++ r).set (m.length + k) o = m ++ r.set k o:=by
 simp
theorem za0:∀ l:List AObj,zak l l
 | [] => trivial
 | a :: l => ⟨rfl,za0 l⟩
theorem zby {k:Nat}:∀ {l:List AObj},(∀ o ∈ l,zb6 k o) → zaR k l
 | [],_ => trivial
 | a :: l,h => ⟨h a (by simp),zby fun o ho => h o (by simp [ho])⟩
section
variable {σ:Type} {M:σ → List AObj} {m0 l:Nat} {t:Tb} {go:σ → List Int → Bool} {next:σ → List Int → σ} {Rdy:Nat → σ → Prop} {T:Nat}
structure Iter (M:σ → List AObj) (m0 l:Nat) (t:Tb) (go:σ → List Int → Bool) (next:σ → List Int → σ) (Rdy:Nat → σ → Prop) (T:Nat):Prop where
 len:∀ a,(M a).length = m0
 lt:l < m0
 ok:∀ a,∀ o ∈ M a,zb6 m0 o
 yield:∀ k a p s,Rdy k a → k < T → p.length = (t.last + 1).toNat → LOk p → s = ze1 p → zr6 Tryz.prog l [.agg (s.l.map (AV.int .i64))] (M a ++ zgy t m0 l s) (fun r mem' => r = .bool (go a p) ∧ mem' = M (next a p) ++ zgy t m0 l s)
 rdy:∀ k a p,Rdy k a → k < T → go a p = true → Rdy (k + 1) (next a p)
theorem zgK {k k':Nat} (hk:k ≤ k'):∀ (n:Nat) (v:AV),bel k n v → bel k' n v
 | 0,v,h => by simp [bel] at h
 | n + 1,v,h => by
  have ih:∀ c,bel k n c → bel k' n c:=fun c hc => zgK hk n c hc
  cases v <;> simp only [bel] at h ⊢
  ·exact fun c hc => ih c (h c hc)
  ·exact fun c hc => ih c (h c hc)
  ·refine ⟨fun e he c hc => ih c (h.1 e he c hc),?_⟩
   have:=h.2
   split <;> simp_all <;> omega
  ·exact fun c hc => ih c (h c hc)
  ·omega
  ·omega
  ·exact ⟨fun c hc => ih c (h.1 c hc),fun c hc => ih c (h.2 c hc)⟩
  ·exact fun c hc => ih c (h c hc)
  ·omega
  ·omega
  ·exact ih _ h
  ·omega
  ·omega
theorem zc9 {k k':Nat} (hk:k ≤ k') (o:AObj) (h:zb6 k o):zb6 k' o:=by
 cases o <;> simp only [zb6] at h ⊢
 ·exact fun c hc => zgK hk 9 c (h c hc)
 ·exact fun c hc => zgK hk 9 _ (h c hc)
 ·exact fun c hc => zgK hk 9 c (h c hc)
 ·exact zgK hk 9 _ h
 ·exact fun e he c hc => zgK hk 9 c (h e he c hc)
theorem zh6 (hi:Iter M m0 l t go next Rdy T) (a:σ) (s:Arr 10):∀ o ∈ M a ++ zgy t m0 l s,zb6 (M a ++ zgy t m0 l s).length o:=by
 have hlen:(M a ++ zgy t m0 l s).length = m0 + 3:=by simp [hi.len a,zgy]
 rw [hlen]
 intro o ho
 rcases czv.1 ho with h | h
 ·exact zc9 (by omega) o (hi.ok a o h)
 ·have:=hi.lt
  simp only [zgy,czn,czk,or_false] at h
  rcases h with rfl | rfl | rfl
  ·simp [zb6,bel]; omega
  ·simp [zb6,bel]
  ·simp only [zb6,tbC,czn,czk,or_false,forall_eq_or_imp,forall_eq,AV.bare,zal,zaN,zaR,zak,zar,zaf,tokz1,lk,zaa,zcL]
   simp
   refine ⟨?_,?_,?_⟩ <;> simp [AV.bare,zal,zaN,zaR,zak,zar,zaf,tokz1,lk,zaa,zcL]
def Good (t:Tb) (s:Arr 10):Prop:=LOk s.l ∧ s.l.drop (t.last + 1).toNat = List.replicate (10 - (t.last + 1).toNat) 0
theorem zhi {l:List Int} {k:Nat} (h:k < l.length) (v:Int):(l.set k v).take (k + 1) = l.take k ++ [v]:=by
 have:k < (l.set k v).length:=by simpa using h
 rw [zaV this,List.take_set_of_le (czf k)]
 simp [at_,List.getD,h]
theorem at_take {l:List Int} {n i:Nat} (h:i < n):at_ (l.take n) i = at_ l i:=by
 simp [at_,List.getD,czR,h]
theorem zgY (t:Tb) (f:Nat) (p:List Int) (n:Nat):∀ k,∃ r,zmH t f p (n + k) = zmH t f p n ++ r
 | 0 => ⟨[],by simp⟩
 | k + 1 => by
  obtain ⟨r,hr⟩:=zgY t f p n k
  exact ⟨r ++ _,by rw [← Nat.add_assoc,zjn,hr,czd]⟩
theorem zqo (hi:Iter M m0 l t go next Rdy T) (hok:HOk t) (hl:(t.heights.length:Int) = t.last + 1):∀ (f:Nat) (p:List Int) (s:Arr 10) (a:σ) (k:Nat),p.length + f = (t.last + 1).toNat → s.l.take p.length = p → Good t s → Rdy k a → k + (zfT t f p).length ≤ T →
  zfS Tryz.prog 176 [.int .i64 p.length,.ref (tbC t) 0,.ptr m0 0,.ptr (m0 + 1) 0,.ptr (m0 + 2) 0] (M a ++ zgy t m0 l s)
   (fun r mem' => ∃ s',s'.l.take p.length = p ∧ Good t s' ∧ r = .bool (zdO go next a (zfT t f p)).2 ∧ mem' = M (zdO go next a (zfT t f p)).1 ++ zgy t m0 l s' ∧ ((zdO go next a (zfT t f p)).2 = true → Rdy (k + (zfT t f p).length) (zdO go next a (zfT t f p)).1)):=by
 intro f
 induction f with
 | zero =>
  intro p s a k hf hp hg hr hT
  have hll:t.last < (p.length:Int):=by omega
  have hlp:LOk p:=⟨by rw [← hp]; simp; have:=s.h; omega,fun x hx => hg.1.b x (by rw [← hp] at hx; exact List.mem_of_mem_take hx)⟩
  have hsp:s = ze1 p:=by
   refine Arr.ext ?_
   show s.l = zdh p
   have h10:=s.h
   have hq:p.length = (t.last + 1).toNat:=by omega
   have hlen:p.length ≤ 10:=by have:=hok.len; omega
   rw [← List.take_append_drop p.length s.l,hp,hq,hg.2]
   unfold zdh
   rw [cze hlen,← hq]
  refine zch (Φ:=P34) Tryz.func176 rfl (by rfl) (by rw [Tryz.ntmps176]; simp) zaB zn2 (by simp [AV.strip,AV.strip1]) ?_
  rw [Tryz.ntmps176]
  simp only [Tryz.f176,zai,zam]
  have e0:zaa (M a ++ zgy t m0 l s) m0 = .cells [.yld l]:=by rw [← hi.len a]; exact zaK _ _ 0
  have e1:zaa (M a ++ zgy t m0 l s) (m0 + 1) = .cells (s.l.map (AV.int .i64)):=by rw [← hi.len a]; exact zaK _ _ 1
  simp (maxSteps:=4000000) only [go_sem,AV.one,zae,zac,zad,zan,zaq,czb,cza,↓reduceIte,e0,e1,tbC,hll]
  refine ⟨by have:=s.h; omega,_,hi.yield k a p s hr (by simp only [zfT,cza,czy] at hT; omega) (by omega) hlp hsp,?_⟩
  rintro r mem' ⟨rfl,rfl⟩ hlen
  have hr1:zdO go next a (zfT t 0 p) = (next a p,go a p):=by
   simp only [zfT,zdO]
   cases go a p <;> rfl
  rw [hr1]
  refine ⟨trivial,trivial,⟨s,hp,hg,rfl,?_,fun q => hi.rdy k a p hr (by simp only [zfT,cza,czy] at hT; omega) q⟩,trivial,?_⟩
  ·rw [cze (Nat.le_of_eq hlen)]
  ·rw [cze (Nat.le_of_eq hlen),← hlen]
   exact zh6 hi _ _
 | succ f ih =>
  intro p s a k hf hp hg hr hT
  have hpl:p.length < t.heights.length:=by omega
  have hrg:=hok.h _ (zbv hpl)
  have hll:¬ (t.last < (p.length:Int)):=by omega
  refine zch (Φ:=P34) Tryz.func176 rfl (by rfl) (by rw [Tryz.ntmps176]; simp) zaB zn2 (by simp [AV.strip,AV.strip1]) ?_
  rw [Tryz.ntmps176]
  simp only [Tryz.f176,zai,zam]
  simp (maxSteps:=4000000) only [go_sem,AV.one,zae,zac,zad,zan,zaq,czb,cza,↓reduceIte,tbC,hll,zax hpl]
  refine ⟨⟨by omega,by omega⟩,⟨(by simp only [InR]; omega),(by simp only [InR]; omega)⟩,?_⟩
  refine zjN [] [0,1,3,4,6,20] (fun b:Nat × σ × Arr 10 => [(21,.int .i64 b.1)]) (fun b _ => M b.2.1 ++ zgy t m0 l b.2.2) (fun b => b.1 ≤ (szR (at_ t.heights p.length)).toNat ∧ b.2.2.l.take p.length = p ∧ Good t b.2.2 ∧ zdO go next a (zmH t f p b.1) = (b.2.1,true) ∧ Rdy (k + (zmH t f p b.1).length) b.2.1) (fun b => (szR (at_ t.heights p.length)).toNat - b.1) ((0,a,s)) ?_ ?_ ?_
  ·exact ⟨Nat.zero_le _,hp,hg,rfl,hr⟩
  ·refine ⟨rfl,rfl,rfl,czf _,za0 _,?_,zby (zh6 hi a s),trivial⟩
   have hlen:(M a ++ zgy t m0 l s).length = m0 + 3:=by simp [hi.len a,zgy]
   show zaN _ (M a ++ zgy t m0 l s).length _
   rw [hlen]
   simp [AV.bare,zal,zaN,zaR,zak,zar,zaf,tokz1,lk,zaa,zcL]
  ·rintro ⟨n,b,s'⟩ ⟨hn,hp',hg',hrun,hrb⟩
   simp only at hn hp' hg' hrun hrb
   have e0:zaa (M b ++ zgy t m0 l s') m0 = .cells [.yld l]:=by rw [← hi.len b]; exact zaK _ _ 0
   have e1:zaa (M b ++ zgy t m0 l s') (m0 + 1) = .cells (s'.l.map (AV.int .i64)):=by rw [← hi.len b]; exact zaK _ _ 1
   have hph:p.length < s'.l.length:=by have:=s'.h; have:=hok.len; omega
   by_cases hnN:(n:Int) < szR (at_ t.heights p.length)
   ·obtain ⟨s1,hs1⟩:∃ s1:Arr 10,s1.l = s'.l.set p.length ((at_ t.heights p.length).lo + n):=⟨⟨_,by simp [s'.h]⟩,rfl⟩
    have eset:(M b ++ zgy t m0 l s').set (m0 + 1) (AObj.cells ((s'.l.set p.length ((at_ t.heights p.length).lo + n)).map (AV.int .i64))) = M b ++ zgy t m0 l s1:=by
     rw [← hi.len b,zbN,← hs1]; rfl
    have e1':zaa (M b ++ zgy t m0 l s1) (m0 + 1) = .cells (s1.l.map (AV.int .i64)):=by rw [← hi.len b]; exact zaK _ _ 1
    have e2':zaa (M b ++ zgy t m0 l s1) (m0 + 2) = .cells [.fn (.func 176) [] [.ref (tbC t) 0,.ptr m0 0,.ptr (m0 + 1) 0,.ptr (m0 + 2) 0]]:=by rw [← hi.len b]; exact zaK _ _ 2
    have hov:=fun v => zm1 hph v
    have hv:0 ≤ (at_ t.heights p.length).lo + n ∧ (at_ t.heights p.length).lo + n ≤ 99:=by unfold szR at hnN; omega
    have hkl:p.length < (t.last + 1).toNat:=by omega
    have ht1:s1.l.take (p.length + 1) = p ++ [(at_ t.heights p.length).lo + n]:=by rw [hs1,zhi hph,hp']
    have hpq:(p ++ [(at_ t.heights p.length).lo + (n:Int)]).length = p.length + 1:=by simp
    have hat:∀ i,i < p.length + 1 → at_ s1.l i = at_ (p ++ [(at_ t.heights p.length).lo + (n:Int)]) i:=fun i h => by rw [← ht1,at_take h]
    have hgs1:Good t s1:=by
     refine ⟨⟨by rw [s1.h]; omega,fun x hx => ?_⟩,?_⟩
     ·rw [hs1] at hx
      rcases List.mem_or_eq_of_mem_set hx with h | h
      ·exact hg'.1.b x h
      ·rw [h]; exact hv
     ·rw [hs1,List.drop_set_of_lt hkl]; exact hg'.2
    have hnear:zde t s1.l p.length = zde t (p ++ [(at_ t.heights p.length).lo + (n:Int)]) p.length:=by
     unfold zde
     rw [hat _ (by omega),hat _ (by omega)]
    have hl10:=hok.len
    have hb1:=hgs1.1.b _ (zbv (l:=s1.l) (i:=p.length) (by have:=s1.h; omega))
    have hb2:=hgs1.1.b _ (zbv (l:=s1.l) (i:=((p.length:Int) - 1).toNat) (by have:=s1.h; omega))
    have hs0:=hok.s0
    have hs9:=hok.s1
    have h1:=s1.h
    have hsn:=zjn t f p n
    have hrn:zdO go next a (zmH t f p (n + 1)) = zdO go next b (if zde t s1.l p.length then zfT t f (p ++ [(at_ t.heights p.length).lo + n]) else []):=by
     rw [hsn,zey,hrun,← hnear]; rfl
    have hlenb:∀ (b:σ) (s:Arr 10),(M b ++ zgy t m0 l s).length = m0 + 3:=fun b s => by simp [hi.len b,zgy]
    have hpre:(zmH t f p (n + 1)).length ≤ (zfT t (f + 1) p).length:=by
     obtain ⟨r,hr⟩:=zgY t f p (n + 1) ((szR (at_ t.heights p.length)).toNat - (n + 1))
     rw [show n + 1 + ((szR (at_ t.heights p.length)).toNat - (n + 1)) = (szR (at_ t.heights p.length)).toNat by omega] at hr
     rw [show zfT t (f + 1) p = zmH t f p (szR (at_ t.heights p.length)).toNat from rfl,hr,czc]
     omega
    have hn1:n + 1 ≤ (szR (at_ t.heights p.length)).toNat:=by omega
    have hnN':=hnN
    unfold szR at hnN
    cases c:zde t s1.l p.length
    ·rw [c] at hrn
     simp (maxSteps:=4000000) only [go_sem,AV.one,zae,zac,zad,zaq,czb,cza,↓reduceIte,e0,e1,e1',e2',eset,hov,tbC,hnN,zax hpl,c]
     all_goals (repeat' first | (with_reducible first | rfl | apply And.intro | assumption) | ((with_reducible show zaj _ _ = true); rfl)) <;> try first | omega | (simp only [InR]; omega)
     rw [← hnear,c,if_neg (by simp),List.append_nil] at hsn
     refine ⟨(n + 1,b,s1),⟨hn1,?_,hgs1,hrn,by dsimp only; rw [hsn]; exact hrb⟩,by dsimp only; omega,?_⟩
     ·have:=congrArg (List.take p.length) ht1
      rw [List.take_take] at this
      simpa using this
     ·refine zbl ⟨rfl,rfl,rfl,Nat.le_of_eq (by dsimp only [zaf]; rw [hlenb,hlenb]),za0 _,?_,zby (zh6 hi b s1),trivial⟩
      simp [AV.bare,zal,zaN,zaR,zak,zar,zaf,tokz1,lk,zaa,zcL,hi.len b,zgy]
    ·rw [c] at hrn
     simp (maxSteps:=4000000) only [go_sem,AV.one,zae,zac,zad,zaq,czb,cza,↓reduceIte,e0,e1,e1',e2',eset,hov,tbC,hnN,zax hpl,c]
     all_goals (repeat' first | (with_reducible first | rfl | apply And.intro | assumption) | ((with_reducible show zaj _ _ = true); rfl)) <;> try first | omega | (simp only [InR]; omega)
     rw [← hnear,c,if_pos rfl] at hsn
     have hlen2:=congrArg List.length hsn
     rw [czc] at hlen2
     have ihq:=ih (p ++ [(at_ t.heights p.length).lo + n]) s1 b (k + (zmH t f p n).length) (by rw [hpq]; omega) (by rw [hpq]; exact ht1) hgs1 hrb (by omega)
     rw [hpq,show ((p.length + 1:Nat):Int) = (p.length:Int) + 1 by omega] at ihq
     refine ⟨_,zbE ihq,?_⟩
     rintro r mem' ⟨r0,rfl,⟨s2,k1,k2,rfl,rfl,k5⟩,hlen⟩ _
     have hts2:s2.l.take p.length = p:=by
      have:=congrArg (List.take p.length) k1
      rw [List.take_take] at this
      simpa using this
     cases c2:(zdO go next b (zfT t f (p ++ [(at_ t.heights p.length).lo + n]))).2
     all_goals
      simp (maxSteps:=4000000) only [go_sem,AV.one,zae,zac,zad,zan,zaq,czb,cza,↓reduceIte,c2]
      all_goals (repeat' first | (with_reducible first | rfl | apply And.intro | assumption) | ((with_reducible show zaj _ _ = true); rfl)) <;> try first | omega | (simp only [InR]; omega)
     ·have hW:zdO go next a (zfT t (f + 1) p) = zdO go next b (zfT t f (p ++ [(at_ t.heights p.length).lo + (n:Int)])):=by
       obtain ⟨r,hr⟩:=zgY t f p (n + 1) ((szR (at_ t.heights p.length)).toNat - (n + 1))
       rw [show n + 1 + ((szR (at_ t.heights p.length)).toNat - (n + 1)) = (szR (at_ t.heights p.length)).toNat by omega] at hr
       rw [show zfT t (f + 1) p = zmH t f p (szR (at_ t.heights p.length)).toNat from rfl,hr,zey,hrn,if_pos rfl,c2,if_neg (by simp)]
      rw [hW]
      refine ⟨s2,hts2,k2,by rw [c2],?_,fun q => by rw [c2] at q; cases q⟩
      rw [cze (by rw [hlenb,hlenb]; omega)]
     ·trivial
     ·rw [cze (by rw [hlenb,hlenb]; omega)]
      have:=zh6 hi (zdO go next b (zfT t f (p ++ [(at_ t.heights p.length).lo + (n:Int)]))).1 s2
      rw [hlenb] at this ⊢
      exact this
     ·refine ⟨(n + 1,(zdO go next b (zfT t f (p ++ [(at_ t.heights p.length).lo + (n:Int)]))).1,s2),⟨hn1,hts2,k2,?_,by dsimp only; rw [hlen2,← Nat.add_assoc]; exact k5 c2⟩,by dsimp only; omega,?_⟩
      ·rw [hrn,if_pos rfl,← c2]
      ·refine zbl ⟨rfl,rfl,rfl,Nat.le_of_eq (by dsimp only [zaf]; rw [hlenb,hlenb]),za0 _,?_,zby (zh6 hi _ s2),trivial⟩
       simp [AV.bare,zal,zaN,zaR,zak,zar,zaf,tokz1,lk,zaa,zcL,hi.len,zgy]
   ·have hN:n = (szR (at_ t.heights p.length)).toNat:=by omega
    have hW:zdO go next a (zfT t (f + 1) p) = (b,true):=by
     rw [show zfT t (f + 1) p = zmH t f p (szR (at_ t.heights p.length)).toNat from rfl,← hN,hrun]
    unfold szR at hnN
    simp (maxSteps:=4000000) only [go_sem,AV.one,zae,zac,zad,zan,zaq,czb,cza,↓reduceIte,hnN]
    have hlenb:∀ (b:σ) (s:Arr 10),(M b ++ zgy t m0 l s).length = m0 + 3:=fun b s => by simp [hi.len b,zgy]
    rw [hW]
    have hok2:=zh6 hi b s'
    rw [cze (by rw [hlenb,hlenb]; omega)]
    rw [hlenb] at hok2 ⊢
    exact ⟨⟨s',hp',hg',rfl,rfl,fun _ => by rw [show zfT t (f + 1) p = zmH t f p (szR (at_ t.heights p.length)).toNat from rfl,← hN]; exact hrb⟩,trivial,hok2⟩
theorem zpP (hi:Iter M m0 l t go next Rdy T) (hok:HOk t) (hl:(t.heights.length:Int) = t.last + 1) (a:σ) (hr:Rdy 0 a) (hT:(zks t).length ≤ T) :
  zfS Tryz.prog 175 [.yld l,.ref (tbC t) 0] (M a) (fun r mem' => mem' = M (zdO go next a (zks t)).1):=by
 refine zch (Φ:=P34) Tryz.func175 rfl (by rfl) (by rw [Tryz.ntmps175]; simp) zaB zn2 (by simp [AV.strip,AV.strip1]) ?_
 rw [Tryz.ntmps175]
 simp only [Tryz.f175,zai,zam]
 have hla:=hi.len a
 have f2:∀ x y z:AObj,zaa (M a ++ [x,y,z]) (m0 + 2) = z:=fun x y z => by rw [← hla]; exact zaK _ _ 2
 have fset:∀ x y z o:AObj,(M a ++ [x,y,z]).set (m0 + 2) o = M a ++ [x,y,o]:=fun x y z o => by rw [← hla,zbN]; rfl
 have hgz:Good t zeroA10:=by
  refine ⟨⟨by rw [zeroA10.h]; omega,fun x hx => ?_⟩,?_⟩
  ·have:=(czL.1 hx).2
   subst this; omega
  ·show List.drop _ (List.replicate 10 0) = _
   rw [List.drop_replicate]
 have hc:=zqo hi hok hl (t.last + 1).toNat [] zeroA10 a 0 (by simp) rfl hgz hr (by rw [Nat.zero_add]; exact hT)
 simp (maxSteps:=4000000) only [go_sem,AV.one,zae,zac,zad,zan,zaq,czb,cza,↓reduceIte,czd,czc,hla,f2,fset]
 refine ⟨_,zbE hc,?_⟩
 rintro r mem' ⟨r0,rfl,⟨s',h1,h2,rfl,rfl,h5⟩,hlen⟩ _
 have ht:List.take m0 (M (zdO go next a (zfT t (t.last + 1).toNat [])).1 ++ zgy t m0 l s') = M (zdO go next a (zfT t (t.last + 1).toNat [])).1:=by
  rw [List.take_append_of_le_length (by rw [hi.len]; omega),cze (by rw [hi.len]; omega)]
 rw [ht]
 exact ⟨rfl,by simp [bel],hi.ok _⟩
end
theorem ztB (t:Tb):zaP Tryz.prog 154 [Enc.enc t] (· = .fn (.func 175) [] [.ref (tbC t) 0]):=by
 simp only [zcp]
 refine cpz zn2 Tryz.func154 zaB ?_
 rw [Tryz.ntmps154]
 simp only [Tryz.f154,zai,zam]
 simp (maxSteps:=4000000) only [go_sem,AV.one,zae,zac,zad,zan,zaq,zaa,czb,cza,↓reduceIte,tbC]
structure IterV where
 t:Tb
instance:Enc IterV where
 enc x:=.fn (.func 175) [] [.ref (tbC x.t) 0]
 dec _:=none
 law v x h:=by cases h
 dep:=4
 ok x:=by
  simp only [zbr,tbC,czn,czk,or_false,forall_eq_or_imp,forall_eq,true_and,czx,forall_exists_index,and_imp,forall_apply_eq_imp_iff₂]
  exact ⟨fun _ h => h.elim,fun a _ => EncE.ok a,fun a _ => EncE.ok a,fun a _ => EncE.ok a⟩
theorem zaG (x:IterV):Enc.enc x = .fn (.func 175) [] [.ref (tbC x.t) 0]:=rfl
def P35 (g:FuncId):=(zas 154 (zcC (fun _ => True) IterV.mk) (P34):zaJ) g
theorem zfO:zaz Tryz.prog P35:=zah (zbj fun t _ => ztB t) (zn2)
theorem zsn (d:Option Nat):zaF P35 d = none:=(zag (by decide) d).trans (zso d)
attribute [go_sem] P35 zsn
theorem zm2 {t:Tb} {q:List Int} {x:Int} (h10:q.length < 10):zcE t.step (q ++ [x]) = (zcE t.step q && zde t (q ++ [x]) q.length):=by
 have h:=zjE (t:=t) (l:=q ++ [x]) (i:=q.length) (by simp) h10
 rw [cze (by simp),List.take_left] at h
 rw [h]
 congr 1
 unfold zde
 rw [zgQ (by simp) (by simpa using h10),zgQ (by simp; omega) (by omega)]
theorem zipB_snoc {q:List Int} {hs:List Rg} {x:Int} (h:q.length < hs.length):zhe (q ++ [x]) hs = zhe q hs ++ [inB x (at_ hs q.length).lo (at_ hs q.length).hi]:=by
 induction q generalizing hs with
 | nil =>
  cases hs with
  | nil => simp at h
  | cons r hs => rfl
 | cons y q ih =>
  cases hs with
  | nil => simp at h
  | cons r hs =>
   have:=ih (hs:=hs) (by simpa using h)
   simp only [zhe,czs,List.zipWith_cons_cons] at this ⊢
   rw [this]; rfl
theorem listed_at {t:Tb} {p:List Int} (h:zbg t p = true) {i:Nat} (hi:i < p.length):(at_ t.heights i).lo ≤ at_ p i ∧ at_ p i ≤ (at_ t.heights i).hi:=by
 have hl:=zbY h
 simp only [zbg,czl] at h
 have hz:i < (zhe p t.heights).length:=by rw [zeL]; omega
 have:=czG.1 h.1 _ (zbv hz)
 rw [zgT hi (by omega)] at this
 exact (zbO _ _ _).1 this
theorem zrF {t:Tb} (hok:HOk t):∀ (f:Nat) (q p:List Int),q.length + f = t.heights.length → zcE t.step q = true → (zhe q t.heights).all id = true → (p ∈ zfT t f q ↔ zbg t p = true ∧ p.take q.length = q)
 | 0,q,p,hf,hn,hz => by
  simp only [zfT,czC]
  constructor
  ·rintro rfl
   refine ⟨?_,czm⟩
   simp only [zbg,hz,hn]
   simp; omega
  ·rintro ⟨h,ht⟩
   have:=zbY h
   rw [← ht,cze (by omega)]
 | f + 1,q,p,hf,hn,hz => by
  have hk:q.length < t.heights.length:=by omega
  have h10:=hok.len
  have key:∀ x:Int,inB x (at_ t.heights q.length).lo (at_ t.heights q.length).hi = true → zde t (q ++ [x]) q.length = true → (p ∈ zfT t f (q ++ [x]) ↔ zbg t p = true ∧ p.take (q.length + 1) = q ++ [x]):=by
   intro x h1 h2
   have:=zrF hok f (q ++ [x]) p (by simp; omega) (by rw [zm2 (by omega),hn,h2]; rfl) (by rw [zipB_snoc hk,List.all_append,hz]; simp [h1])
   simpa using this
  simp only [zfT,List.mem_flatMap,List.mem_range]
  constructor
  ·rintro ⟨n,hn1,hp⟩
   have hr:inB ((at_ t.heights q.length).lo + n) (at_ t.heights q.length).lo (at_ t.heights q.length).hi = true:=by
    rw [zbO]; unfold szR at hn1; omega
   split at hp
   ·rename_i hnear
    obtain ⟨g1,g2⟩:=(key _ hr hnear).1 hp
    refine ⟨g1,?_⟩
    have:=congrArg (List.take q.length) g2
    rw [List.take_take] at this
    simpa using this
   ·cases hp
  ·rintro ⟨g1,g2⟩
   have hl:=zbY g1
   have hpk:q.length < p.length:=by omega
   have hat:=listed_at g1 hpk
   have htk:p.take (q.length + 1) = q ++ [at_ p q.length]:=by rw [zaV hpk,g2]
   have hnear:zde t (q ++ [at_ p q.length]) q.length = true:=by
    have h1:zcE t.step p = true:=by simp only [zbg,czl] at g1; exact g1.2.2
    have h2:=zh8 t.step p (q.length + 1) h1
    rw [htk,zm2 (by omega),hn] at h2
    simpa using h2
   refine ⟨(at_ p q.length - (at_ t.heights q.length).lo).toNat,by unfold szR; omega,?_⟩
   have e:(at_ t.heights q.length).lo + (((at_ p q.length - (at_ t.heights q.length).lo).toNat:Nat):Int) = at_ p q.length:=by omega
   simp only [e]
   rw [if_pos hnear]
   exact (key _ ((zbO _ _ _).2 hat) hnear).2 ⟨g1,htk⟩
theorem zi6 {t:Tb} (hok:HOk t) (hl:(t.heights.length:Int) = t.last + 1) (p:List Int):p ∈ zks t ↔ zbg t p = true:=by
 unfold zks
 rw [zrF hok _ [] p (by simp; omega) (by rfl) (by rfl)]
 simp
def zcz (l:List Rg):Int:=l.foldr (fun r n => szR r * n) 1
theorem zfa (l:List Rg) (h:∀ r ∈ l,r.lo ≤ r.hi):∀ n:Int,1 ≤ n → n ≤ 3000 → l.foldl (fun n r => min 3000 (n * (r.hi - r.lo + 1))) n = min 3000 (n * zcz l) ∧ 1 ≤ zcz l:=by
 induction l with
 | nil => intro n h1 h2; simp [zcz]; omega
 | cons r l ih =>
  intro n h1 h2
  have hr:=h r (by simp)
  have hs:1 ≤ r.hi - r.lo + 1:=by omega
  have hns:1 ≤ n * (r.hi - r.lo + 1):=by
   have:=Int.mul_le_mul h1 hs (by omega) (by omega)
   omega
  obtain ⟨e1,e2⟩:=ih (fun r hr => h r (by simp [hr])) (min 3000 (n * (r.hi - r.lo + 1))) (by omega) (by omega)
  have hp:zcz (r :: l) = (r.hi - r.lo + 1) * zcz l:=rfl
  refine ⟨?_,?_⟩
  ·simp only [List.foldl_cons]
   rw [e1,hp,← Int.mul_assoc]
   by_cases c:n * (r.hi - r.lo + 1) ≤ 3000
   ·rw [Int.min_eq_right c]
   ·have c1:min 3000 (n * (r.hi - r.lo + 1)) = 3000:=by omega
    rw [c1]
    have g1:3000 ≤ 3000 * zcz l:=by omega
    have g2:n * (r.hi - r.lo + 1) ≤ n * (r.hi - r.lo + 1) * zcz l:=by
     have:=Int.mul_le_mul_of_nonneg_left e2 (show 0 ≤ n * (r.hi - r.lo + 1) by omega)
     omega
    omega
  ·rw [hp]
   have:=Int.mul_le_mul hs e2 (by omega) (by omega)
   omega
theorem nth_mem (l:List Rg) (h:∀ r ∈ l,r.lo ≤ r.hi):∀ (p:List Int),p.length = l.length → (zhe p l).all id = true → ∃ n:Int,0 ≤ n ∧ n < zcz l ∧ zhy l n = p:=by
 induction l with
 | nil => intro p hp _; exact ⟨0,by omega,by simp [zcz],by cases p <;> simp_all [zhy]⟩
 | cons r l ih =>
  intro p hp hz
  cases p with
  | nil => simp at hp
  | cons x p =>
   have hz':inB x r.lo r.hi = true ∧ (zhe p l).all id = true:=by
    simpa [zhe] using hz
   obtain ⟨n,h1,h2,h3⟩:=ih (fun r hr => h r (by simp [hr])) p (by simpa using hp) hz'.2
   have hx:=(zbO _ _ _).1 hz'.1
   have hs:0 < szR r:=by unfold szR; omega
   refine ⟨(x - r.lo) + szR r * n,?_,?_,?_⟩
   ·have:=Int.mul_nonneg (show 0 ≤ szR r by omega) h1
    omega
   ·show _ < szR r * zcz l
    have:szR r * n + szR r ≤ szR r * zcz l:=by
     have:=Int.mul_le_mul_of_nonneg_left (show n + 1 ≤ zcz l by omega) (show 0 ≤ szR r by omega)
     rw [Int.mul_add,Int.mul_one] at this
     exact this
    unfold szR at this ⊢
    omega
   ·have e1:((x - r.lo) + szR r * n) % szR r = x - r.lo:=by
     rw [Int.add_mul_emod_self_left]
     exact Int.emod_eq_of_lt (by omega) (by unfold szR; omega)
    have e2:((x - r.lo) + szR r * n) / szR r = n:=by
     rw [Int.add_mul_ediv_left _ _ (by omega),Int.ediv_eq_zero_of_lt (by omega) (by unfold szR; omega)]
     omega
    simp only [zhy,e1,e2,h3]
    congr 1
    omega
theorem nth_zip (l:List Rg) (h:∀ r ∈ l,r.lo ≤ r.hi):∀ n:Int,0 ≤ n → (zhe (zhy l n) l).all id = true:=by
 induction l with
 | nil => intro n _; rfl
 | cons r l ih =>
  intro n hn
  have hr:=h r (by simp)
  have h1:=Int.emod_lt_of_pos n (show 0 < szR r by unfold szR; omega)
  have h2:=Int.emod_nonneg n (show szR r ≠ 0 by unfold szR; omega)
  have h3:=ih (fun r hr => h r (by simp [hr])) (n / szR r) (Int.ediv_nonneg hn (by unfold szR; omega))
  have h4:inB (r.lo + n % szR r) r.lo r.hi = true:=by rw [zbO]; unfold szR at h1 h2 ⊢; omega
  simp only [zhy,zhe,List.zipWith_cons_cons,List.all_cons,h4,id]
  exact h3
theorem zh9 {t:Tb} (hok:HOk t) (hm:zc7 t.heights ≤ 2000) (p:List Int):p ∈ zcG t ↔ zbg t p = true:=by
 have hlo:∀ r ∈ t.heights,r.lo ≤ r.hi:=fun r hr => (hok.h r hr).2.1
 obtain ⟨e1,e2⟩:=zfa t.heights hlo 1 (by omega) (by omega)
 have e3:zc7 t.heights = zcz t.heights:=by
  have:zc7 t.heights = min 3000 (1 * zcz t.heights):=e1
  omega
 simp only [zcG,zeP,List.mem_filter,czx,List.mem_range]
 constructor
 ·rintro ⟨⟨n,hn,rfl⟩,hnear⟩
  simp only [zbg,nth_zip t.heights hlo n (by omega),hnear,zdY]
  simp
 ·intro h
  have hl:=zbY h
  simp only [zbg,czl] at h
  obtain ⟨n,h1,h2,h3⟩:=nth_mem t.heights hlo p hl h.1
  refine ⟨⟨n.toNat,by omega,?_⟩,h.2.2⟩
  rw [show ((n.toNat:Nat):Int) = n by omega,h3]
def zcl {σ:Type} (mm:σ → List AObj) (ls:σ → LoopState) (pd:σ → Option Code) (tm':List (Nat × AV)) (n:Nat) (ps:Array Tmp) (asg body:Code) (a:σ):List AObj :=
 mm a ++ [AObj.deferred,AObj.loop (ls a) (pd a) tm' n ps asg body]
theorem zir {σ:Type} (mm:σ → List AObj) (ls:σ → LoopState) (pd:σ → Option Code) {t:Tb} (go:σ → List Int → Bool) (next:σ → List Int → σ) (Rdy:Nat → σ → Prop) (T:Nat) (tm':List (Nat × AV)) (a0:σ)
  {Q:QA} {st:St} {f:Operand} {ps:Array Tmp} {asg body:Code}
  (hok:HOk t) (hl:(t.heights.length:Int) = t.last + 1) (hf:(evT st.tm f).un = .fn (.func 175) [] [.ref (tbC t) 0]) (hav:(evT st.tm f).av)
  (htm:∀ q ∈ tm',q.2 = (lk st.tm q.1).strip) (hm0:mm a0 = st.mem) (hs0:ls a0 = .ready) (hp0:pd a0 = none)
  (hi:Iter (zcl mm ls pd tm' st.n ps asg body) (st.mem.length + 2) (st.mem.length + 1) t go next Rdy T) (hr:Rdy 0 a0) (hT:(zks t).length ≤ T)
  (hend:endA Q st (zcl mm ls pd tm' st.n ps asg body (zdO go next a0 (zks t)).1) (zaa (zcl mm ls pd tm' st.n ps asg body (zdO go next a0 (zks t)).1) (st.mem.length + 1))):zhu Tryz.prog f ps asg body Q st:=by
 unfold zhu
 rw [hf]
 have hM0:zcl mm ls pd tm' st.n ps asg body a0 = st.mem ++ [AObj.deferred,AObj.loop .ready none tm' st.n ps asg body]:=by
  unfold zcl; rw [hm0,hs0,hp0]
 refine ⟨hav,tm',(fun r mem' => mem' = zcl mm ls pd tm' st.n ps asg body (zdO go next a0 (zks t)).1),htm,?_,?_⟩
 ·rw [← hM0]
  exact zpP hi hok hl a0 hr hT
 ·intro r mem' h hlen
  rw [h]
  exact hend
theorem zrj {P:Program} {Φ:zaJ} {Q:QA} {st:St} {f:Operand} {ps:Array Tmp} {asg body:Code} (ts:List TZ) (h:zhu P f ps asg body Q (tokz ts st)):vc P Φ (.rangeFunc f ps asg body) Q st:=⟨ts,h⟩
theorem vc_range0 {P:Program} {Φ:zaJ} {Q:QA} {st:St} {f:Operand} {ps:Array Tmp} {asg body:Code} (h:zhu P f ps asg body Q st):vc P Φ (.rangeFunc f ps asg body) Q st:=⟨[],h⟩
def zjK (l:List Rg):Int:=l.foldl (fun n r => min (n * (r.hi - r.lo + 1)) 2001) 1
theorem zty (l:List Rg) (h:∀ r ∈ l,r.lo ≤ r.hi):∀ n:Int,1 ≤ n → n ≤ 2001 → l.foldl (fun n r => min (n * (r.hi - r.lo + 1)) 2001) n = min (n * zcz l) 2001 ∧ 1 ≤ zcz l:=by
 induction l with
 | nil => intro n h1 h2; simp [zcz]; omega
 | cons r l ih =>
  intro n h1 h2
  have hr:=h r (by simp)
  have hs:1 ≤ r.hi - r.lo + 1:=by omega
  have hns:1 ≤ n * (r.hi - r.lo + 1):=by
   have:=Int.mul_le_mul h1 hs (by omega) (by omega)
   omega
  obtain ⟨e1,e2⟩:=ih (fun r hr => h r (by simp [hr])) (min (n * (r.hi - r.lo + 1)) 2001) (by omega) (by omega)
  have hp:zcz (r :: l) = (r.hi - r.lo + 1) * zcz l:=rfl
  refine ⟨?_,?_⟩
  ·simp only [List.foldl_cons]
   rw [e1,hp,← Int.mul_assoc]
   by_cases c:n * (r.hi - r.lo + 1) ≤ 2001
   ·rw [Int.min_eq_left c]
   ·have c1:min (n * (r.hi - r.lo + 1)) 2001 = 2001:=by omega
    rw [c1]
    have g1:2001 ≤ 2001 * zcz l:=by omega
    have g2:n * (r.hi - r.lo + 1) ≤ n * (r.hi - r.lo + 1) * zcz l:=by
     have:=Int.mul_le_mul_of_nonneg_left e2 (show 0 ≤ n * (r.hi - r.lo + 1) by omega)
     omega
    omega
  ·rw [hp]
   have:=Int.mul_le_mul hs e2 (by omega) (by omega)
   omega
theorem znb (l:List Rg) (h:∀ r ∈ l,r.lo ≤ r.hi):(2000 < zjK l ↔ 2000 < zc7 l) ∧ 0 ≤ zjK l ∧ zjK l ≤ 2001:=by
 obtain ⟨e1,e2⟩:=zty l h 1 (by omega) (by omega)
 obtain ⟨g1,g2⟩:=zfa l h 1 (by omega) (by omega)
 unfold zjK zc7
 rw [e1,g1]
 omega
theorem ztx (l:List Rg) (i:Nat) (hi:i < l.length):zjK (l.take (i + 1)) = min (zjK (l.take i) * ((at_ l i).hi - (at_ l i).lo + 1)) 2001:=by
 unfold zjK; rw [zaV hi,List.foldl_append]; rfl
theorem zkm (t:Tb) (h:t.heights.length ≤ 4096):zaP Tryz.prog 114 [Enc.enc t] (· = Enc.enc (zbq t)):=by
 unfold zbq
 by_cases a1:9 < t.last
 ·rw [if_pos (.inl a1)]
  simp only [zcp]
  refine cpz zfO Tryz.func114 zaB ?_
  rw [Tryz.ntmps114]
  simp only [Tryz.f114,zai,zam]
  simp (maxSteps:=4000000) only [go_sem,AV.one,zae,zac,zad,zan,zaq,zaa,czb,cza,↓reduceIte,zaG,a1]
 by_cases a2:6 < t.levels.length
 ·rw [if_pos (.inr (.inl a2))]
  simp only [zcp]
  refine cpz zfO Tryz.func114 zaB ?_
  rw [Tryz.ntmps114]
  simp only [Tryz.f114,zai,zam]
  simp (maxSteps:=4000000) only [go_sem,AV.one,zae,zac,zad,zan,zaq,zaa,czb,cza,↓reduceIte,zaG,a1,show ((6:Int) < t.levels.length) by omega]
 by_cases a3:5 < t.marks.length
 ·rw [if_pos (.inr (.inr a3))]
  simp only [zcp]
  refine cpz zfO Tryz.func114 zaB ?_
  rw [Tryz.ntmps114]
  simp only [Tryz.f114,zai,zam]
  simp (maxSteps:=4000000) only [go_sem,AV.one,zae,zac,zad,zan,zaq,zaa,czb,cza,↓reduceIte,zaG,a1,show ¬ ((6:Int) < t.levels.length) by omega,show ((5:Int) < t.marks.length) by omega]
 rw [if_neg (show ¬ (9 < t.last ∨ 6 < t.levels.length ∨ 5 < t.marks.length) by omega)]
 have a2':¬ ((6:Int) < t.levels.length):=by omega
 have a3':¬ ((5:Int) < t.marks.length):=by omega
 by_cases b1:t.last < 0
 ·rw [if_pos (.inl b1)]
  simp only [zcp]
  refine cpz zfO Tryz.func114 zaB ?_
  rw [Tryz.ntmps114]
  simp only [Tryz.f114,zai,zam]
  simp (maxSteps:=4000000) only [go_sem,AV.one,zae,zac,zad,zan,zaq,zaa,czb,cza,↓reduceIte,zaG,a1,a2',a3',b1]
 have hl1:InR .i64 (t.last + 1):=(by simp only [InR]; omega)
 by_cases b2:(t.heights.length:Int) = t.last + 1
 case neg =>
  rw [if_pos (.inr (.inl b2))]
  simp only [zcp]
  refine cpz zfO Tryz.func114 zaB ?_
  rw [Tryz.ntmps114]
  simp only [Tryz.f114,zai,zam]
  simp (maxSteps:=4000000) only [go_sem,AV.one,zae,zac,zad,zan,zaq,zaa,czb,cza,↓reduceIte,zaG,a1,a2',a3',b1,b2]
  all_goals exact auz
 have hh:t.heights.length ≤ 4096:=h
 have hv:t.levels.length ≤ 4096:=by omega
 have hm:t.marks.length ≤ 4096:=by omega
 cases b3:t.heights.all zbo
 ·have e:(if t.last < 0 ∨ (t.heights.length:Int) ≠ t.last + 1 ∨ inB t.step 0 99 = false then (1:Int) else if t.heights.all zbo = false then 1 else if (t.levels.all fun n => inB n 0 99) = false then 1 else if t.marks.all (zeH t.last) = false then 1 else if 2000 < zc7 t.heights then 3 else if zcG t = [] then 9 else 0) = 1:=by
   rw [b3,if_pos (rfl:false = false)]; split <;> rfl
  rw [b3] at e
  rw [e]
  simp only [zcp]
  refine cpz zfO Tryz.func114 zaB ?_
  rw [Tryz.ntmps114]
  simp only [Tryz.f114,zai,zam]
  simp (maxSteps:=4000000) only [go_sem,AV.one,zae,zac,zad,zan,zaq,zaa,czb,cza,↓reduceIte,zaG,a1,a2',a3',b1,b2,b3]
  all_goals exact auz
 rw [if_neg (show ¬ (true = false) by simp)]
 cases b4:inB t.step 0 99
 ·rw [if_pos (.inr (.inr rfl))]
  simp only [zcp]
  refine cpz zfO Tryz.func114 zaB ?_
  rw [Tryz.ntmps114]
  simp only [Tryz.f114,zai,zam]
  simp (maxSteps:=4000000) only [go_sem,AV.one,zae,zac,zad,zan,zaq,zaa,czb,cza,↓reduceIte,zaG,a1,a2',a3',b1,b2,b3,b4]
  all_goals exact auz
 have hno:¬ (t.last < 0 ∨ (t.heights.length:Int) ≠ t.last + 1 ∨ true = false):=by
  rintro (q | q | q)
  ·exact b1 q
  ·exact q b2
  ·simp at q
 rw [if_neg hno]
 cases b5:t.levels.all (fun n => inB n 0 99)
 ·rw [if_pos rfl]
  simp only [zcp]
  refine cpz zfO Tryz.func114 zaB ?_
  rw [Tryz.ntmps114]
  simp only [Tryz.f114,zai,zam]
  simp (maxSteps:=4000000) only [go_sem,AV.one,zae,zac,zad,zan,zaq,zaa,czb,cza,↓reduceIte,zaG,a1,a2',a3',b1,b2,b3,b4,b5]
  all_goals exact auz
 rw [if_neg (show ¬ (true = false) by simp)]
 cases b6:t.marks.all (fun m => zeH t.last m)
 ·rw [if_pos rfl]
  simp only [zcp]
  refine cpz zfO Tryz.func114 zaB ?_
  rw [Tryz.ntmps114]
  simp only [Tryz.f114,zai,zam]
  simp (maxSteps:=4000000) only [go_sem,AV.one,zae,zac,zad,zan,zaq,zaa,czb,cza,↓reduceIte,zaG,a1,a2',a3',b1,b2,b3,b4,b5,b6]
  all_goals exact auz
 rw [if_neg (show ¬ (true = false) by simp)]
 have hst:=(zbO _ _ _).1 b4
 have hok:HOk t:=⟨by omega,fun r hr => (zcU r).1 (czG.1 b3 r hr),hst.1,hst.2⟩
 simp only [zcp]
 refine cpz zfO Tryz.func114 zaB ?_
 rw [Tryz.ntmps114]
 simp only [Tryz.f114,zai,zam]
 simp (maxSteps:=4000000) only [go_sem,AV.one,zae,zac,zad,zan,zaq,zaa,czb,cza,↓reduceIte,zaG,a1,a2',a3',b1,b2,b3,b4,b5,b6]
 all_goals (repeat' first | (with_reducible first | rfl | apply And.intro | assumption) | ((with_reducible show zaj _ _ = true); rfl)) <;> try first | omega | (simp only [InR]; omega)
 refine zbG (t.heights.length) [] [1,2,64,65] (fun i => [(66,.int .i64 i),(4,.int .i64 (zjK (t.heights.take i)))]) (fun _ m => m) (fun _ => True) ?_ ?_ ?_ ?_
 ·trivial
 ·simp [AV.bare,zal,zaN,zaR,zak,zar,zaf,tokz1,lk,zaa,zcL,zjK]
 ·intro i hi _
  have hr:=hok.h _ (zbv hi)
  have hmc:=(znb (t.heights.take i) (fun r hr => (hok.h r (List.mem_of_mem_take hr)).2.1)).2
  have hi':(i:Int) < t.last + 1:=by omega
  have hp:0 ≤ zjK (t.heights.take i) * ((at_ t.heights i).hi - (at_ t.heights i).lo + 1) ∧ zjK (t.heights.take i) * ((at_ t.heights i).hi - (at_ t.heights i).lo + 1) ≤ 2001 * 100 :=
   ⟨Int.mul_nonneg hmc.1 (by omega),Int.mul_le_mul hmc.2 (by omega) (by omega) (by omega)⟩
  simp (maxSteps:=4000000) only [go_sem,AV.one,zae,zac,zad,zan,zaq,zaa,czb,cza,↓reduceIte,zax hi,hi',zhz]
  all_goals (repeat' first | (with_reducible first | rfl | apply And.intro | assumption) | ((with_reducible show zaj _ _ = true); rfl)) <;> try first | omega | (simp only [InR]; omega)
  ·simp
  ·refine nxt hi trivial ?_
   simp [AV.bare,zal,zaN,zaR,zak,zar,zaf,tokz1,lk,zaa,zcL,ztx _ _ hi]
 ·intro _
  have hi':¬ ((t.heights.length:Int) < t.last + 1):=by omega
  simp (maxSteps:=4000000) only [go_sem,AV.one,zae,zac,zad,zan,zaq,zaa,czb,cza,↓reduceIte,hi',zaG,czm]
  have hms:=(znb t.heights (fun r hr => (hok.h r hr).2.1)).1
  refine ⟨fun q => ?_,fun q => ?_⟩
  ·simp at q
   rw [if_pos (hms.1 q)]
  ·have hmn:¬ 2000 < zc7 t.heights:=by simp at q; omega
   rw [if_neg hmn]
   refine vc_range0 ?_
   refine zir (fun _:Bool => [AObj.cells [AV.int IntKind.i64 t.last,AV.sl (List.map EncE.cs t.heights) Tk.no,AV.int IntKind.i64 t.step,AV.sl (List.map EncE.cs t.levels) Tk.no,AV.sl (List.map EncE.cs t.marks) Tk.no],
     AObj.cells [AV.int IntKind.i64 0]]) (fun a => if a then .done else .ready) (fun a => if a then some .ret else none) (fun _ _ => false) (fun _ _ => true) (fun _ a => a = false) _ [(1,.ptr 0 0),(2,.ptr 1 0)] false
    hok b2 rfl trivial ?_ rfl rfl rfl ?_ rfl (czf _) ?_
   ·simp [lk,AV.strip,zcj]
   ·refine ⟨fun a => rfl,by simp [zcj],fun a => ?_,?_,fun k a p h _ q => by simp at q⟩
    ·cases a <;> simp [AV.bare,zal,zaN,zaR,zak,zar,zaf,tokz1,lk,zaa,zcL,zcl,zcu,zbm,zbC]
    ·intro k a p s ha hkT hp hlo hs
     subst ha
     refine zfV (Φ:=P35) (hl:=rfl) rfl (by simp) rfl rfl zaB zfO (by simp [AV.strip,AV.strip1]) (by simp [AV.strip,AV.strip1]) ?_
     simp (maxSteps:=4000000) only [go_sem,AV.one,zae,zac,zad,zan,zaq,zaa,czb,cza,↓reduceIte,zgs,zf6,zp6,zgy,zcQ,zcl]
     simp [AV.bare,zal,zaN,zaR,zak,zar,zaf,tokz1,lk,zaa,zcL,zcu,zbm,zbC,tbC]
   ·cases hq:zks t with
    | nil =>
     simp (maxSteps:=4000000) only [go_sem,AV.one,zae,zac,zad,zan,zaq,zaa,czb,cza,↓reduceIte,endA,zpF,zdO,zgM,zcl]
     refine ⟨rfl,?_⟩
     have:zcG t = []:=by
      cases hl2:zcG t with
      | nil => rfl
      | cons p r =>
       have h1:p ∈ zcG t:=by rw [hl2]; simp
       have h2:=(zi6 hok b2 p).2 ((zh9 hok (by omega) p).1 h1)
       rw [hq] at h2; cases h2
     rw [if_pos this]
    | cons p r =>
     simp (maxSteps:=4000000) only [go_sem,AV.one,zae,zac,zad,zan,zaq,zaa,czb,cza,↓reduceIte,endA,zpF,zdO,zgM,zcl]
     refine ⟨rfl,?_⟩
     rw [if_neg]
     intro hl2
     have h1:p ∈ zks t:=by rw [hq]; simp
     have h2:=(zh9 hok (by omega) p).2 ((zi6 hok b2 p).1 h1)
     rw [hl2] at h2; cases h2
def P36 (g:FuncId):=(zas 114 (zcC (fun t:Tb => t.heights.length ≤ 4096) zbq) (P35):zaJ) g
theorem P36_ok:zaz Tryz.prog P36:=zah (zbj zkm) (zfO)
theorem zsm (d:Option Nat):zaF P36 d = none:=(zag (by decide) d).trans (zsn d)
attribute [go_sem] P36 zsm
theorem zcs {t:Tb} (h:zbq t = 0):VOk t:=by
 unfold zbq at h
 split at h
 ·cases h
 rename_i h1
 split at h
 ·cases h
 rename_i h2
 split at h
 ·cases h
 rename_i h3
 split at h
 ·cases h
 rename_i h4
 split at h
 ·cases h
 rename_i h5
 split at h
 ·cases h
 rename_i h6
 split at h
 ·cases h
 rename_i h7
 simp only [not_or,Bool.not_eq_false,ne_eq,Decidable.not_not] at h1 h2 h3 h4 h5
 have hs:=(zbO _ _ _).1 h2.2.2
 have hok:HOk t:=⟨by omega,fun r hr => (zcU r).1 (czG.1 h3 r hr),hs.1,hs.2⟩
 refine ⟨hok,⟨by omega,fun m hm => ?_⟩,h2.2.1,by omega,fun x hx => ?_,by omega,h7⟩
 ·have:=czG.1 h5 m hm
  simp only [zeH,czl,decide_eq_true_eq] at this
  have g1:=(zbO _ _ _).1 this.1.1.1
  have g2:=(zbO _ _ _).1 this.1.1.2
  omega
 ·exact (zbO _ _ _).1 (czG.1 h4 x hx)
theorem zay:List.drop 10 [AV.int IntKind.i64 0,AV.int IntKind.i64 0,AV.int IntKind.i64 0,AV.int IntKind.i64 0,AV.int IntKind.i64 0,AV.int IntKind.i64 0,AV.int IntKind.i64 0,AV.int IntKind.i64 0,AV.int IntKind.i64 0,AV.int IntKind.i64 0] = []:=rfl
theorem zc2 (b:Bool):(AV.bool b).one = true:=rfl
theorem zb4 (a b):(AV.sl a b).one = true:=rfl
theorem zbB (a b):(AV.ptr a b).one = true:=rfl
theorem zbA (a b):(AV.ref a b).one = true:=rfl
theorem zbi:(AV.nilp).one = true:=rfl
theorem zhj {α β:Type} (f:α → β) (l:List α) (k:Nat):(l.map f).take k = (l.take k).map f:=by simp
theorem zmQ (t:Tb) (l:List Int):zdv t l [] t.marks.length = t.marks.all (zdP l):=by
 have key:∀ n,n ≤ t.marks.length → zdv t l [] n = (t.marks.take n).all (zdP l):=by
  intro n
  induction n with
  | zero => intro _; simp [zdv]
  | succ n ih =>
   intro h
   rw [zjx,ih (by omega),zd5 h]
   simp
 rw [key _ (czf _),czm]
theorem MOk.m9 {t:Tb} (h:MOk t) (hok:HOk t):∀ m ∈ t.marks,0 ≤ m.frm ∧ m.frm ≤ m.til ∧ m.til ≤ 9:=fun m hm => by
 have:=h.m m hm
 have:=hok.len
 omega
theorem pad_at2 {l:List Int} (i:Nat) (h10:l.length ≤ 10) (hi:i < l.length):at_ (zdh l) i = at_ l i:=zgQ hi (by omega)
theorem zkS {l:List Int} {m:Mk} (h10:l.length ≤ 10) (h0:0 ≤ m.frm) (h1:m.til < l.length):zdP (zdh l) m = zdP l m:=by
 unfold zdP zkJ zdh
 rw [cze h10,List.drop_append,List.take_append]
 by_cases c:m.frm ≤ m.til
 ·have e1:m.frm.toNat ≤ l.length:=by omega
  rw [show m.frm.toNat - l.length = 0 by omega,List.drop_zero]
  rw [show (m.til + 1 - m.frm).toNat - (l.drop m.frm.toNat).length = 0 by simp; omega]
  simp
 ·rw [show (m.til + 1 - m.frm).toNat = 0 by omega]
  simp
theorem zo1 {l:List Int} (level:Int) (h10:l.length ≤ 10):zko (zdh l) level l.length = zgP l level:=by
 unfold zgP zko
 congr 1
 apply List.filter_congr
 intro i hi
 rw [pad_at2 i h10 (by simpa using hi)]
theorem zdA {α:Type} {l:List α} {p q:α → Bool} (h:∀ x ∈ l,p x = q x):l.all p = l.all q:=by
 induction l with
 | nil => rfl
 | cons x l ih => rw [List.all_cons,List.all_cons,h x (by simp),ih (fun y hy => h y (by simp [hy]))]
def zeO (t:Tb) (l:List Int):Bool:=decide (zbq t = 0) && zbZ t l
theorem zkf (t:Tb) (l:List Int) (h:t.heights.length ≤ 4096 ∧ l.length ≤ 4096):zaP Tryz.prog 76 [Enc.enc t,Enc.enc l] (· = Enc.enc (zeO t l)):=by
 have h1:=h.1
 have h2:=h.2
 unfold zeO
 by_cases c:zbq t = 0
 case neg =>
  rw [show (decide (zbq t = 0) && zbZ t l) = false by simp [c]]
  simp only [zcp]
  refine cpz P36_ok Tryz.func76 zaB ?_
  rw [Tryz.ntmps76]
  simp only [Tryz.f76,zai,zam]
  simp (maxSteps:=4000000) only [go_sem,AV.one,zae,zac,zad,zan,zaq,zaa,czb,cza,↓reduceIte,zab,zaG,zay,zcD,zc2,zb4,zbB,zbA,zbi,c]
  all_goals exact auz
 have hv:=zcs c
 have hok:=hv.hok
 have hl0:0 ≤ t.last:=by
  have:=hv.l0
  have:=hv.last
  have:=hv.some
  have h9:zbq t = 0:=c
  unfold zbq at h9
  split at h9
  ·cases h9
  split at h9
  ·cases h9
  rename_i h10
  simp only [not_or] at h10
  omega
 have hlast:=hv.last
 have hm:=hv.mok.m9 hok
 have hml:=hv.mok.len
 have e:(decide (zbq t = 0) && zbZ t l) = ((zdf t l).2 && zdv t (zdf t l).1.l [] t.marks.length):=by
  rw [c,zmQ]
  unfold zdf
  by_cases q:(l.length:Int) = t.last + 1
  ·rw [if_pos q]
   simp only [zbZ]
   cases zbg t l
   ·rfl
   ·simp only [Bool.true_and,decide_true]
    refine zdA fun m hmm => ?_
    have:=hv.mok.m m hmm
    exact (zkS (by have:=hok.len; omega) (by omega) (by omega)).symm
  ·rw [if_neg q]
   have:zbg t l = false:=by
    cases b:zbg t l
    ·rfl
    ·have:=zbY b; omega
   simp [zbZ,this]
 rw [e]
 generalize hlp:zdf t l = r
 obtain ⟨s,b⟩:=r
 have hs:=s.h
 cases b
 all_goals
  simp only [zcp]
  refine cpz P36_ok Tryz.func76 zaB ?_
  rw [Tryz.ntmps76]
  simp only [Tryz.f76,zai,zam]
  simp (maxSteps:=4000000) only [go_sem,zae,zac,zad,zan,zaq,zaa,czb,cza,↓reduceIte,zab,zaG,zay,zcD,zc2,zb4,zbB,zbA,zbi,c,hlp,hs]
  all_goals (repeat' first | (with_reducible first | rfl | apply And.intro | assumption) | ((with_reducible show zaj _ _ = true); rfl)) <;> try first | omega | (simp only [InR]; omega)
def P37 (g:FuncId):=(zas 76 (zbF (fun (t:Tb) (l:List Int) => t.heights.length ≤ 4096 ∧ l.length ≤ 4096) zeO) (P36):zaJ) g
theorem P37_ok:zaz Tryz.prog P37:=zah (zaM zkf) (P36_ok)
theorem zsl (d:Option Nat):zaF P37 d = none:=(zag (by decide) d).trans (zsm d)
attribute [go_sem] P37 zsl
def P38:zaJ:=P37
theorem P38_app (g:FuncId):P38 g = (P37) g:=rfl
theorem zn1:zaz Tryz.prog P38:=P37_ok
attribute [go_sem] P38_app
theorem zsk (d:Option Nat):zaF P38 d = none:=zsl d
attribute [go_sem] zsk
theorem zk3:zac [] = some []:=rfl
theorem zcd (a):(AV.mp a).one = true:=rfl
def zb3 (n:Nat):List AV:=List.replicate n (.bool true)
def decT:List AV → Option Nat
 | [] => some 0
 | .bool true :: r => (decT r).map (· + 1)
 | _ => none
theorem zrT:∀ (vs:List AV) (n:Nat),decT vs = some n → vs = zb3 n
 | [],n,h => by simp only [decT,czg] at h; subst h; rfl
 | v :: r,n,h => by
  unfold decT at h
  split at h
  ·cases h; simp_all
  ·rename_i r' heq
   cases heq
   simp only [czr] at h
   obtain ⟨k,h1,rfl⟩:=h
   rw [zrT _ _ h1]; rfl
  ·cases h
theorem zla:∀ n,decT (zb3 n) = some n
 | 0 => rfl
 | n + 1 => by
  have:=zla n
  simp only [zb3,List.replicate_succ,decT] at this ⊢
  rw [this]; rfl
structure Wk where
 t:Tb
 truth:List (Arr 10)
 ks:List (List Int)
def wkC (w:Wk):List AV:=[.int .i64 w.t.last,.sl (w.t.heights.map EncE.cs) .no,.int .i64 w.t.step,.sl (w.t.levels.map EncE.cs) .no,.sl (w.t.marks.map EncE.cs) .no,.sl (w.truth.map EncE.cs) .no,.mpr w.ks (zb3 w.ks.length)]
def zt5:List AV → Option Wk
 | [.int .i64 a,.sl b .no,.int .i64 c,.sl d .no,.sl e .no,.sl f .no,.mpr ks vs] =>
  match (zdC b:Option (List Rg)),(zdC d:Option (List Int)),(zdC e:Option (List Mk)),(zdC f:Option (List (Arr 10))),decT vs with
  | some b,some d,some e,some f,some n => if n = ks.length then some ⟨⟨a,b,c,d,e⟩,f,ks⟩ else none
  | _,_,_,_,_ => none
 | _ => none
theorem znA {cs:List AV} {w:Wk} (h:zt5 cs = some w):cs = wkC w:=by
 unfold zt5 at h
 split at h
 ·split at h
  ·rename_i h1 h2 h3 h4 h5
   split at h
   ·rename_i hn
    cases h
    rw [zbx _ _ h1,zbx _ _ h2,zbx _ _ h3,zbx _ _ h4,zrT _ _ h5,hn]
    rfl
   ·cases h
  ·cases h
 ·cases h
theorem zri (w:Wk):∀ c ∈ wkC w,zbr 3 c:=by
 simp only [wkC,czn,czk,or_false,forall_eq_or_imp,forall_eq,zbr,true_and,czx,forall_exists_index,and_imp,forall_apply_eq_imp_iff₂]
 have key:∀ (v:AV),zbr 1 v → zbr 2 v:=fun v h => by cases v <;> simp_all [zbr]
 refine ⟨fun a _ c hc => key c (EncE.ok a c hc),fun a _ c hc => key c (EncE.ok a c hc),fun a _ c hc => key c (EncE.ok a c hc),fun a _ c hc => key c (EncE.ok a c hc),fun c hc => ?_⟩
 have:=(czL.1 hc).2
 subst this
 simp [zbr]
instance:Enc Wk where
 enc w:=.ref (wkC w) 0
 dec
  | .ref cs 0 => zt5 cs
  | _ => none
 law v x h:=by
  split at h
  ·rw [znA h]
  ·cases h
 dep:=4
 ok x:=zri x
instance:Enc (Option Wk) where
 enc
  | some w => .ref (wkC w) 0
  | none => .nilp
 dec
  | .nilp => some none
  | .ref cs 0 => (zt5 cs).map some
  | _ => none
 law v x h:=by
  split at h
  ·cases h; rfl
  ·simp only [czr] at h
   obtain ⟨w,h1,rfl⟩:=h
   rw [znA h1]
  ·cases h
 dep:=4
 ok x:=by
  cases x with
  | none => trivial
  | some w => exact zri w
theorem zrR (w:Wk):Enc.enc w = .ref (wkC w) 0:=rfl
theorem zeE (w:Wk):Enc.enc (some w) = .ref (wkC w) 0:=rfl
theorem zd0:Enc.enc (none:Option Wk) = .nilp:=rfl
def addK (ks:List (List Int)) (k:List Int):List (List Int):=if k ∈ ks then ks else ks ++ [k]
theorem zmV (ks:List (List Int)) (k:List Int):zaq ks (zb3 ks.length) k (.bool true) = .map (addK ks k) (zb3 (addK ks k).length):=by
 unfold zaq addK
 have hk:(zad ks k).isSome = decide (k ∈ ks):=by
  unfold zad
  rw [List.findIdx?_isSome,Bool.eq_iff_iff]
  simp
 cases h:zad ks k with
 | none =>
  rw [h] at hk
  have:k ∉ ks:=by simpa using hk.symm
  rw [if_neg this]
  simp only [czc,cza,czy,zb3,List.replicate_succ']
 | some i =>
  rw [h] at hk
  have:k ∈ ks:=by simpa using hk.symm
  rw [if_pos this]
  simp only [zb3,List.set_replicate_self]
def ze0 (ks:List (List Int)) (p:List Int):Nat → List (List Int)
 | 0 => ks
 | n + 1 => addK (ze0 ks p n) [(n:Int),at_ p n]
theorem zgu {ks:List (List Int)} {p:List Int} (h:∀ b ∈ ks,b.length = 2):∀ n,∀ b ∈ ze0 ks p n,b.length = 2
 | 0 => h
 | n + 1 => by
  intro b hb
  unfold ze0 addK at hb
  split at hb
  ·exact zgu h n b hb
  ·rcases czv.1 hb with q | q
   ·exact zgu h n b q
   ·simp at q; subst q; rfl
theorem zmW {l:List Rg} (h:∀ r ∈ l,r.lo ≤ r.hi):1 ≤ zcz l:=(zfa l h 1 (by omega) (by omega)).2
theorem zrs {t:Tb} (hok:HOk t):∀ (f:Nat) (p:List Int),p.length + f = t.heights.length → ((zfT t f p).length:Int) ≤ zcz (t.heights.drop p.length)
 | 0,p,h => by
  rw [czM (by omega)]
  simp [zfT,zcz]
 | f + 1,p,h => by
  have hk:p.length < t.heights.length:=by omega
  have hp1:1 ≤ zcz (t.heights.drop (p.length + 1)):=zmW fun r hr => (hok.h r (List.mem_of_mem_drop hr)).2.1
  have hr:=hok.h _ (zbv hk)
  have key:∀ n:Nat,((zmH t f p n).length:Int) ≤ n * zcz (t.heights.drop (p.length + 1)):=by
   intro n
   induction n with
   | zero => simp [zmH]
   | succ n ih =>
    rw [zjn,czc]
    have hb:(((if zde t (p ++ [(at_ t.heights p.length).lo + (n:Int)]) p.length then zfT t f (p ++ [(at_ t.heights p.length).lo + (n:Int)]) else []).length:Nat):Int) ≤ zcz (t.heights.drop (p.length + 1)):=by
     split
     ·have:=zrs hok f (p ++ [(at_ t.heights p.length).lo + (n:Int)]) (by simp; omega)
      simpa using this
     ·simp; omega
    have e:((n + 1:Nat):Int) * zcz (t.heights.drop (p.length + 1)) = n * zcz (t.heights.drop (p.length + 1)) + zcz (t.heights.drop (p.length + 1)):=by
     rw [Int.natCast_add,Int.add_mul]; simp
    rw [e]
    omega
  have:=key (szR (at_ t.heights p.length)).toNat
  rw [show zfT t (f + 1) p = zmH t f p (szR (at_ t.heights p.length)).toNat from rfl,zgl hk]
  have e2:zcz (at_ t.heights p.length :: t.heights.drop (p.length + 1)) = szR (at_ t.heights p.length) * zcz (t.heights.drop (p.length + 1)):=rfl
  rw [e2]
  have e3:(((szR (at_ t.heights p.length)).toNat:Nat):Int) = szR (at_ t.heights p.length):=by unfold szR; omega
  rw [e3] at this
  exact this
theorem zrt {t:Tb} (hv:VOk t):(zks t).length ≤ 2000:=by
 have hl:=hv.last
 have:=zrs hv.hok (t.last + 1).toNat [] (by simp; omega)
 obtain ⟨e1,e2⟩:=zfa t.heights (fun r hr => (hv.hok.h r hr).2.1) 1 (by omega) (by omega)
 have hm:=hv.many
 unfold zc7 at hm
 rw [e1] at hm
 simp only [czy,List.drop_zero] at this
 unfold zks
 omega
def zhf (t:Tb) (a:List (List Int) × List (List Int)) (p:List Int):List (List Int) × List (List Int) :=
 if zdv t (zdh p) [] t.marks.length && !(decide (0 < a.1.length) && decide (zdh (at_ a.1 (a.1.length - 1)) = zdh p)) then (a.1 ++ [p],ze0 a.2 p (t.last + 1).toNat) else a
def zgL (t:Tb):List (List Int) × List (List Int):=(zdO (fun _ _ => true) (zhf t) ([],[]) (zks t)).1
def zkb (t:Tb) (fine:Bool):Option Wk × Int :=
 if zbq t = 0 then
  if fine then
   if (zgL t).1.length = 0 then (none,11) else (some ⟨t,(zgL t).1.map ze1,(zgL t).2⟩,0)
  else (none,2)
 else (none,zbq t)
theorem keyOk2:zq6 Tryz.prog 220 2:=zrM ek_220
theorem zuo (t:Tb) (fine:Bool) (h:t.heights.length ≤ 4096):zaP Tryz.prog 122 [Enc.enc t,Enc.enc fine] (· = Enc.enc (zkb t fine)):=by
 simp only [zab]
 unfold zkb
 by_cases c:zbq t = 0
 case neg =>
  rw [if_neg c]
  simp only [zd0]
  simp only [zcp]
  refine cpz zn1 Tryz.func122 zaB ?_
  rw [Tryz.ntmps122]
  simp only [Tryz.f122,zai,zam]
  simp (maxSteps:=4000000) only [go_sem,AV.one,zae,zac,zad,zan,zaq,zaa,czb,cza,↓reduceIte,zab,zaG,zay,zcD,zc2,zb4,zbB,zbA,zbi,zcd,c]
  all_goals exact auz
 rw [if_pos c]
 have hv:=zcs c
 have hok:=hv.hok
 have hml:=hv.mok.len
 have hm:=hv.mok.m9 hok
 cases fine
 ·simp only [czp,if_false,zd0]
  simp only [zcp]
  refine cpz zn1 Tryz.func122 zaB ?_
  rw [Tryz.ntmps122]
  simp only [Tryz.f122,zai,zam]
  simp (maxSteps:=4000000) only [go_sem,AV.one,zae,zac,zad,zan,zaq,zaa,czb,cza,↓reduceIte,zab,zaG,zay,zcD,zc2,zb4,zbB,zbA,zbi,zcd,c]
  all_goals exact auz
 simp only [if_true]
 simp only [zcp]
 refine cpz zn1 Tryz.func122 zaB ?_
 rw [Tryz.ntmps122]
 simp only [Tryz.f122,zai,zam]
 simp (maxSteps:=4000000) only [go_sem,zae,zac,zad,zan,zaq,zaa,czb,cza,↓reduceIte,zab,zaG,zay,zcD,zc2,zb4,zbB,zbA,zbi,zcd,c]
 all_goals (repeat' first | (with_reducible first | rfl | apply And.intro | assumption) | ((with_reducible show zaj _ _ = true); rfl)) <;> try first | omega | (simp only [InR]; omega)
 refine zrj [.cell 2 5 10] ?_
 simp only [zdD,zcj,tokz1,zaa,List.getD_cons_zero,List.getD_cons_succ,List.set_cons_zero,List.set_cons_succ,cza,czy,Nat.reduceAdd,Nat.zero_add,czs,List.nil_append]
 refine zir (fun a:List (List Int) × List (List Int) => [AObj.cells [AV.int IntKind.i64 t.last,AV.sl (List.map EncE.cs t.heights) Tk.no,AV.int IntKind.i64 t.step,AV.sl (List.map EncE.cs t.levels) Tk.no,AV.sl (List.map EncE.cs t.marks) Tk.no],
   AObj.map a.2 (zb3 a.2.length),
   AObj.cells [AV.int IntKind.i64 t.last,AV.sl (List.map EncE.cs t.heights) Tk.no,AV.int IntKind.i64 t.step,AV.sl (List.map EncE.cs t.levels) Tk.no,AV.sl (List.map EncE.cs t.marks) Tk.no,AV.sl ((a.1.map ze1).map EncE.cs) (.own 4),AV.mp 1],
   AObj.cells [AV.ptr 2 0],AObj.tok a.1.length 10]) (fun _ => .ready) (fun _ => none) (fun _ _ => true) (zhf t) (fun k a => a.1.length ≤ k ∧ ∀ b ∈ a.2,b.length = 2) (zks t).length [(2,.ptr 0 0),(7,.ptr 3 0)] ([],[])
  hok hv.last rfl trivial ?_ rfl rfl rfl ?_ ⟨czf _,by simp⟩ (czf _) ?_
 ·simp [lk,AV.strip]
 ·refine ⟨fun a => rfl,by simp,fun a => ?_,?_,fun k a p h hk _ => ?_⟩
  ·simp [AV.bare,zal,zaN,zaR,zak,zar,zaf,tokz1,lk,zaa,zcL,zcl,zcu,zbm,zbC,zdd,zc5,zb3,-List.map_map]
  ·intro k a p s ha hkT hp hlo hs
   have h10:=s.h
   have hsl:s.l = zdh p:=by rw [hs]; rfl
   have hT:=zrt hv
   have ha1:=ha.1
   have hl1:((a.1.length:Int) - 1).toNat = a.1.length - 1:=by omega
   have hlm:(a.1.map ze1).length = a.1.length:=by simp
   have hlast:=hv.last
   have hl10:=hok.len
   refine zfV (Φ:=P38) (hl:=rfl) rfl (by simp) rfl rfl zaB zn1 (by simp [AV.strip,AV.strip1]) (by simp [AV.strip,AV.strip1]) ?_
   cases c1:zdv t s.l [] t.marks.length
   ·have hnx:zhf t a p = a:=by unfold zhf; rw [← hsl,c1]; rfl
    by_cases he:a.1.length = 0
    ·have he':a.1 = []:=List.length_eq_zero_iff.1 he
     simp (maxSteps:=4000000) only [go_sem,zae,zan,zaa,czb,cza,↓reduceIte,zab,zaG,zay,zcD,zc2,zb4,zbB,zbA,zbi,zcd,zgs,zf6,zp6,zgy,zcQ,zcl,c1,h10,hlm,he',hnx,zdw,zk3,List.take_nil]
     all_goals (repeat' first | (with_reducible first | rfl | apply And.intro | assumption) | ((with_reducible show zaj _ _ = true); rfl)) <;> try first | omega | (simp only [InR]; omega)
     all_goals (try simp [AV.bare,zal,zaN,zaR,zak,zar,zaf,tokz1,lk,zaa,zcL,zcu,zbm,zbC,zdd,zc5,zb3,tbC,-List.map_map])
    ·have hpos:(0:Int) < a.1.length:=by omega
     have hgd:=zax (f:=EncE.cs) (l:=a.1.map ze1) (i:=a.1.length - 1) (by simp; omega)
     simp (maxSteps:=4000000) only [go_sem,zae,zan,zaa,czb,cza,↓reduceIte,zab,zaG,zay,zcD,zc2,zb4,zbB,zbA,zbi,zcd,zgs,zf6,zp6,zgy,zcQ,zcl,c1,h10,hlm,hl1,hpos,hgd,hnx,zdw]
     all_goals (repeat' first | (with_reducible first | rfl | apply And.intro | assumption) | ((with_reducible show zaj _ _ = true); rfl)) <;> try first | omega | (simp only [InR]; omega)
     all_goals (try simp [AV.bare,zal,zaN,zaR,zak,zar,zaf,tokz1,lk,zaa,zcL,zcu,zbm,zbC,zdd,zc5,zb3,tbC,-List.map_map])
   ·by_cases he:a.1.length = 0
    ·have he':a.1 = []:=List.length_eq_zero_iff.1 he
     have hnx:zhf t a p = (a.1 ++ [p],ze0 a.2 p (t.last + 1).toNat):=by unfold zhf; rw [← hsl,c1,he]; rfl
     simp (maxSteps:=4000000) only [go_sem,zae,zan,zaa,czb,cza,↓reduceIte,zab,zaG,zay,zcD,zc2,zb4,zbB,zbA,zbi,zcd,zgs,zf6,zp6,zgy,zcQ,zcl,c1,h10,hlm,he',hnx,zdw,zk3,List.take_nil]
     all_goals (repeat' first | (with_reducible first | rfl | apply And.intro | assumption) | ((with_reducible show zaj _ _ = true); rfl)) <;> try first | omega | (simp only [InR]; omega)
     refine zbG ((t.last + 1).toNat) [] [4,5,7,8,64] (fun i => [(65,.int .i64 i)]) (fun i m => m.set 1 (.map (ze0 a.2 p i) (zb3 (ze0 a.2 p i).length))) (fun _ => True) ?_ ?_ ?_ ?_
     ·trivial
     ·simp [AV.bare,zal,zaN,zaR,zak,zar,zaf,tokz1,lk,zaa,zcL,ze0,zcu,zbm,zbC,zdd,zc5,zdj,zb3,tbC,-List.map_map]
     ·intro i hi _
      have hi':(i:Int) < t.last + 1:=by omega
      have hg:=zfe (l:=s.l) (i:=i) (by omega)
      have hat:at_ s.l i = at_ p i:=by rw [hsl]; exact zgQ (by omega) (by omega)
      have hput:=zmV (ze0 a.2 p i) [(i:Int),at_ p i]
      have hk2:=keyOk2
      have hkl:=zgu (p:=p) ha.2 i
      have hads:addK (ze0 a.2 p i) [(i:Int),at_ p i] = ze0 a.2 p (i + 1):=rfl
      simp (maxSteps:=4000000) only [go_sem,zae,zac,zan,zaa,czb,cza,↓reduceIte,zab,zaG,zay,zcD,zc2,zb4,zbB,zbA,zbi,zcd,hi',hg,hat,hput]
      all_goals (repeat' first | (with_reducible first | rfl | apply And.intro | assumption) | ((with_reducible show zaj _ _ = true); rfl)) <;> try first | omega | (simp only [InR]; omega)
      refine nxt hi trivial ?_
      simp [AV.bare,zal,zaN,zaR,zak,zar,zaf,tokz1,lk,zaa,zcL,hads,zcu,zbm,zbC,zdd,zc5,zdj,zb3,tbC,-List.map_map]
     ·intro _
      have hi':¬ ((((t.last + 1).toNat:Nat):Int) < t.last + 1):=by omega
      simp (maxSteps:=4000000) only [go_sem,zae,zac,zan,zaa,czb,cza,↓reduceIte,zab,zaG,zay,zcD,zc2,zb4,zbB,zbA,zbi,zcd,hi',hs,zf6,zp6]
      all_goals (repeat' first | (with_reducible first | rfl | apply And.intro | assumption) | ((with_reducible show zaj _ _ = true); rfl)) <;> try first | omega | (simp only [InR]; omega)
      all_goals (try simp [AV.bare,zal,zaN,zaR,zak,zar,zaf,tokz1,lk,zaa,zcL,zcu,zbm,zbC,zdd,zc5,zdj,zb3,tbC,-List.map_map])
    ·have hpos:(0:Int) < a.1.length:=by omega
     have hgd:=zax (f:=EncE.cs) (l:=a.1.map ze1) (i:=a.1.length - 1) (by simp; omega)
     have hatm:(at_ (a.1.map ze1) (a.1.length - 1)).l = zdh (at_ a.1 (a.1.length - 1)):=by
      have:a.1.length - 1 < a.1.length:=by omega
      simp [at_,List.getD,this]; rfl
     have hd0:decide (0 < a.1.length) = true:=by simp; omega
     have h10b:=(at_ (a.1.map ze1) (a.1.length - 1)).h
     cases c2:decide ((at_ (a.1.map ze1) (a.1.length - 1)).l = s.l)
     ·have hnx:zhf t a p = (a.1 ++ [p],ze0 a.2 p (t.last + 1).toNat):=by
       unfold zhf
       rw [← hsl,c1,hd0,← hatm,c2]; rfl
      simp (maxSteps:=4000000) only [go_sem,zae,zan,zaa,czb,cza,↓reduceIte,zab,zaG,zay,zcD,zc2,zb4,zbB,zbA,zbi,zcd,zgs,zf6,zp6,zgy,zcQ,zcl,c1,c2,h10,h10b,hlm,hl1,hpos,hgd,hnx,zdw]
      all_goals (repeat' first | (with_reducible first | rfl | apply And.intro | assumption) | ((with_reducible show zaj _ _ = true); rfl)) <;> try first | omega | (simp only [InR]; omega)
      refine zbG ((t.last + 1).toNat) [] [4,5,7,8,64] (fun i => [(65,.int .i64 i)]) (fun i m => m.set 1 (.map (ze0 a.2 p i) (zb3 (ze0 a.2 p i).length))) (fun _ => True) ?_ ?_ ?_ ?_
      ·trivial
      ·simp [AV.bare,zal,zaN,zaR,zak,zar,zaf,tokz1,lk,zaa,zcL,ze0,zcu,zbm,zbC,zdd,zc5,zdj,zb3,tbC,-List.map_map]
      ·intro i hi _
       have hi':(i:Int) < t.last + 1:=by omega
       have hg:=zfe (l:=s.l) (i:=i) (by omega)
       have hat:at_ s.l i = at_ p i:=by rw [hsl]; exact zgQ (by omega) (by omega)
       have hput:=zmV (ze0 a.2 p i) [(i:Int),at_ p i]
       have hk2:=keyOk2
       have hkl:=zgu (p:=p) ha.2 i
       have hads:addK (ze0 a.2 p i) [(i:Int),at_ p i] = ze0 a.2 p (i + 1):=rfl
       simp (maxSteps:=4000000) only [go_sem,zae,zac,zan,zaa,czb,cza,↓reduceIte,zab,zaG,zay,zcD,zc2,zb4,zbB,zbA,zbi,zcd,hi',hg,hat,hput]
       all_goals (repeat' first | (with_reducible first | rfl | apply And.intro | assumption) | ((with_reducible show zaj _ _ = true); rfl)) <;> try first | omega | (simp only [InR]; omega)
       refine nxt hi trivial ?_
       simp [AV.bare,zal,zaN,zaR,zak,zar,zaf,tokz1,lk,zaa,zcL,hads,zcu,zbm,zbC,zdd,zc5,zdj,zb3,tbC,-List.map_map]
      ·intro _
       have hi':¬ ((((t.last + 1).toNat:Nat):Int) < t.last + 1):=by omega
       simp (maxSteps:=4000000) only [go_sem,zae,zac,zan,zaa,czb,cza,↓reduceIte,zab,zaG,zay,zcD,zc2,zb4,zbB,zbA,zbi,zcd,hi',hs,zf6,zp6]
       all_goals (repeat' first | (with_reducible first | rfl | apply And.intro | assumption) | ((with_reducible show zaj _ _ = true); rfl)) <;> try first | omega | (simp only [InR]; omega)
       all_goals (try simp [AV.bare,zal,zaN,zaR,zak,zar,zaf,tokz1,lk,zaa,zcL,zcu,zbm,zbC,zdd,zc5,zdj,zb3,tbC,-List.map_map])
     ·have hnx:zhf t a p = a:=by
       unfold zhf
       rw [← hsl,c1,hd0,← hatm,c2]; rfl
      simp (maxSteps:=4000000) only [go_sem,zae,zan,zaa,czb,cza,↓reduceIte,zab,zaG,zay,zcD,zc2,zb4,zbB,zbA,zbi,zcd,zgs,zf6,zp6,zgy,zcQ,zcl,c1,c2,h10,h10b,hlm,hl1,hpos,hgd,hnx,zdw]
      all_goals (repeat' first | (with_reducible first | rfl | apply And.intro | assumption) | ((with_reducible show zaj _ _ = true); rfl)) <;> try first | omega | (simp only [InR]; omega)
      all_goals (try simp [AV.bare,zal,zaN,zaR,zak,zar,zaf,tokz1,lk,zaa,zcL,zcu,zbm,zbC,zdd,zc5,zb3,tbC,-List.map_map])
  ·refine ⟨?_,?_⟩
   ·have:=h.1
    unfold zhf
    split
    ·simp; omega
    ·omega
   ·unfold zhf
    split
    ·exact zgu h.2 _
    ·exact h.2
 ·show endA _ _ (zcl _ _ _ _ _ _ _ _ (zgL t)) (zaa (zcl _ _ _ _ _ _ _ _ (zgL t)) _)
  generalize zgL t = a
  have hlm:(a.1.map ze1).length = a.1.length:=by simp
  cases c2:decide ((a.1.length:Int) = 0)
  ·have c3:¬ a.1.length = 0:=by simp at c2; intro q; exact c2 (by simpa using q)
   rw [if_neg c3]
   simp (maxSteps:=4000000) only [go_sem,zae,zac,zad,zan,zaq,zaa,czb,cza,↓reduceIte,zab,zaG,zay,zcD,zc2,zb4,zbB,zbA,zbi,zcd,endA,zpF,zgM,zcl,hlm,c2,zeE,wkC]
   refine ⟨rfl,?_⟩
   have hts:∀ (mem:List AObj) (n:Nat),(zb3 n).map (zb5 6 mem) = zb3 n:=fun mem n => by simp [zb3,zb5]
   rw [hts]
  ·have c3:a.1.length = 0:=by simp at c2; simpa using c2
   rw [if_pos c3]
   simp (maxSteps:=4000000) only [go_sem,zae,zac,zad,zan,zaq,zaa,czb,cza,↓reduceIte,zab,zaG,zay,zcD,zc2,zb4,zbB,zbA,zbi,zcd,endA,zpF,zgM,zcl,hlm,c2,zd0]
   rfl
def P39 (g:FuncId):=(zas 122 (zbF (fun (t:Tb) (_:Bool) => t.heights.length ≤ 4096) zkb) (P38):zaJ) g
theorem zsi:zaz Tryz.prog P39:=zah (zaM zuo) (zn1)
theorem zsj (d:Option Nat):zaF P39 d = none:=(zag (by decide) d).trans (zsk d)
attribute [go_sem] P39 zsj
theorem askS_mem {t:Tb} (l:List (List Int)):∀ (a:List (List Int) × List (List Int)),(∀ p ∈ (zdO (fun _ _ => true) (zhf t) a l).1.1,p ∈ a.1 ∨ (p ∈ l ∧ zdv t (zdh p) [] t.marks.length = true)):=by
 induction l with
 | nil => intro a p hp; exact .inl hp
 | cons q l ih =>
  intro a p hp
  simp only [zdO,if_true] at hp
  rcases ih _ p hp with h | h
  ·unfold zhf at h
   split at h
   ·rename_i c
    rcases czv.1 h with h | h
    ·exact .inl h
    ·simp only [czC] at h
     subst h
     simp only [czl] at c
     exact .inr ⟨by simp,c.1⟩
   ·exact .inl h
  ·exact .inr ⟨by simp [h.1],h.2⟩
def zgA (w:Wk) (s:Arr 10) (level:Int):Int :=
 match zko s.l level (w.t.last + 1).toNat with
 | [] => w.t.last + 1
 | x :: _ => x
theorem zmC (w:Wk) (s:Arr 10) (level z:Int) (h:0 ≤ w.t.last ∧ w.t.last ≤ 9):zaP Tryz.prog 124 [Enc.enc w,Enc.enc s,Enc.enc level,Enc.enc z] (· = Enc.enc (zgA w s level)):=by
 have h1:=h.1
 have h2:=h.2
 have h10:=s.h
 unfold zgA
 have hle:=ziW s.l level (w.t.last + 1).toNat
 cases c:zko s.l level (w.t.last + 1).toNat
 ·simp only [zrR,wkC]
  simp only [zcp]
  refine cpz zsi Tryz.func124 zaB ?_
  rw [Tryz.ntmps124]
  simp only [Tryz.f124,zai,zam]
  simp (maxSteps:=4000000) only [go_sem,zae,zac,zad,zan,zaq,zaa,czb,cza,↓reduceIte,zab,zaG,zay,zcD,zc2,zb4,zbB,zbA,zbi,zcd,c,h10]
  all_goals exact auz
 ·rename_i x r
  simp only [zrR,wkC]
  simp only [zcp]
  refine cpz zsi Tryz.func124 zaB ?_
  rw [Tryz.ntmps124]
  simp only [Tryz.f124,zai,zam]
  simp (maxSteps:=4000000) only [go_sem,zae,zac,zad,zan,zaq,zaa,czb,cza,↓reduceIte,zab,zaG,zay,zcD,zc2,zb4,zbB,zbA,zbi,zcd,c,h10,show ((0:Int) < ((r.length + 1:Nat):Int)) by omega]
  all_goals exact auz
def zhk (hour:Int) (r:Rg) (k:List Int):Rg:=if at_ k 0 = hour then zdt r (at_ k 1) else r
def zgF (w:Wk) (hour:Int):Rg:=w.ks.foldl (zhk hour) ⟨at_ (at_ w.truth 0).l hour.toNat,at_ (at_ w.truth 0).l hour.toNat⟩
theorem zs1 (hour:Int) (r:Rg) (a b:List Int):zhk hour (zhk hour r a) b = zhk hour (zhk hour r b) a:=by
 unfold zhk zdt
 by_cases h1:at_ a 0 = hour <;> by_cases h2:at_ b 0 = hour <;> simp only [h1,h2,if_true,if_false,Rg.mk.injEq]
 constructor <;> omega
theorem fold_seen (ks:List (List Int)) (hour:Int) (r0:Rg) (seen:List Nat) (hnd:seen.Nodup) (hlt:∀ i ∈ seen,i < ks.length) (hall:∀ i,i < ks.length → i ∈ seen) :
  seen.foldl (fun r i => zhk hour r (ks.getD i [])) r0 = ks.foldl (zhk hour) r0:=by
 have hp:seen.Perm (List.range ks.length):=(List.perm_ext_iff_of_nodup hnd List.nodup_range).2 fun i => ⟨fun q => by simpa using hlt i q,fun q => hall i (by simpa using q)⟩
 rw [List.Perm.foldl_eq' hp (fun x _ y _ z => zs1 hour z _ _)]
 have e:(List.range ks.length).map (fun i => ks.getD i []) = ks:=by
  apply List.ext_getElem
  ·simp
  ·intro i h1 h2
   simp [List.getD,h2]
 conv => rhs; rw [← e]
 rw [List.foldl_map]
theorem zlX (w:Wk) (hour:Int) (h:(0 ≤ hour ∧ hour ≤ 9) ∧ 0 < w.truth.length ∧ ∀ k ∈ w.ks,k.length = 2):zaP Tryz.prog 127 [Enc.enc w,Enc.enc hour] (· = Enc.enc (zgF w hour)):=by
 obtain ⟨hour,rfl⟩:=czu h.1.1
 have h0:=zax (f:=EncE.cs) h.2.1
 have h10:=(at_ w.truth 0).h
 have hg:=zfe (l:=(at_ w.truth 0).l) (i:=hour) (by omega)
 simp only [zrR,wkC]
 simp only [zcp]
 refine cpz zsi Tryz.func127 zaB ?_
 rw [Tryz.ntmps127]
 simp only [Tryz.f127,zai,zam]
 simp (maxSteps:=4000000) only [go_sem,zae,zac,zad,zan,zaq,zaa,czb,cza,↓reduceIte,zab,zaG,zay,zcD,zc2,zb4,zbB,zbA,zbi,zcd,h0,h10,hg]
 all_goals (repeat' first | (with_reducible first | rfl | apply And.intro | assumption) | ((with_reducible show zaj _ _ = true); rfl)) <;> try first | omega | (simp only [InR]; omega)
 have hkey:∀ i,i < w.ks.length → w.ks.getD i [] = [at_ (w.ks.getD i []) 0,at_ (w.ks.getD i []) 1]:=by
  intro i hi
  have h2:=h.2.2 (w.ks.getD i []) (by simp [List.getD,hi])
  generalize w.ks.getD i [] = k at h2
  match k,h2 with
  | [x,y],_ => rfl
 have hlast:∀ (seen:List Nat) (i:Nat),(seen ++ [i]).getLast? = some i:=fun seen i => by simp
 refine zjN [] [1,4,5,28] (fun _:List Nat => []) (fun seen m => (m.set 1 (.cells (EncE.cs (seen.foldl (fun r i => zhk hour r (w.ks.getD i [])) (⟨at_ (at_ w.truth 0).l hour,at_ (at_ w.truth 0).l hour⟩:Rg))))).set 2 (.iter (.mpr w.ks (zb3 w.ks.length)) w.ks.length seen)) (fun seen => seen.Nodup ∧ ∀ i ∈ seen,i < w.ks.length) (fun seen => w.ks.length - seen.length) ([]) ?_ ?_ ?_
 ·simp
 ·simp [AV.bare,zal,zaN,zaR,zak,zar,zaf,tokz1,lk,zaa,zcL,zhU,zbm,zb3]
 ·intro seen hI
  simp (maxSteps:=4000000) only [go_sem,zae,zac,zad,zan,zaq,zaa,czb,cza,↓reduceIte,zab,zaG,zay,zcD,zc2,zb4,zbB,zbA,zbi,zcd,hlast]
  refine ⟨fun i hi hn => ?_,fun hall => ?_⟩
  ·obtain ⟨x,y,hk⟩:∃ x y,w.ks.getD i [] = [x,y]:=⟨_,_,hkey i hi⟩
   have hfold:(seen ++ [i]).foldl (fun r i => zhk hour r (w.ks.getD i [])) (⟨at_ (at_ w.truth 0).l hour,at_ (at_ w.truth 0).l hour⟩:Rg) = zhk hour (seen.foldl (fun r i => zhk hour r (w.ks.getD i [])) ⟨at_ (at_ w.truth 0).l hour,at_ (at_ w.truth 0).l hour⟩) [x,y]:=by
    rw [List.foldl_append]; simp only [List.foldl_cons,List.foldl_nil,hk]
   have hnd:(seen ++ [i]).Nodup ∧ ∀ j ∈ seen ++ [i],j < w.ks.length:=by
    refine ⟨?_,fun j hj => ?_⟩
    ·rw [List.nodup_append]
     exact ⟨hI.1,by simp,fun a ha b hb => by simp at hb; subst hb; intro q; subst q; exact hn ha⟩
    ·rcases czv.1 hj with hj | hj
     ·exact hI.2 j hj
     ·simp at hj; subst hj; exact hi
   have hlt:seen.length < w.ks.length:=by
    have h1:(seen ++ [i]).length ≤ (List.range w.ks.length).length:=List.Nodup.length_le_of_subset hnd.1 fun j hj => by simpa using hnd.2 j hj
    simp at h1
    omega
   cases c:decide (x = (hour:Int)) <;>
    simp (maxSteps:=4000000) only [go_sem,zae,zac,zad,zan,zaq,zaa,czb,cza,↓reduceIte,zab,zaG,zay,zcD,zc2,zb4,zbB,zbA,zbi,zcd,hk,keyA,c]
   all_goals all_goals (repeat' first | (with_reducible first | rfl | apply And.intro | assumption) | ((with_reducible show zaj _ _ = true); rfl)) <;> try first | omega | (simp only [InR]; omega)
   all_goals
    refine ⟨seen ++ [i],hnd,by simp; omega,zbl ?_⟩
    simp only [hfold]
    simp at c
    simp [AV.bare,zal,zaN,zaR,zak,zar,zaf,tokz1,lk,zaa,zcL,zhk,at_,c,zhU,zbm,zb3]
  ·rw [fold_seen w.ks hour _ seen hI.1 hI.2 hall]
   rfl
def P40 (g:FuncId):=(zas 127 (zbF (fun (w:Wk) (hour:Int) => (0 ≤ hour ∧ hour ≤ 9) ∧ 0 < w.truth.length ∧ ∀ k ∈ w.ks,k.length = 2) zgF) (P39):zaJ) g
theorem P40_ok:zaz Tryz.prog P40:=zah (zaM zlX) (zsi)
theorem zsh (d:Option Nat):zaF P40 d = none:=(zag (by decide) d).trans (zsj d)
attribute [go_sem] P40 zsh
end Go.Proofs
