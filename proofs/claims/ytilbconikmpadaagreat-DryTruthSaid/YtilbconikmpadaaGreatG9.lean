/- The texts S10, S11, S12, S13, S14, S15, joined. -/
import Derived.Test.YtilbconikmpadaaGreatG8
set_option linter.all false
namespace Go.Proofs
open Go.Fs
set_option maxHeartbeats 4000000
set_option maxRecDepth 8000
def zd7 {σ α:Type} (go:σ → α → Bool) (next:σ → α → σ):σ → List α → σ × Bool
 | a,[] => (a,true)
 | a,p :: r => if go a p then zd7 go next (next a p) r else (next a p,false)
theorem ze1 {σ α:Type} (go:σ → α → Bool) (next:σ → α → σ):∀ (x y:List α) (a:σ),zd7 go next a (x ++ y) = if (zd7 go next a x).2 then zd7 go next (zd7 go next a x).1 y else zd7 go next a x
 | [],y,a => rfl
 | p :: x,y,a => by
  simp only [czs,zd7]
  split
  ·exact ze1 go next x y _
  ·rfl
def zgr (t:Tb):Nat → List Int → List (List Int)
 | 0,p => [p]
 | f + 1,p => (List.range (szR (at_ t.heights p.length)).toNat).flatMap fun n:Nat =>
   let q:=p ++ [(at_ t.heights p.length).lo + n]
   if zdp t q p.length then zgr t f q else []
def zlX (t:Tb):List (List Int):=zgr t (t.last + 1).toNat []
def zoz (t:Tb) (f:Nat) (p:List Int) (n:Nat):List (List Int):=(List.range n).flatMap fun n:Nat =>
   let q:=p ++ [(at_ t.heights p.length).lo + n]
   if zdp t q p.length then zgr t f q else []
theorem zkF (t:Tb) (f:Nat) (p:List Int) (n:Nat):zoz t f p (n + 1) = zoz t f p n ++ (if zdp t (p ++ [(at_ t.heights p.length).lo + n]) p.length then zgr t f (p ++ [(at_ t.heights p.length).lo + n]) else []):=by
 simp only [zoz,List.range_succ,List.flatMap_append,List.flatMap_cons,List.flatMap_nil,List.append_nil]
def tbC (t:Tb):List AV:=[.int .i64 t.last,.sl (t.heights.map EncE.cs) .no,.int .i64 t.step,.sl (t.levels.map EncE.cs) .no,.sl (t.marks.map EncE.cs) .no]
def zhb (t:Tb) (m0 l:Nat) (s:Arr 10):List AObj:=[.cells [.yld l],.cells (s.l.map (AV.int .i64)),.cells [.fn (.func 176) [] [.ref (tbC t) 0,.ptr m0 0,.ptr (m0 + 1) 0,.ptr (m0 + 2) 0]]]
theorem zaQ (m r:List AObj) (k:Nat):zab (m ++ r) (m.length + k) = zab r k:=by
 simp [zab,List.getD,czj]
theorem zb2 (m r:List AObj) (k:Nat) (o:AObj):(m ++ r).set (m.length + k) o = m ++ r.set k o:=by
 simp
theorem za1:∀ l:List AObj,zak l l
 | [] => trivial
 | a :: l => ⟨rfl,za1 l⟩
theorem zbx {k:Nat}:∀ {l:List AObj},(∀ o ∈ l,zcd k o) → zaS k l
 | [],_ => trivial
 | a :: l,h => ⟨h a (by simp),zbx fun o ho => h o (by simp [ho])⟩
section
variable {σ:Type} {M:σ → List AObj} {m0 l:Nat} {t:Tb} {go:σ → List Int → Bool} {next:σ → List Int → σ} {Rdy:Nat → σ → Prop} {T:Nat}
structure Iter (M:σ → List AObj) (m0 l:Nat) (t:Tb) (go:σ → List Int → Bool) (next:σ → List Int → σ) (Rdy:Nat → σ → Prop) (T:Nat):Prop where
 len:∀ a,(M a).length = m0
 lt:l < m0
 ok:∀ a,∀ o ∈ M a,zcd m0 o
 yield:∀ k a p s,Rdy k a → k < T → p.length = (t.last + 1).toNat → LOk p → s = zft p → zuA Tryz.prog l [.agg (s.l.map (AV.int .i64))] (M a ++ zhb t m0 l s) (fun r mem' => r = .bool (go a p) ∧ mem' = M (next a p) ++ zhb t m0 l s)
 rdy:∀ k a p,Rdy k a → k < T → go a p = true → Rdy (k + 1) (next a p)
theorem zht {k k':Nat} (hk:k ≤ k'):∀ (n:Nat) (v:AV),bel k n v → bel k' n v
 | 0,v,h => by simp [bel] at h
 | n + 1,v,h => by
  have ih:∀ c,bel k n c → bel k' n c:=fun c hc => zht hk n c hc
  cases v <;> simp only [bel] at h ⊢
  ·exact fun c hc => ih c (h c hc)
  ·exact fun c hc => ih c (h c hc)
  ·refine ⟨fun e he c hc => ih c (h.1 e he c hc),?_⟩
   have:=h.2
   split <;> simp_all <;> omega
  ·exact fun c hc => ih c (h c hc)
  ·omega
  ·omega
  ·exact ⟨fun c hc => ih c (h.1 c hc),fun c hc => ih c (h.2 c hc)⟩
  ·exact fun c hc => ih c (h c hc)
  ·omega
  ·omega
  ·exact ih _ h
  ·omega
  ·omega
theorem zdi {k k':Nat} (hk:k ≤ k') (o:AObj) (h:zcd k o):zcd k' o:=by
 cases o <;> simp only [zcd] at h ⊢
 ·exact fun c hc => zht hk 9 c (h c hc)
 ·exact fun c hc => zht hk 9 _ (h c hc)
 ·exact fun c hc => zht hk 9 c (h c hc)
 ·exact zht hk 9 _ h
 ·exact fun e he c hc => zht hk 9 c (h e he c hc)
theorem zi7 (hi:Iter M m0 l t go next Rdy T) (a:σ) (s:Arr 10):∀ o ∈ M a ++ zhb t m0 l s,zcd (M a ++ zhb t m0 l s).length o:=by
 have hlen:(M a ++ zhb t m0 l s).length = m0 + 3:=by simp [hi.len a,zhb]
 rw [hlen]
 intro o ho
 rcases czv.1 ho with h | h
 ·exact zdi (by omega) o (hi.ok a o h)
 ·have:=hi.lt
  simp only [zhb,czn,czk,or_false] at h
  rcases h with rfl | rfl | rfl
  ·simp [zcd,bel]; omega
  ·simp [zcd,bel]
  ·simp only [zcd,tbC,czn,czk,or_false,forall_eq_or_imp,forall_eq,AV.bare,zal,zaP,zaS,zak,zau,zag,tokz1,lk,zab,zcW]
   simp
   refine ⟨?_,?_,?_⟩ <;> simp [AV.bare,zal,zaP,zaS,zak,zau,zag,tokz1,lk,zab,zcW]
def Good (t:Tb) (s:Arr 10):Prop:=LOk s.l ∧ s.l.drop (t.last + 1).toNat = List.replicate (10 - (t.last + 1).toNat) 0
theorem zh2 {l:List Int} {k:Nat} (h:k < l.length) (v:Int):(l.set k v).take (k + 1) = l.take k ++ [v]:=by
 have:k < (l.set k v).length:=by simpa using h
 rw [zaX this,List.take_set_of_le (czf k)]
 simp [at_,List.getD,h]
theorem at_take {l:List Int} {n i:Nat} (h:i < n):at_ (l.take n) i = at_ l i:=by
 simp [at_,List.getD,czR,h]
theorem zhK (t:Tb) (f:Nat) (p:List Int) (n:Nat):∀ k,∃ r,zoz t f p (n + k) = zoz t f p n ++ r
 | 0 => ⟨[],by simp⟩
 | k + 1 => by
  obtain ⟨r,hr⟩:=zhK t f p n k
  exact ⟨r ++ _,by rw [← Nat.add_assoc,zkF,hr,czd]⟩
theorem zsF (hi:Iter M m0 l t go next Rdy T) (hok:HOk t) (hl:(t.heights.length:Int) = t.last + 1):∀ (f:Nat) (p:List Int) (s:Arr 10) (a:σ) (k:Nat),p.length + f = (t.last + 1).toNat → s.l.take p.length = p → Good t s → Rdy k a → k + (zgr t f p).length ≤ T →
  zgq Tryz.prog 176 [.int .i64 p.length,.ref (tbC t) 0,.ptr m0 0,.ptr (m0 + 1) 0,.ptr (m0 + 2) 0] (M a ++ zhb t m0 l s)
   (fun r mem' => ∃ s',s'.l.take p.length = p ∧ Good t s' ∧ r = .bool (zd7 go next a (zgr t f p)).2 ∧ mem' = M (zd7 go next a (zgr t f p)).1 ++ zhb t m0 l s' ∧ ((zd7 go next a (zgr t f p)).2 = true → Rdy (k + (zgr t f p).length) (zd7 go next a (zgr t f p)).1)):=by
 intro f
 induction f with
 | zero =>
  intro p s a k hf hp hg hr hT
  have hll:t.last < (p.length:Int):=by omega
  have hlp:LOk p:=⟨by rw [← hp]; simp; have:=s.h; omega,fun x hx => hg.1.b x (by rw [← hp] at hx; exact List.mem_of_mem_take hx)⟩
  have hsp:s = zft p:=by
   refine Arr.ext ?_
   show s.l = zdv p
   have h10:=s.h
   have hq:p.length = (t.last + 1).toNat:=by omega
   have hlen:p.length ≤ 10:=by have:=hok.len; omega
   rw [← List.take_append_drop p.length s.l,hp,hq,hg.2]
   unfold zdv
   rw [cze hlen,← hq]
  refine zck (Φ:=P34) Tryz.func176 rfl (by rfl) (by rw [Tryz.ntmps176]; simp) zaF zp3 (by simp [AV.strip,AV.strip1]) ?_
  rw [Tryz.ntmps176]
  simp only [Tryz.f176,zah,zaq]
  have e0:zab (M a ++ zhb t m0 l s) m0 = .cells [.yld l]:=by rw [← hi.len a]; exact zaQ _ _ 0
  have e1:zab (M a ++ zhb t m0 l s) (m0 + 1) = .cells (s.l.map (AV.int .i64)):=by rw [← hi.len a]; exact zaQ _ _ 1
  simp (maxSteps:=4000000) only [go_sem,AV.one,zae,zac,zad,zap,zas,czb,cza,↓reduceIte,e0,e1,tbC,hll]
  refine ⟨by have:=s.h; omega,_,hi.yield k a p s hr (by simp only [zgr,cza,czy] at hT; omega) (by omega) hlp hsp,?_⟩
  rintro r mem' ⟨rfl,rfl⟩ hlen
  have hr1:zd7 go next a (zgr t 0 p) = (next a p,go a p):=by
   simp only [zgr,zd7]
   cases go a p <;> rfl
  rw [hr1]
  refine ⟨trivial,trivial,⟨s,hp,hg,rfl,?_,fun q => hi.rdy k a p hr (by simp only [zgr,cza,czy] at hT; omega) q⟩,trivial,?_⟩
  ·rw [cze (Nat.le_of_eq hlen)]
  ·rw [cze (Nat.le_of_eq hlen),← hlen]
   exact zi7 hi _ _
 | succ f ih =>
  intro p s a k hf hp hg hr hT
  have hpl:p.length < t.heights.length:=by omega
  have hrg:=hok.h _ (zbb hpl)
  have hll:¬ (t.last < (p.length:Int)):=by omega
  refine zck (Φ:=P34) Tryz.func176 rfl (by rfl) (by rw [Tryz.ntmps176]; simp) zaF zp3 (by simp [AV.strip,AV.strip1]) ?_
  rw [Tryz.ntmps176]
  simp only [Tryz.f176,zah,zaq]
  simp (maxSteps:=4000000) only [go_sem,AV.one,zae,zac,zad,zap,zas,czb,cza,↓reduceIte,tbC,hll,zat hpl]
  refine ⟨⟨by omega,by omega⟩,⟨(by simp only [InR]; omega),(by simp only [InR]; omega)⟩,?_⟩
  refine zk6 [] [0,1,3,4,6,20] (fun b:Nat × σ × Arr 10 => [(21,.int .i64 b.1)]) (fun b _ => M b.2.1 ++ zhb t m0 l b.2.2) (fun b => b.1 ≤ (szR (at_ t.heights p.length)).toNat ∧ b.2.2.l.take p.length = p ∧ Good t b.2.2 ∧ zd7 go next a (zoz t f p b.1) = (b.2.1,true) ∧ Rdy (k + (zoz t f p b.1).length) b.2.1) (fun b => (szR (at_ t.heights p.length)).toNat - b.1) ((0,a,s)) ?_ ?_ ?_
  ·exact ⟨Nat.zero_le _,hp,hg,rfl,hr⟩
  ·refine ⟨rfl,rfl,rfl,czf _,za1 _,?_,zbx (zi7 hi a s),trivial⟩
   have hlen:(M a ++ zhb t m0 l s).length = m0 + 3:=by simp [hi.len a,zhb]
   show zaP _ (M a ++ zhb t m0 l s).length _
   rw [hlen]
   simp [AV.bare,zal,zaP,zaS,zak,zau,zag,tokz1,lk,zab,zcW]
  ·rintro ⟨n,b,s'⟩ ⟨hn,hp',hg',hrun,hrb⟩
   simp only at hn hp' hg' hrun hrb
   have e0:zab (M b ++ zhb t m0 l s') m0 = .cells [.yld l]:=by rw [← hi.len b]; exact zaQ _ _ 0
   have e1:zab (M b ++ zhb t m0 l s') (m0 + 1) = .cells (s'.l.map (AV.int .i64)):=by rw [← hi.len b]; exact zaQ _ _ 1
   have hph:p.length < s'.l.length:=by have:=s'.h; have:=hok.len; omega
   by_cases hnN:(n:Int) < szR (at_ t.heights p.length)
   ·obtain ⟨s1,hs1⟩:∃ s1:Arr 10,s1.l = s'.l.set p.length ((at_ t.heights p.length).lo + n):=⟨⟨_,by simp [s'.h]⟩,rfl⟩
    have eset:(M b ++ zhb t m0 l s').set (m0 + 1) (AObj.cells ((s'.l.set p.length ((at_ t.heights p.length).lo + n)).map (AV.int .i64))) = M b ++ zhb t m0 l s1:=by
     rw [← hi.len b,zb2,← hs1]; rfl
    have e1':zab (M b ++ zhb t m0 l s1) (m0 + 1) = .cells (s1.l.map (AV.int .i64)):=by rw [← hi.len b]; exact zaQ _ _ 1
    have e2':zab (M b ++ zhb t m0 l s1) (m0 + 2) = .cells [.fn (.func 176) [] [.ref (tbC t) 0,.ptr m0 0,.ptr (m0 + 1) 0,.ptr (m0 + 2) 0]]:=by rw [← hi.len b]; exact zaQ _ _ 2
    have hov:=fun v => zoW hph v
    have hv:0 ≤ (at_ t.heights p.length).lo + n ∧ (at_ t.heights p.length).lo + n ≤ 99:=by unfold szR at hnN; omega
    have hkl:p.length < (t.last + 1).toNat:=by omega
    have ht1:s1.l.take (p.length + 1) = p ++ [(at_ t.heights p.length).lo + n]:=by rw [hs1,zh2 hph,hp']
    have hpq:(p ++ [(at_ t.heights p.length).lo + (n:Int)]).length = p.length + 1:=by simp
    have hat:∀ i,i < p.length + 1 → at_ s1.l i = at_ (p ++ [(at_ t.heights p.length).lo + (n:Int)]) i:=fun i h => by rw [← ht1,at_take h]
    have hgs1:Good t s1:=by
     refine ⟨⟨by rw [s1.h]; omega,fun x hx => ?_⟩,?_⟩
     ·rw [hs1] at hx
      rcases List.mem_or_eq_of_mem_set hx with h | h
      ·exact hg'.1.b x h
      ·rw [h]; exact hv
     ·rw [hs1,List.drop_set_of_lt hkl]; exact hg'.2
    have hnear:zdp t s1.l p.length = zdp t (p ++ [(at_ t.heights p.length).lo + (n:Int)]) p.length:=by
     unfold zdp
     rw [hat _ (by omega),hat _ (by omega)]
    have hl10:=hok.len
    have hb1:=hgs1.1.b _ (zbb (l:=s1.l) (i:=p.length) (by have:=s1.h; omega))
    have hb2:=hgs1.1.b _ (zbb (l:=s1.l) (i:=((p.length:Int) - 1).toNat) (by have:=s1.h; omega))
    have hs0:=hok.s0
    have hs9:=hok.s1
    have h1:=s1.h
    have hsn:=zkF t f p n
    have hrn:zd7 go next a (zoz t f p (n + 1)) = zd7 go next b (if zdp t s1.l p.length then zgr t f (p ++ [(at_ t.heights p.length).lo + n]) else []):=by
     rw [hsn,ze1,hrun,← hnear]; rfl
    have hlenb:∀ (b:σ) (s:Arr 10),(M b ++ zhb t m0 l s).length = m0 + 3:=fun b s => by simp [hi.len b,zhb]
    have hpre:(zoz t f p (n + 1)).length ≤ (zgr t (f + 1) p).length:=by
     obtain ⟨r,hr⟩:=zhK t f p (n + 1) ((szR (at_ t.heights p.length)).toNat - (n + 1))
     rw [show n + 1 + ((szR (at_ t.heights p.length)).toNat - (n + 1)) = (szR (at_ t.heights p.length)).toNat by omega] at hr
     rw [show zgr t (f + 1) p = zoz t f p (szR (at_ t.heights p.length)).toNat from rfl,hr,czc]
     omega
    have hn1:n + 1 ≤ (szR (at_ t.heights p.length)).toNat:=by omega
    have hnN':=hnN
    unfold szR at hnN
    cases c:zdp t s1.l p.length
    ·rw [c] at hrn
     simp (maxSteps:=4000000) only [go_sem,AV.one,zae,zac,zad,zas,czb,cza,↓reduceIte,e0,e1,e1',e2',eset,hov,tbC,hnN,zat hpl,c]
     all_goals (repeat' first | (with_reducible first | rfl | apply And.intro | assumption) | ((with_reducible show zaf _ _ = true); rfl)) <;> try first | omega | (simp only [InR]; omega)
     rw [← hnear,c,if_neg (by simp),List.append_nil] at hsn
     refine ⟨(n + 1,b,s1),⟨hn1,?_,hgs1,hrn,by dsimp only; rw [hsn]; exact hrb⟩,by dsimp only; omega,?_⟩
     ·have:=congrArg (List.take p.length) ht1
      rw [List.take_take] at this
      simpa using this
     ·refine zbo ⟨rfl,rfl,rfl,Nat.le_of_eq (by dsimp only [zag]; rw [hlenb,hlenb]),za1 _,?_,zbx (zi7 hi b s1),trivial⟩
      simp [AV.bare,zal,zaP,zaS,zak,zau,zag,tokz1,lk,zab,zcW,hi.len b,zhb]
    ·rw [c] at hrn
     simp (maxSteps:=4000000) only [go_sem,AV.one,zae,zac,zad,zas,czb,cza,↓reduceIte,e0,e1,e1',e2',eset,hov,tbC,hnN,zat hpl,c]
     all_goals (repeat' first | (with_reducible first | rfl | apply And.intro | assumption) | ((with_reducible show zaf _ _ = true); rfl)) <;> try first | omega | (simp only [InR]; omega)
     rw [← hnear,c,if_pos rfl] at hsn
     have hlen2:=congrArg List.length hsn
     rw [czc] at hlen2
     have ihq:=ih (p ++ [(at_ t.heights p.length).lo + n]) s1 b (k + (zoz t f p n).length) (by rw [hpq]; omega) (by rw [hpq]; exact ht1) hgs1 hrb (by omega)
     rw [hpq,show ((p.length + 1:Nat):Int) = (p.length:Int) + 1 by omega] at ihq
     refine ⟨_,zbK ihq,?_⟩
     rintro r mem' ⟨r0,rfl,⟨s2,k1,k2,rfl,rfl,k5⟩,hlen⟩ _
     have hts2:s2.l.take p.length = p:=by
      have:=congrArg (List.take p.length) k1
      rw [List.take_take] at this
      simpa using this
     cases c2:(zd7 go next b (zgr t f (p ++ [(at_ t.heights p.length).lo + n]))).2
     all_goals
      simp (maxSteps:=4000000) only [go_sem,AV.one,zae,zac,zad,zap,zas,czb,cza,↓reduceIte,c2]
      all_goals (repeat' first | (with_reducible first | rfl | apply And.intro | assumption) | ((with_reducible show zaf _ _ = true); rfl)) <;> try first | omega | (simp only [InR]; omega)
     ·have hW:zd7 go next a (zgr t (f + 1) p) = zd7 go next b (zgr t f (p ++ [(at_ t.heights p.length).lo + (n:Int)])):=by
       obtain ⟨r,hr⟩:=zhK t f p (n + 1) ((szR (at_ t.heights p.length)).toNat - (n + 1))
       rw [show n + 1 + ((szR (at_ t.heights p.length)).toNat - (n + 1)) = (szR (at_ t.heights p.length)).toNat by omega] at hr
       rw [show zgr t (f + 1) p = zoz t f p (szR (at_ t.heights p.length)).toNat from rfl,hr,ze1,hrn,if_pos rfl,c2,if_neg (by simp)]
      rw [hW]
      refine ⟨s2,hts2,k2,by rw [c2],?_,fun q => by rw [c2] at q; cases q⟩
      rw [cze (by rw [hlenb,hlenb]; omega)]
     ·trivial
     ·rw [cze (by rw [hlenb,hlenb]; omega)]
      have:=zi7 hi (zd7 go next b (zgr t f (p ++ [(at_ t.heights p.length).lo + (n:Int)]))).1 s2
      rw [hlenb] at this ⊢
      exact this
     ·refine ⟨(n + 1,(zd7 go next b (zgr t f (p ++ [(at_ t.heights p.length).lo + (n:Int)]))).1,s2),⟨hn1,hts2,k2,?_,by dsimp only; rw [hlen2,← Nat.add_assoc]; exact k5 c2⟩,by dsimp only; omega,?_⟩
      ·rw [hrn,if_pos rfl,← c2]
      ·refine zbo ⟨rfl,rfl,rfl,Nat.le_of_eq (by dsimp only [zag]; rw [hlenb,hlenb]),za1 _,?_,zbx (zi7 hi _ s2),trivial⟩
       simp [AV.bare,zal,zaP,zaS,zak,zau,zag,tokz1,lk,zab,zcW,hi.len,zhb]
   ·have hN:n = (szR (at_ t.heights p.length)).toNat:=by omega
    have hW:zd7 go next a (zgr t (f + 1) p) = (b,true):=by
     rw [show zgr t (f + 1) p = zoz t f p (szR (at_ t.heights p.length)).toNat from rfl,← hN,hrun]
    unfold szR at hnN
    simp (maxSteps:=4000000) only [go_sem,AV.one,zae,zac,zad,zap,zas,czb,cza,↓reduceIte,hnN]
    have hlenb:∀ (b:σ) (s:Arr 10),(M b ++ zhb t m0 l s).length = m0 + 3:=fun b s => by simp [hi.len b,zhb]
    rw [hW]
    have hok2:=zi7 hi b s'
    rw [cze (by rw [hlenb,hlenb]; omega)]
    rw [hlenb] at hok2 ⊢
    exact ⟨⟨s',hp',hg',rfl,rfl,fun _ => by rw [show zgr t (f + 1) p = zoz t f p (szR (at_ t.heights p.length)).toNat from rfl,← hN]; exact hrb⟩,trivial,hok2⟩
theorem zrZ (hi:Iter M m0 l t go next Rdy T) (hok:HOk t) (hl:(t.heights.length:Int) = t.last + 1) (a:σ) (hr:Rdy 0 a) (hT:(zlX t).length ≤ T) :
  zgq Tryz.prog 175 [.yld l,.ref (tbC t) 0] (M a) (fun r mem' => mem' = M (zd7 go next a (zlX t)).1):=by
 refine zck (Φ:=P34) Tryz.func175 rfl (by rfl) (by rw [Tryz.ntmps175]; simp) zaF zp3 (by simp [AV.strip,AV.strip1]) ?_
 rw [Tryz.ntmps175]
 simp only [Tryz.f175,zah,zaq]
 have hla:=hi.len a
 have f2:∀ x y z:AObj,zab (M a ++ [x,y,z]) (m0 + 2) = z:=fun x y z => by rw [← hla]; exact zaQ _ _ 2
 have fset:∀ x y z o:AObj,(M a ++ [x,y,z]).set (m0 + 2) o = M a ++ [x,y,o]:=fun x y z o => by rw [← hla,zb2]; rfl
 have hgz:Good t zeroA10:=by
  refine ⟨⟨by rw [zeroA10.h]; omega,fun x hx => ?_⟩,?_⟩
  ·have:=(czL.1 hx).2
   subst this; omega
  ·show List.drop _ (List.replicate 10 0) = _
   rw [List.drop_replicate]
 have hc:=zsF hi hok hl (t.last + 1).toNat [] zeroA10 a 0 (by simp) rfl hgz hr (by rw [Nat.zero_add]; exact hT)
 simp (maxSteps:=4000000) only [go_sem,AV.one,zae,zac,zad,zap,zas,czb,cza,↓reduceIte,czd,czc,hla,f2,fset]
 refine ⟨_,zbK hc,?_⟩
 rintro r mem' ⟨r0,rfl,⟨s',h1,h2,rfl,rfl,h5⟩,hlen⟩ _
 have ht:List.take m0 (M (zd7 go next a (zgr t (t.last + 1).toNat [])).1 ++ zhb t m0 l s') = M (zd7 go next a (zgr t (t.last + 1).toNat [])).1:=by
  rw [List.take_append_of_le_length (by rw [hi.len]; omega),cze (by rw [hi.len]; omega)]
 rw [ht]
 exact ⟨rfl,by simp [bel],hi.ok _⟩
end
theorem zv7 (t:Tb):zaU Tryz.prog 154 [Enc.enc t] (· = .fn (.func 175) [] [.ref (tbC t) 0]):=by
 simp only [zcw]
 refine cpz zp3 Tryz.func154 zaF ?_
 rw [Tryz.ntmps154]
 simp only [Tryz.f154,zah,zaq]
 simp (maxSteps:=4000000) only [go_sem,AV.one,zae,zac,zad,zap,zas,zab,czb,cza,↓reduceIte,tbC]
structure IterV where
 t:Tb
instance:Enc IterV where
 enc x:=.fn (.func 175) [] [.ref (tbC x.t) 0]
 dec _:=none
 law v x h:=by cases h
 dep:=4
 ok x:=by
  simp only [zbt,tbC,czn,czk,or_false,forall_eq_or_imp,forall_eq,true_and,czx,forall_exists_index,and_imp,forall_apply_eq_imp_iff₂]
  exact ⟨fun _ h => h.elim,fun a _ => EncE.ok a,fun a _ => EncE.ok a,fun a _ => EncE.ok a⟩
theorem zaL (x:IterV):Enc.enc x = .fn (.func 175) [] [.ref (tbC x.t) 0]:=rfl
def P35 (g:FuncId):=(zax 154 (zcU (fun _ => True) IterV.mk) (P34):zaN) g
theorem zgl:zaD Tryz.prog P35:=zaj (zbm fun t _ => zv7 t) (zp3)
theorem zuR (d:Option Nat):zaK P35 d = none:=(zai (by decide) d).trans (zuS d)
attribute [go_sem] P35 zuR
theorem zoX {t:Tb} {q:List Int} {x:Int} (h10:q.length < 10):zcu t.step (q ++ [x]) = (zcu t.step q && zdp t (q ++ [x]) q.length):=by
 have h:=zkU (t:=t) (l:=q ++ [x]) (i:=q.length) (by simp) h10
 rw [cze (by simp),List.take_left] at h
 rw [h]
 congr 1
 unfold zdp
 rw [zhy (by simp) (by simpa using h10),zhy (by simp; omega) (by omega)]
theorem zipB_snoc {q:List Int} {hs:List Rg} {x:Int} (h:q.length < hs.length):zgs (q ++ [x]) hs = zgs q hs ++ [inB x (at_ hs q.length).lo (at_ hs q.length).hi]:=by
 induction q generalizing hs with
 | nil =>
  cases hs with
  | nil => simp at h
  | cons r hs => rfl
 | cons y q ih =>
  cases hs with
  | nil => simp at h
  | cons r hs =>
   have:=ih (hs:=hs) (by simpa using h)
   simp only [zgs,czs,List.zipWith_cons_cons] at this ⊢
   rw [this]; rfl
theorem listed_at {t:Tb} {p:List Int} (h:za3 t p = true) {i:Nat} (hi:i < p.length):(at_ t.heights i).lo ≤ at_ p i ∧ at_ p i ≤ (at_ t.heights i).hi:=by
 have hl:=zbI h
 simp only [za3,czl] at h
 have hz:i < (zgs p t.heights).length:=by rw [zfe]; omega
 have:=czG.1 h.1 _ (zbb hz)
 rw [zhF hi (by omega)] at this
 exact (zbn _ _ _).1 this
theorem zt3 {t:Tb} (hok:HOk t):∀ (f:Nat) (q p:List Int),q.length + f = t.heights.length → zcu t.step q = true → (zgs q t.heights).all id = true → (p ∈ zgr t f q ↔ za3 t p = true ∧ p.take q.length = q)
 | 0,q,p,hf,hn,hz => by
  simp only [zgr,czC]
  constructor
  ·rintro rfl
   refine ⟨?_,czm⟩
   simp only [za3,hz,hn]
   simp; omega
  ·rintro ⟨h,ht⟩
   have:=zbI h
   rw [← ht,cze (by omega)]
 | f + 1,q,p,hf,hn,hz => by
  have hk:q.length < t.heights.length:=by omega
  have h10:=hok.len
  have key:∀ x:Int,inB x (at_ t.heights q.length).lo (at_ t.heights q.length).hi = true → zdp t (q ++ [x]) q.length = true → (p ∈ zgr t f (q ++ [x]) ↔ za3 t p = true ∧ p.take (q.length + 1) = q ++ [x]):=by
   intro x h1 h2
   have:=zt3 hok f (q ++ [x]) p (by simp; omega) (by rw [zoX (by omega),hn,h2]; rfl) (by rw [zipB_snoc hk,List.all_append,hz]; simp [h1])
   simpa using this
  simp only [zgr,List.mem_flatMap,List.mem_range]
  constructor
  ·rintro ⟨n,hn1,hp⟩
   have hr:inB ((at_ t.heights q.length).lo + n) (at_ t.heights q.length).lo (at_ t.heights q.length).hi = true:=by
    rw [zbn]; unfold szR at hn1; omega
   split at hp
   ·rename_i hnear
    obtain ⟨g1,g2⟩:=(key _ hr hnear).1 hp
    refine ⟨g1,?_⟩
    have:=congrArg (List.take q.length) g2
    rw [List.take_take] at this
    simpa using this
   ·cases hp
  ·rintro ⟨g1,g2⟩
   have hl:=zbI g1
   have hpk:q.length < p.length:=by omega
   have hat:=listed_at g1 hpk
   have htk:p.take (q.length + 1) = q ++ [at_ p q.length]:=by rw [zaX hpk,g2]
   have hnear:zdp t (q ++ [at_ p q.length]) q.length = true:=by
    have h1:zcu t.step p = true:=by simp only [za3,czl] at g1; exact g1.2.2
    have h2:=zja t.step p (q.length + 1) h1
    rw [htk,zoX (by omega),hn] at h2
    simpa using h2
   refine ⟨(at_ p q.length - (at_ t.heights q.length).lo).toNat,by unfold szR; omega,?_⟩
   have e:(at_ t.heights q.length).lo + (((at_ p q.length - (at_ t.heights q.length).lo).toNat:Nat):Int) = at_ p q.length:=by omega
   simp only [e]
   rw [if_pos hnear]
   exact (key _ ((zbn _ _ _).2 hat) hnear).2 ⟨g1,htk⟩
theorem zkf {t:Tb} (hok:HOk t) (hl:(t.heights.length:Int) = t.last + 1) (p:List Int):p ∈ zlX t ↔ za3 t p = true:=by
 unfold zlX
 rw [zt3 hok _ [] p (by simp; omega) (by rfl) (by rfl)]
 simp
def zcI (l:List Rg):Int:=l.foldr (fun r n => szR r * n) 1
theorem zfE (l:List Rg) (h:∀ r ∈ l,r.lo ≤ r.hi):∀ n:Int,1 ≤ n → n ≤ 3000 → l.foldl (fun n r => min 3000 (n * (r.hi - r.lo + 1))) n = min 3000 (n * zcI l) ∧ 1 ≤ zcI l:=by
 induction l with
 | nil => intro n h1 h2; simp [zcI]; omega
 | cons r l ih =>
  intro n h1 h2
  have hr:=h r (by simp)
  have hs:1 ≤ r.hi - r.lo + 1:=by omega
  have hns:1 ≤ n * (r.hi - r.lo + 1):=by
   have:=Int.mul_le_mul h1 hs (by omega) (by omega)
   omega
  obtain ⟨e1,e2⟩:=ih (fun r hr => h r (by simp [hr])) (min 3000 (n * (r.hi - r.lo + 1))) (by omega) (by omega)
  have hp:zcI (r :: l) = (r.hi - r.lo + 1) * zcI l:=rfl
  refine ⟨?_,?_⟩
  ·simp only [List.foldl_cons]
   rw [e1,hp,← Int.mul_assoc]
   by_cases c:n * (r.hi - r.lo + 1) ≤ 3000
   ·rw [Int.min_eq_right c]
   ·have c1:min 3000 (n * (r.hi - r.lo + 1)) = 3000:=by omega
    rw [c1]
    have g1:3000 ≤ 3000 * zcI l:=by omega
    have g2:n * (r.hi - r.lo + 1) ≤ n * (r.hi - r.lo + 1) * zcI l:=by
     have:=Int.mul_le_mul_of_nonneg_left e2 (show 0 ≤ n * (r.hi - r.lo + 1) by omega)
     omega
    omega
  ·rw [hp]
   have:=Int.mul_le_mul hs e2 (by omega) (by omega)
   omega
theorem nth_mem (l:List Rg) (h:∀ r ∈ l,r.lo ≤ r.hi):∀ (p:List Int),p.length = l.length → (zgs p l).all id = true → ∃ n:Int,0 ≤ n ∧ n < zcI l ∧ zis l n = p:=by
 induction l with
 | nil => intro p hp _; exact ⟨0,by omega,by simp [zcI],by cases p <;> simp_all [zis]⟩
 | cons r l ih =>
  intro p hp hz
  cases p with
  | nil => simp at hp
  | cons x p =>
   have hz':inB x r.lo r.hi = true ∧ (zgs p l).all id = true:=by
    simpa [zgs] using hz
   obtain ⟨n,h1,h2,h3⟩:=ih (fun r hr => h r (by simp [hr])) p (by simpa using hp) hz'.2
   have hx:=(zbn _ _ _).1 hz'.1
   have hs:0 < szR r:=by unfold szR; omega
   refine ⟨(x - r.lo) + szR r * n,?_,?_,?_⟩
   ·have:=Int.mul_nonneg (show 0 ≤ szR r by omega) h1
    omega
   ·show _ < szR r * zcI l
    have:szR r * n + szR r ≤ szR r * zcI l:=by
     have:=Int.mul_le_mul_of_nonneg_left (show n + 1 ≤ zcI l by omega) (show 0 ≤ szR r by omega)
     rw [Int.mul_add,Int.mul_one] at this
     exact this
    unfold szR at this ⊢
    omega
   ·have e1:((x - r.lo) + szR r * n) % szR r = x - r.lo:=by
     rw [Int.add_mul_emod_self_left]
     exact Int.emod_eq_of_lt (by omega) (by unfold szR; omega)
    have e2:((x - r.lo) + szR r * n) / szR r = n:=by
     rw [Int.add_mul_ediv_left _ _ (by omega),Int.ediv_eq_zero_of_lt (by omega) (by unfold szR; omega)]
     omega
    simp only [zis,e1,e2,h3]
    congr 1
    omega
theorem nth_zip (l:List Rg) (h:∀ r ∈ l,r.lo ≤ r.hi):∀ n:Int,0 ≤ n → (zgs (zis l n) l).all id = true:=by
 induction l with
 | nil => intro n _; rfl
 | cons r l ih =>
  intro n hn
  have hr:=h r (by simp)
  have h1:=Int.emod_lt_of_pos n (show 0 < szR r by unfold szR; omega)
  have h2:=Int.emod_nonneg n (show szR r ≠ 0 by unfold szR; omega)
  have h3:=ih (fun r hr => h r (by simp [hr])) (n / szR r) (Int.ediv_nonneg hn (by unfold szR; omega))
  have h4:inB (r.lo + n % szR r) r.lo r.hi = true:=by rw [zbn]; unfold szR at h1 h2 ⊢; omega
  simp only [zis,zgs,List.zipWith_cons_cons,List.all_cons,h4,id]
  exact h3
theorem zeQ {t:Tb} (hok:HOk t) (hm:zde t.heights ≤ 2000) (p:List Int):p ∈ zbH t ↔ za3 t p = true:=by
 have hlo:∀ r ∈ t.heights,r.lo ≤ r.hi:=fun r hr => (hok.h r hr).2.1
 obtain ⟨e1,e2⟩:=zfE t.heights hlo 1 (by omega) (by omega)
 have e3:zde t.heights = zcI t.heights:=by
  have:zde t.heights = min 3000 (1 * zcI t.heights):=e1
  omega
 simp only [zbH,zfj,List.mem_filter,czx,List.mem_range]
 constructor
 ·rintro ⟨⟨n,hn,rfl⟩,hnear⟩
  simp only [za3,nth_zip t.heights hlo n (by omega),hnear,zeg]
  simp
 ·intro h
  have hl:=zbI h
  simp only [za3,czl] at h
  obtain ⟨n,h1,h2,h3⟩:=nth_mem t.heights hlo p hl h.1
  refine ⟨⟨n.toNat,by omega,?_⟩,h.2.2⟩
  rw [show ((n.toNat:Nat):Int) = n by omega,h3]
def zcp {σ:Type} (mm:σ → List AObj) (ls:σ → LoopState) (pd:σ → Option Code) (tm':List (Nat × AV)) (n:Nat) (ps:Array Tmp) (asg body:Code) (a:σ):List AObj :=
 mm a ++ [AObj.deferred,AObj.loop (ls a) (pd a) tm' n ps asg body]
theorem zjy {σ:Type} (mm:σ → List AObj) (ls:σ → LoopState) (pd:σ → Option Code) {t:Tb} (go:σ → List Int → Bool) (next:σ → List Int → σ) (Rdy:Nat → σ → Prop) (T:Nat) (tm':List (Nat × AV)) (a0:σ)
  {Q:QA} {st:St} {f:Operand} {ps:Array Tmp} {asg body:Code}
  (hok:HOk t) (hl:(t.heights.length:Int) = t.last + 1) (hf:(evT st.tm f).un = .fn (.func 175) [] [.ref (tbC t) 0]) (hav:(evT st.tm f).av)
  (htm:∀ q ∈ tm',q.2 = (lk st.tm q.1).strip) (hm0:mm a0 = st.mem) (hs0:ls a0 = .ready) (hp0:pd a0 = none)
  (hi:Iter (zcp mm ls pd tm' st.n ps asg body) (st.mem.length + 2) (st.mem.length + 1) t go next Rdy T) (hr:Rdy 0 a0) (hT:(zlX t).length ≤ T)
  (hend:endA Q st (zcp mm ls pd tm' st.n ps asg body (zd7 go next a0 (zlX t)).1) (zab (zcp mm ls pd tm' st.n ps asg body (zd7 go next a0 (zlX t)).1) (st.mem.length + 1))):zih Tryz.prog f ps asg body Q st:=by
 unfold zih
 rw [hf]
 have hM0:zcp mm ls pd tm' st.n ps asg body a0 = st.mem ++ [AObj.deferred,AObj.loop .ready none tm' st.n ps asg body]:=by
  unfold zcp; rw [hm0,hs0,hp0]
 refine ⟨hav,tm',(fun r mem' => mem' = zcp mm ls pd tm' st.n ps asg body (zd7 go next a0 (zlX t)).1),htm,?_,?_⟩
 ·rw [← hM0]
  exact zrZ hi hok hl a0 hr hT
 ·intro r mem' h hlen
  rw [h]
  exact hend
theorem ztz {P:Program} {Φ:zaN} {Q:QA} {st:St} {f:Operand} {ps:Array Tmp} {asg body:Code} (ts:List TZ) (h:zih P f ps asg body Q (tokz ts st)):vc P Φ (.rangeFunc f ps asg body) Q st:=⟨ts,h⟩
theorem vc_range0 {P:Program} {Φ:zaN} {Q:QA} {st:St} {f:Operand} {ps:Array Tmp} {asg body:Code} (h:zih P f ps asg body Q st):vc P Φ (.rangeFunc f ps asg body) Q st:=⟨[],h⟩
def zk0 (l:List Rg):Int:=l.foldl (fun n r => min (n * (r.hi - r.lo + 1)) 2001) 1
theorem zv4 (l:List Rg) (h:∀ r ∈ l,r.lo ≤ r.hi):∀ n:Int,1 ≤ n → n ≤ 2001 → l.foldl (fun n r => min (n * (r.hi - r.lo + 1)) 2001) n = min (n * zcI l) 2001 ∧ 1 ≤ zcI l:=by
 induction l with
 | nil => intro n h1 h2; simp [zcI]; omega
 | cons r l ih =>
  intro n h1 h2
  have hr:=h r (by simp)
  have hs:1 ≤ r.hi - r.lo + 1:=by omega
  have hns:1 ≤ n * (r.hi - r.lo + 1):=by
   have:=Int.mul_le_mul h1 hs (by omega) (by omega)
   omega
  obtain ⟨e1,e2⟩:=ih (fun r hr => h r (by simp [hr])) (min (n * (r.hi - r.lo + 1)) 2001) (by omega) (by omega)
  have hp:zcI (r :: l) = (r.hi - r.lo + 1) * zcI l:=rfl
  refine ⟨?_,?_⟩
  ·simp only [List.foldl_cons]
   rw [e1,hp,← Int.mul_assoc]
   by_cases c:n * (r.hi - r.lo + 1) ≤ 2001
   ·rw [Int.min_eq_left c]
   ·have c1:min (n * (r.hi - r.lo + 1)) 2001 = 2001:=by omega
    rw [c1]
    have g1:2001 ≤ 2001 * zcI l:=by omega
    have g2:n * (r.hi - r.lo + 1) ≤ n * (r.hi - r.lo + 1) * zcI l:=by
     have:=Int.mul_le_mul_of_nonneg_left e2 (show 0 ≤ n * (r.hi - r.lo + 1) by omega)
     omega
    omega
  ·rw [hp]
   have:=Int.mul_le_mul hs e2 (by omega) (by omega)
   omega
theorem zo6 (l:List Rg) (h:∀ r ∈ l,r.lo ≤ r.hi):(2000 < zk0 l ↔ 2000 < zde l) ∧ 0 ≤ zk0 l ∧ zk0 l ≤ 2001:=by
 obtain ⟨e1,e2⟩:=zv4 l h 1 (by omega) (by omega)
 obtain ⟨g1,g2⟩:=zfE l h 1 (by omega) (by omega)
 unfold zk0 zde
 rw [e1,g1]
 omega
theorem zv3 (l:List Rg) (i:Nat) (hi:i < l.length):zk0 (l.take (i + 1)) = min (zk0 (l.take i) * ((at_ l i).hi - (at_ l i).lo + 1)) 2001:=by
 unfold zk0; rw [zaX hi,List.foldl_append]; rfl
theorem zlR (t:Tb) (h:t.heights.length ≤ 4096):zaU Tryz.prog 114 [Enc.enc t] (· = Enc.enc (zbl t)):=by
 unfold zbl
 by_cases a1:9 < t.last
 ·rw [if_pos (.inl a1)]
  simp only [zcw]
  refine cpz zgl Tryz.func114 zaF ?_
  rw [Tryz.ntmps114]
  simp only [Tryz.f114,zah,zaq]
  simp (maxSteps:=4000000) only [go_sem,AV.one,zae,zac,zad,zap,zas,zab,czb,cza,↓reduceIte,zaL,a1]
 by_cases a2:6 < t.levels.length
 ·rw [if_pos (.inr (.inl a2))]
  simp only [zcw]
  refine cpz zgl Tryz.func114 zaF ?_
  rw [Tryz.ntmps114]
  simp only [Tryz.f114,zah,zaq]
  simp (maxSteps:=4000000) only [go_sem,AV.one,zae,zac,zad,zap,zas,zab,czb,cza,↓reduceIte,zaL,a1,show ((6:Int) < t.levels.length) by omega]
 by_cases a3:5 < t.marks.length
 ·rw [if_pos (.inr (.inr a3))]
  simp only [zcw]
  refine cpz zgl Tryz.func114 zaF ?_
  rw [Tryz.ntmps114]
  simp only [Tryz.f114,zah,zaq]
  simp (maxSteps:=4000000) only [go_sem,AV.one,zae,zac,zad,zap,zas,zab,czb,cza,↓reduceIte,zaL,a1,show ¬ ((6:Int) < t.levels.length) by omega,show ((5:Int) < t.marks.length) by omega]
 rw [if_neg (show ¬ (9 < t.last ∨ 6 < t.levels.length ∨ 5 < t.marks.length) by omega)]
 have a2':¬ ((6:Int) < t.levels.length):=by omega
 have a3':¬ ((5:Int) < t.marks.length):=by omega
 by_cases b1:t.last < 0
 ·rw [if_pos (.inl b1)]
  simp only [zcw]
  refine cpz zgl Tryz.func114 zaF ?_
  rw [Tryz.ntmps114]
  simp only [Tryz.f114,zah,zaq]
  simp (maxSteps:=4000000) only [go_sem,AV.one,zae,zac,zad,zap,zas,zab,czb,cza,↓reduceIte,zaL,a1,a2',a3',b1]
 have hl1:InR .i64 (t.last + 1):=(by simp only [InR]; omega)
 by_cases b2:(t.heights.length:Int) = t.last + 1
 case neg =>
  rw [if_pos (.inr (.inl b2))]
  simp only [zcw]
  refine cpz zgl Tryz.func114 zaF ?_
  rw [Tryz.ntmps114]
  simp only [Tryz.f114,zah,zaq]
  simp (maxSteps:=4000000) only [go_sem,AV.one,zae,zac,zad,zap,zas,zab,czb,cza,↓reduceIte,zaL,a1,a2',a3',b1,b2]
  all_goals exact auz
 have hh:t.heights.length ≤ 4096:=h
 have hv:t.levels.length ≤ 4096:=by omega
 have hm:t.marks.length ≤ 4096:=by omega
 cases b3:t.heights.all zbr
 ·have e:(if t.last < 0 ∨ (t.heights.length:Int) ≠ t.last + 1 ∨ inB t.step 0 99 = false then (1:Int) else if t.heights.all zbr = false then 1 else if (t.levels.all fun n => inB n 0 99) = false then 1 else if t.marks.all (zfc t.last) = false then 1 else if 2000 < zde t.heights then 3 else if zbH t = [] then 9 else 0) = 1:=by
   rw [b3,if_pos (rfl:false = false)]; split <;> rfl
  rw [b3] at e
  rw [e]
  simp only [zcw]
  refine cpz zgl Tryz.func114 zaF ?_
  rw [Tryz.ntmps114]
  simp only [Tryz.f114,zah,zaq]
  simp (maxSteps:=4000000) only [go_sem,AV.one,zae,zac,zad,zap,zas,zab,czb,cza,↓reduceIte,zaL,a1,a2',a3',b1,b2,b3]
  all_goals exact auz
 rw [if_neg (show ¬ (true = false) by simp)]
 cases b4:inB t.step 0 99
 ·rw [if_pos (.inr (.inr rfl))]
  simp only [zcw]
  refine cpz zgl Tryz.func114 zaF ?_
  rw [Tryz.ntmps114]
  simp only [Tryz.f114,zah,zaq]
  simp (maxSteps:=4000000) only [go_sem,AV.one,zae,zac,zad,zap,zas,zab,czb,cza,↓reduceIte,zaL,a1,a2',a3',b1,b2,b3,b4]
  all_goals exact auz
 have hno:¬ (t.last < 0 ∨ (t.heights.length:Int) ≠ t.last + 1 ∨ true = false):=by
  rintro (q | q | q)
  ·exact b1 q
  ·exact q b2
  ·simp at q
 rw [if_neg hno]
 cases b5:t.levels.all (fun n => inB n 0 99)
 ·rw [if_pos rfl]
  simp only [zcw]
  refine cpz zgl Tryz.func114 zaF ?_
  rw [Tryz.ntmps114]
  simp only [Tryz.f114,zah,zaq]
  simp (maxSteps:=4000000) only [go_sem,AV.one,zae,zac,zad,zap,zas,zab,czb,cza,↓reduceIte,zaL,a1,a2',a3',b1,b2,b3,b4,b5]
  all_goals exact auz
 rw [if_neg (show ¬ (true = false) by simp)]
 cases b6:t.marks.all (fun m => zfc t.last m)
 ·rw [if_pos rfl]
  simp only [zcw]
  refine cpz zgl Tryz.func114 zaF ?_
  rw [Tryz.ntmps114]
  simp only [Tryz.f114,zah,zaq]
  simp (maxSteps:=4000000) only [go_sem,AV.one,zae,zac,zad,zap,zas,zab,czb,cza,↓reduceIte,zaL,a1,a2',a3',b1,b2,b3,b4,b5,b6]
  all_goals exact auz
 rw [if_neg (show ¬ (true = false) by simp)]
 have hst:=(zbn _ _ _).1 b4
 have hok:HOk t:=⟨by omega,fun r hr => (zc3 r).1 (czG.1 b3 r hr),hst.1,hst.2⟩
 simp only [zcw]
 refine cpz zgl Tryz.func114 zaF ?_
 rw [Tryz.ntmps114]
 simp only [Tryz.f114,zah,zaq]
 simp (maxSteps:=4000000) only [go_sem,AV.one,zae,zac,zad,zap,zas,zab,czb,cza,↓reduceIte,zaL,a1,a2',a3',b1,b2,b3,b4,b5,b6]
 all_goals (repeat' first | (with_reducible first | rfl | apply And.intro | assumption) | ((with_reducible show zaf _ _ = true); rfl)) <;> try first | omega | (simp only [InR]; omega)
 refine zbA (t.heights.length) [] [1,2,64,65] (fun i => [(66,.int .i64 i),(4,.int .i64 (zk0 (t.heights.take i)))]) (fun _ m => m) (fun _ => True) ?_ ?_ ?_ ?_
 ·trivial
 ·simp [AV.bare,zal,zaP,zaS,zak,zau,zag,tokz1,lk,zab,zcW,zk0]
 ·intro i hi _
  have hr:=hok.h _ (zbb hi)
  have hmc:=(zo6 (t.heights.take i) (fun r hr => (hok.h r (List.mem_of_mem_take hr)).2.1)).2
  have hi':(i:Int) < t.last + 1:=by omega
  have hp:0 ≤ zk0 (t.heights.take i) * ((at_ t.heights i).hi - (at_ t.heights i).lo + 1) ∧ zk0 (t.heights.take i) * ((at_ t.heights i).hi - (at_ t.heights i).lo + 1) ≤ 2001 * 100 :=
   ⟨Int.mul_nonneg hmc.1 (by omega),Int.mul_le_mul hmc.2 (by omega) (by omega) (by omega)⟩
  simp (maxSteps:=4000000) only [go_sem,AV.one,zae,zac,zad,zap,zas,zab,czb,cza,↓reduceIte,zat hi,hi',ziu]
  all_goals (repeat' first | (with_reducible first | rfl | apply And.intro | assumption) | ((with_reducible show zaf _ _ = true); rfl)) <;> try first | omega | (simp only [InR]; omega)
  ·simp
  ·refine nxt hi trivial ?_
   simp [AV.bare,zal,zaP,zaS,zak,zau,zag,tokz1,lk,zab,zcW,zv3 _ _ hi]
 ·intro _
  have hi':¬ ((t.heights.length:Int) < t.last + 1):=by omega
  simp (maxSteps:=4000000) only [go_sem,AV.one,zae,zac,zad,zap,zas,zab,czb,cza,↓reduceIte,hi',zaL,czm]
  have hms:=(zo6 t.heights (fun r hr => (hok.h r hr).2.1)).1
  refine ⟨fun q => ?_,fun q => ?_⟩
  ·simp at q
   rw [if_pos (hms.1 q)]
  ·have hmn:¬ 2000 < zde t.heights:=by simp at q; omega
   rw [if_neg hmn]
   refine vc_range0 ?_
   refine zjy (fun _:Bool => [AObj.cells [AV.int IntKind.i64 t.last,AV.sl (List.map EncE.cs t.heights) Tk.no,AV.int IntKind.i64 t.step,AV.sl (List.map EncE.cs t.levels) Tk.no,AV.sl (List.map EncE.cs t.marks) Tk.no],
     AObj.cells [AV.int IntKind.i64 0]]) (fun a => if a then .done else .ready) (fun a => if a then some .ret else none) (fun _ _ => false) (fun _ _ => true) (fun _ a => a = false) _ [(1,.ptr 0 0),(2,.ptr 1 0)] false
    hok b2 rfl trivial ?_ rfl rfl rfl ?_ rfl (czf _) ?_
   ·simp [lk,AV.strip,zcn]
   ·refine ⟨fun a => rfl,by simp [zcn],fun a => ?_,?_,fun k a p h _ q => by simp at q⟩
    ·cases a <;> simp [AV.bare,zal,zaP,zaS,zak,zau,zag,tokz1,lk,zab,zcW,zcp,zcD,zbp,zbF]
    ·intro k a p s ha hkT hp hlo hs
     subst ha
     refine zgt (Φ:=P35) (hl:=rfl) rfl (by simp) rfl rfl zaF zgl (by simp [AV.strip,AV.strip1]) (by simp [AV.strip,AV.strip1]) ?_
     simp (maxSteps:=4000000) only [go_sem,AV.one,zae,zac,zad,zap,zas,zab,czb,cza,↓reduceIte,zg5,zgE,zsm,zhb,zc0,zcp]
     simp [AV.bare,zal,zaP,zaS,zak,zau,zag,tokz1,lk,zab,zcW,zcD,zbp,zbF,tbC]
   ·cases hq:zlX t with
    | nil =>
     simp (maxSteps:=4000000) only [go_sem,AV.one,zae,zac,zad,zap,zas,zab,czb,cza,↓reduceIte,endA,zrJ,zd7,zhw,zcp]
     refine ⟨rfl,?_⟩
     have:zbH t = []:=by
      cases hl2:zbH t with
      | nil => rfl
      | cons p r =>
       have h1:p ∈ zbH t:=by rw [hl2]; simp
       have h2:=(zkf hok b2 p).2 ((zeQ hok (by omega) p).1 h1)
       rw [hq] at h2; cases h2
     rw [if_pos this]
    | cons p r =>
     simp (maxSteps:=4000000) only [go_sem,AV.one,zae,zac,zad,zap,zas,zab,czb,cza,↓reduceIte,endA,zrJ,zd7,zhw,zcp]
     refine ⟨rfl,?_⟩
     rw [if_neg]
     intro hl2
     have h1:p ∈ zlX t:=by rw [hq]; simp
     have h2:=(zeQ hok (by omega) p).2 ((zkf hok b2 p).1 h1)
     rw [hl2] at h2; cases h2
def P36 (g:FuncId):=(zax 114 (zcU (fun t:Tb => t.heights.length ≤ 4096) zbl) (P35):zaN) g
theorem P36_ok:zaD Tryz.prog P36:=zaj (zbm zlR) (zgl)
theorem zuQ (d:Option Nat):zaK P36 d = none:=(zai (by decide) d).trans (zuR d)
attribute [go_sem] P36 zuQ
theorem zcC {t:Tb} (h:zbl t = 0):VOk t:=by
 unfold zbl at h
 split at h
 ·cases h
 rename_i h1
 split at h
 ·cases h
 rename_i h2
 split at h
 ·cases h
 rename_i h3
 split at h
 ·cases h
 rename_i h4
 split at h
 ·cases h
 rename_i h5
 split at h
 ·cases h
 rename_i h6
 split at h
 ·cases h
 rename_i h7
 simp only [not_or,Bool.not_eq_false,ne_eq,Decidable.not_not] at h1 h2 h3 h4 h5
 have hs:=(zbn _ _ _).1 h2.2.2
 have hok:HOk t:=⟨by omega,fun r hr => (zc3 r).1 (czG.1 h3 r hr),hs.1,hs.2⟩
 refine ⟨hok,⟨by omega,fun m hm => ?_⟩,h2.2.1,by omega,fun x hx => ?_,by omega,h7⟩
 ·have:=czG.1 h5 m hm
  simp only [zfc,czl,decide_eq_true_eq] at this
  have g1:=(zbn _ _ _).1 this.1.1.1
  have g2:=(zbn _ _ _).1 this.1.1.2
  omega
 ·exact (zbn _ _ _).1 (czG.1 h4 x hx)
theorem zao:List.drop 10 [AV.int IntKind.i64 0,AV.int IntKind.i64 0,AV.int IntKind.i64 0,AV.int IntKind.i64 0,AV.int IntKind.i64 0,AV.int IntKind.i64 0,AV.int IntKind.i64 0,AV.int IntKind.i64 0,AV.int IntKind.i64 0,AV.int IntKind.i64 0] = []:=rfl
theorem zc9 (b:Bool):(AV.bool b).one = true:=rfl
theorem zca (a b):(AV.sl a b).one = true:=rfl
theorem zbD (a b):(AV.ptr a b).one = true:=rfl
theorem zbC (a b):(AV.ref a b).one = true:=rfl
theorem zbk:(AV.nilp).one = true:=rfl
theorem zh3 {α β:Type} (f:α → β) (l:List α) (k:Nat):(l.map f).take k = (l.take k).map f:=by simp
theorem zoK (t:Tb) (l:List Int):zdJ t l [] t.marks.length = t.marks.all (zd8 l):=by
 have key:∀ n,n ≤ t.marks.length → zdJ t l [] n = (t.marks.take n).all (zd8 l):=by
  intro n
  induction n with
  | zero => intro _; simp [zdJ]
  | succ n ih =>
   intro h
   rw [zkM,ih (by omega),zer h]
   simp
 rw [key _ (czf _),czm]
theorem MOk.m9 {t:Tb} (h:MOk t) (hok:HOk t):∀ m ∈ t.marks,0 ≤ m.frm ∧ m.frm ≤ m.til ∧ m.til ≤ 9:=fun m hm => by
 have:=h.m m hm
 have:=hok.len
 omega
theorem pad_at2 {l:List Int} (i:Nat) (h10:l.length ≤ 10) (hi:i < l.length):at_ (zdv l) i = at_ l i:=zhy hi (by omega)
theorem zmw {l:List Int} {m:Mk} (h10:l.length ≤ 10) (h0:0 ≤ m.frm) (h1:m.til < l.length):zd8 (zdv l) m = zd8 l m:=by
 unfold zd8 zmj zdv
 rw [cze h10,List.drop_append,List.take_append]
 by_cases c:m.frm ≤ m.til
 ·have e1:m.frm.toNat ≤ l.length:=by omega
  rw [show m.frm.toNat - l.length = 0 by omega,List.drop_zero]
  rw [show (m.til + 1 - m.frm).toNat - (l.drop m.frm.toNat).length = 0 by simp; omega]
  simp
 ·rw [show (m.til + 1 - m.frm).toNat = 0 by omega]
  simp
theorem zq4 {l:List Int} (level:Int) (h10:l.length ≤ 10):zjr (zdv l) level l.length = zd5 l level:=by
 unfold zd5 zjr
 congr 1
 apply List.filter_congr
 intro i hi
 rw [pad_at2 i h10 (by simpa using hi)]
theorem zdP {α:Type} {l:List α} {p q:α → Bool} (h:∀ x ∈ l,p x = q x):l.all p = l.all q:=by
 induction l with
 | nil => rfl
 | cons x l ih => rw [List.all_cons,List.all_cons,h x (by simp),ih (fun y hy => h y (by simp [hy]))]
def zfi (t:Tb) (l:List Int):Bool:=decide (zbl t = 0) && zbE t l
theorem zlK (t:Tb) (l:List Int) (h:t.heights.length ≤ 4096 ∧ l.length ≤ 4096):zaU Tryz.prog 76 [Enc.enc t,Enc.enc l] (· = Enc.enc (zfi t l)):=by
 have h1:=h.1
 have h2:=h.2
 unfold zfi
 by_cases c:zbl t = 0
 case neg =>
  rw [show (decide (zbl t = 0) && zbE t l) = false by simp [c]]
  simp only [zcw]
  refine cpz P36_ok Tryz.func76 zaF ?_
  rw [Tryz.ntmps76]
  simp only [Tryz.f76,zah,zaq]
  simp (maxSteps:=4000000) only [go_sem,AV.one,zae,zac,zad,zap,zas,zab,czb,cza,↓reduceIte,zaa,zaL,zao,zcO,zc9,zca,zbD,zbC,zbk,c]
  all_goals exact auz
 have hv:=zcC c
 have hok:=hv.hok
 have hl0:0 ≤ t.last:=by
  have:=hv.l0
  have:=hv.last
  have:=hv.some
  have h9:zbl t = 0:=c
  unfold zbl at h9
  split at h9
  ·cases h9
  split at h9
  ·cases h9
  rename_i h10
  simp only [not_or] at h10
  omega
 have hlast:=hv.last
 have hm:=hv.mok.m9 hok
 have hml:=hv.mok.len
 have e:(decide (zbl t = 0) && zbE t l) = ((zdr t l).2 && zdJ t (zdr t l).1.l [] t.marks.length):=by
  rw [c,zoK]
  unfold zdr
  by_cases q:(l.length:Int) = t.last + 1
  ·rw [if_pos q]
   simp only [zbE]
   cases za3 t l
   ·rfl
   ·simp only [Bool.true_and,decide_true]
    refine zdP fun m hmm => ?_
    have:=hv.mok.m m hmm
    exact (zmw (by have:=hok.len; omega) (by omega) (by omega)).symm
  ·rw [if_neg q]
   have:za3 t l = false:=by
    cases b:za3 t l
    ·rfl
    ·have:=zbI b; omega
   simp [zbE,this]
 rw [e]
 generalize hlp:zdr t l = r
 obtain ⟨s,b⟩:=r
 have hs:=s.h
 cases b
 all_goals
  simp only [zcw]
  refine cpz P36_ok Tryz.func76 zaF ?_
  rw [Tryz.ntmps76]
  simp only [Tryz.f76,zah,zaq]
  simp (maxSteps:=4000000) only [go_sem,zae,zac,zad,zap,zas,zab,czb,cza,↓reduceIte,zaa,zaL,zao,zcO,zc9,zca,zbD,zbC,zbk,c,hlp,hs]
  all_goals (repeat' first | (with_reducible first | rfl | apply And.intro | assumption) | ((with_reducible show zaf _ _ = true); rfl)) <;> try first | omega | (simp only [InR]; omega)
def P37 (g:FuncId):=(zax 76 (zbL (fun (t:Tb) (l:List Int) => t.heights.length ≤ 4096 ∧ l.length ≤ 4096) zfi) (P36):zaN) g
theorem P37_ok:zaD Tryz.prog P37:=zaj (zaR zlK) (P36_ok)
theorem zuP (d:Option Nat):zaK P37 d = none:=(zai (by decide) d).trans (zuQ d)
attribute [go_sem] P37 zuP
def P38:zaN:=P37
theorem P38_app (g:FuncId):P38 g = (P37) g:=rfl
theorem zp2:zaD Tryz.prog P38:=P37_ok
attribute [go_sem] P38_app
theorem zuO (d:Option Nat):zaK P38 d = none:=zuP d
attribute [go_sem] zuO
theorem zmN:zac [] = some []:=rfl
theorem zcg (a):(AV.mp a).one = true:=rfl
def zb9 (n:Nat):List AV:=List.replicate n (.bool true)
def decT:List AV → Option Nat
 | [] => some 0
 | .bool true :: r => (decT r).map (· + 1)
 | _ => none
theorem zuk:∀ (vs:List AV) (n:Nat),decT vs = some n → vs = zb9 n
 | [],n,h => by simp only [decT,czg] at h; subst h; rfl
 | v :: r,n,h => by
  unfold decT at h
  split at h
  ·cases h; simp_all
  ·rename_i r' heq
   cases heq
   simp only [czr] at h
   obtain ⟨k,h1,rfl⟩:=h
   rw [zuk _ _ h1]; rfl
  ·cases h
theorem zmX:∀ n,decT (zb9 n) = some n
 | 0 => rfl
 | n + 1 => by
  have:=zmX n
  simp only [zb9,List.replicate_succ,decT] at this ⊢
  rw [this]; rfl
structure Wk where
 t:Tb
 truth:List (Arr 10)
 ks:List (List Int)
def wkC (w:Wk):List AV:=[.int .i64 w.t.last,.sl (w.t.heights.map EncE.cs) .no,.int .i64 w.t.step,.sl (w.t.levels.map EncE.cs) .no,.sl (w.t.marks.map EncE.cs) .no,.sl (w.truth.map EncE.cs) .no,.mpr w.ks (zb9 w.ks.length)]
def zwA:List AV → Option Wk
 | [.int .i64 a,.sl b .no,.int .i64 c,.sl d .no,.sl e .no,.sl f .no,.mpr ks vs] =>
  match (zdS b:Option (List Rg)),(zdS d:Option (List Int)),(zdS e:Option (List Mk)),(zdS f:Option (List (Arr 10))),decT vs with
  | some b,some d,some e,some f,some n => if n = ks.length then some ⟨⟨a,b,c,d,e⟩,f,ks⟩ else none
  | _,_,_,_,_ => none
 | _ => none
theorem zpx {cs:List AV} {w:Wk} (h:zwA cs = some w):cs = wkC w:=by
 unfold zwA at h
 split at h
 ·split at h
  ·rename_i h1 h2 h3 h4 h5
   split at h
   ·rename_i hn
    cases h
    rw [zbw _ _ h1,zbw _ _ h2,zbw _ _ h3,zbw _ _ h4,zuk _ _ h5,hn]
    rfl
   ·cases h
  ·cases h
 ·cases h
theorem ztx (w:Wk):∀ c ∈ wkC w,zbt 3 c:=by
 simp only [wkC,czn,czk,or_false,forall_eq_or_imp,forall_eq,zbt,true_and,czx,forall_exists_index,and_imp,forall_apply_eq_imp_iff₂]
 have key:∀ (v:AV),zbt 1 v → zbt 2 v:=fun v h => by cases v <;> simp_all [zbt]
 refine ⟨fun a _ c hc => key c (EncE.ok a c hc),fun a _ c hc => key c (EncE.ok a c hc),fun a _ c hc => key c (EncE.ok a c hc),fun a _ c hc => key c (EncE.ok a c hc),fun c hc => ?_⟩
 have:=(czL.1 hc).2
 subst this
 simp [zbt]
instance:Enc Wk where
 enc w:=.ref (wkC w) 0
 dec
  | .ref cs 0 => zwA cs
  | _ => none
 law v x h:=by
  split at h
  ·rw [zpx h]
  ·cases h
 dep:=4
 ok x:=ztx x
instance:Enc (Option Wk) where
 enc
  | some w => .ref (wkC w) 0
  | none => .nilp
 dec
  | .nilp => some none
  | .ref cs 0 => (zwA cs).map some
  | _ => none
 law v x h:=by
  split at h
  ·cases h; rfl
  ·simp only [czr] at h
   obtain ⟨w,h1,rfl⟩:=h
   rw [zpx h1]
  ·cases h
 dep:=4
 ok x:=by
  cases x with
  | none => trivial
  | some w => exact ztx w
theorem zuh (w:Wk):Enc.enc w = .ref (wkC w) 0:=rfl
theorem ze9 (w:Wk):Enc.enc (some w) = .ref (wkC w) 0:=rfl
theorem zel:Enc.enc (none:Option Wk) = .nilp:=rfl
def addK (ks:List (List Int)) (k:List Int):List (List Int):=if k ∈ ks then ks else ks ++ [k]
theorem zoP (ks:List (List Int)) (k:List Int):zas ks (zb9 ks.length) k (.bool true) = .map (addK ks k) (zb9 (addK ks k).length):=by
 unfold zas addK
 have hk:(zad ks k).isSome = decide (k ∈ ks):=by
  unfold zad
  rw [List.findIdx?_isSome,Bool.eq_iff_iff]
  simp
 cases h:zad ks k with
 | none =>
  rw [h] at hk
  have:k ∉ ks:=by simpa using hk.symm
  rw [if_neg this]
  simp only [czc,cza,czy,zb9,List.replicate_succ']
 | some i =>
  rw [h] at hk
  have:k ∈ ks:=by simpa using hk.symm
  rw [if_pos this]
  simp only [zb9,List.set_replicate_self]
def zfr (ks:List (List Int)) (p:List Int):Nat → List (List Int)
 | 0 => ks
 | n + 1 => addK (zfr ks p n) [(n:Int),at_ p n]
theorem zg7 {ks:List (List Int)} {p:List Int} (h:∀ b ∈ ks,b.length = 2):∀ n,∀ b ∈ zfr ks p n,b.length = 2
 | 0 => h
 | n + 1 => by
  intro b hb
  unfold zfr addK at hb
  split at hb
  ·exact zg7 h n b hb
  ·rcases czv.1 hb with q | q
   ·exact zg7 h n b q
   ·simp at q; subst q; rfl
theorem zoQ {l:List Rg} (h:∀ r ∈ l,r.lo ≤ r.hi):1 ≤ zcI l:=(zfE l h 1 (by omega) (by omega)).2
theorem ztK {t:Tb} (hok:HOk t):∀ (f:Nat) (p:List Int),p.length + f = t.heights.length → ((zgr t f p).length:Int) ≤ zcI (t.heights.drop p.length)
 | 0,p,h => by
  rw [czM (by omega)]
  simp [zgr,zcI]
 | f + 1,p,h => by
  have hk:p.length < t.heights.length:=by omega
  have hp1:1 ≤ zcI (t.heights.drop (p.length + 1)):=zoQ fun r hr => (hok.h r (List.mem_of_mem_drop hr)).2.1
  have hr:=hok.h _ (zbb hk)
  have key:∀ n:Nat,((zoz t f p n).length:Int) ≤ n * zcI (t.heights.drop (p.length + 1)):=by
   intro n
   induction n with
   | zero => simp [zoz]
   | succ n ih =>
    rw [zkF,czc]
    have hb:(((if zdp t (p ++ [(at_ t.heights p.length).lo + (n:Int)]) p.length then zgr t f (p ++ [(at_ t.heights p.length).lo + (n:Int)]) else []).length:Nat):Int) ≤ zcI (t.heights.drop (p.length + 1)):=by
     split
     ·have:=ztK hok f (p ++ [(at_ t.heights p.length).lo + (n:Int)]) (by simp; omega)
      simpa using this
     ·simp; omega
    have e:((n + 1:Nat):Int) * zcI (t.heights.drop (p.length + 1)) = n * zcI (t.heights.drop (p.length + 1)) + zcI (t.heights.drop (p.length + 1)):=by
     rw [Int.natCast_add,Int.add_mul]; simp
    rw [e]
    omega
  have:=key (szR (at_ t.heights p.length)).toNat
  rw [show zgr t (f + 1) p = zoz t f p (szR (at_ t.heights p.length)).toNat from rfl,zgX hk]
  have e2:zcI (at_ t.heights p.length :: t.heights.drop (p.length + 1)) = szR (at_ t.heights p.length) * zcI (t.heights.drop (p.length + 1)):=rfl
  rw [e2]
  have e3:(((szR (at_ t.heights p.length)).toNat:Nat):Int) = szR (at_ t.heights p.length):=by unfold szR; omega
  rw [e3] at this
  exact this
theorem ztL {t:Tb} (hv:VOk t):(zlX t).length ≤ 2000:=by
 have hl:=hv.last
 have:=ztK hv.hok (t.last + 1).toNat [] (by simp; omega)
 obtain ⟨e1,e2⟩:=zfE t.heights (fun r hr => (hv.hok.h r hr).2.1) 1 (by omega) (by omega)
 have hm:=hv.many
 unfold zde at hm
 rw [e1] at hm
 simp only [czy,List.drop_zero] at this
 unfold zlX
 omega
def zhZ (t:Tb) (a:List (List Int) × List (List Int)) (p:List Int):List (List Int) × List (List Int) :=
 if zdJ t (zdv p) [] t.marks.length && !(decide (0 < a.1.length) && decide (zdv (at_ a.1 (a.1.length - 1)) = zdv p)) then (a.1 ++ [p],zfr a.2 p (t.last + 1).toNat) else a
def zhv (t:Tb):List (List Int) × List (List Int):=(zd7 (fun _ _ => true) (zhZ t) ([],[]) (zlX t)).1
def zlF (t:Tb) (fine:Bool):Option Wk × Int :=
 if zbl t = 0 then
  if fine then
   if (zhv t).1.length = 0 then (none,11) else (some ⟨t,(zhv t).1.map zft,(zhv t).2⟩,0)
  else (none,2)
 else (none,zbl t)
theorem keyOk2:ztn Tryz.prog 220 2:=zub ek_220
theorem zwS (t:Tb) (fine:Bool) (h:t.heights.length ≤ 4096):zaU Tryz.prog 122 [Enc.enc t,Enc.enc fine] (· = Enc.enc (zlF t fine)):=by
 simp only [zaa]
 unfold zlF
 by_cases c:zbl t = 0
 case neg =>
  rw [if_neg c]
  simp only [zel]
  simp only [zcw]
  refine cpz zp2 Tryz.func122 zaF ?_
  rw [Tryz.ntmps122]
  simp only [Tryz.f122,zah,zaq]
  simp (maxSteps:=4000000) only [go_sem,AV.one,zae,zac,zad,zap,zas,zab,czb,cza,↓reduceIte,zaa,zaL,zao,zcO,zc9,zca,zbD,zbC,zbk,zcg,c]
  all_goals exact auz
 rw [if_pos c]
 have hv:=zcC c
 have hok:=hv.hok
 have hml:=hv.mok.len
 have hm:=hv.mok.m9 hok
 cases fine
 ·simp only [czp,if_false,zel]
  simp only [zcw]
  refine cpz zp2 Tryz.func122 zaF ?_
  rw [Tryz.ntmps122]
  simp only [Tryz.f122,zah,zaq]
  simp (maxSteps:=4000000) only [go_sem,AV.one,zae,zac,zad,zap,zas,zab,czb,cza,↓reduceIte,zaa,zaL,zao,zcO,zc9,zca,zbD,zbC,zbk,zcg,c]
  all_goals exact auz
 simp only [if_true]
 simp only [zcw]
 refine cpz zp2 Tryz.func122 zaF ?_
 rw [Tryz.ntmps122]
 simp only [Tryz.f122,zah,zaq]
 simp (maxSteps:=4000000) only [go_sem,zae,zac,zad,zap,zas,zab,czb,cza,↓reduceIte,zaa,zaL,zao,zcO,zc9,zca,zbD,zbC,zbk,zcg,c]
 all_goals (repeat' first | (with_reducible first | rfl | apply And.intro | assumption) | ((with_reducible show zaf _ _ = true); rfl)) <;> try first | omega | (simp only [InR]; omega)
 refine ztz [.cell 2 5 10] ?_
 simp only [zdT,zcn,tokz1,zab,List.getD_cons_zero,List.getD_cons_succ,List.set_cons_zero,List.set_cons_succ,cza,czy,Nat.reduceAdd,Nat.zero_add,czs,List.nil_append]
 refine zjy (fun a:List (List Int) × List (List Int) => [AObj.cells [AV.int IntKind.i64 t.last,AV.sl (List.map EncE.cs t.heights) Tk.no,AV.int IntKind.i64 t.step,AV.sl (List.map EncE.cs t.levels) Tk.no,AV.sl (List.map EncE.cs t.marks) Tk.no],
   AObj.map a.2 (zb9 a.2.length),
   AObj.cells [AV.int IntKind.i64 t.last,AV.sl (List.map EncE.cs t.heights) Tk.no,AV.int IntKind.i64 t.step,AV.sl (List.map EncE.cs t.levels) Tk.no,AV.sl (List.map EncE.cs t.marks) Tk.no,AV.sl ((a.1.map zft).map EncE.cs) (.own 4),AV.mp 1],
   AObj.cells [AV.ptr 2 0],AObj.tok a.1.length 10]) (fun _ => .ready) (fun _ => none) (fun _ _ => true) (zhZ t) (fun k a => a.1.length ≤ k ∧ ∀ b ∈ a.2,b.length = 2) (zlX t).length [(2,.ptr 0 0),(7,.ptr 3 0)] ([],[])
  hok hv.last rfl trivial ?_ rfl rfl rfl ?_ ⟨czf _,by simp⟩ (czf _) ?_
 ·simp [lk,AV.strip]
 ·refine ⟨fun a => rfl,by simp,fun a => ?_,?_,fun k a p h hk _ => ?_⟩
  ·simp [AV.bare,zal,zaP,zaS,zak,zau,zag,tokz1,lk,zab,zcW,zcp,zcD,zbp,zbF,zdo,zdd,zb9,-List.map_map]
  ·intro k a p s ha hkT hp hlo hs
   have h10:=s.h
   have hsl:s.l = zdv p:=by rw [hs]; rfl
   have hT:=ztL hv
   have ha1:=ha.1
   have hl1:((a.1.length:Int) - 1).toNat = a.1.length - 1:=by omega
   have hlm:(a.1.map zft).length = a.1.length:=by simp
   have hlast:=hv.last
   have hl10:=hok.len
   refine zgt (Φ:=P38) (hl:=rfl) rfl (by simp) rfl rfl zaF zp2 (by simp [AV.strip,AV.strip1]) (by simp [AV.strip,AV.strip1]) ?_
   cases c1:zdJ t s.l [] t.marks.length
   ·have hnx:zhZ t a p = a:=by unfold zhZ; rw [← hsl,c1]; rfl
    by_cases he:a.1.length = 0
    ·have he':a.1 = []:=List.length_eq_zero_iff.1 he
     simp (maxSteps:=4000000) only [go_sem,zae,zap,zab,czb,cza,↓reduceIte,zaa,zaL,zao,zcO,zc9,zca,zbD,zbC,zbk,zcg,zg5,zgE,zsm,zhb,zc0,zcp,c1,h10,hlm,he',hnx,zdL,zmN,List.take_nil]
     all_goals (repeat' first | (with_reducible first | rfl | apply And.intro | assumption) | ((with_reducible show zaf _ _ = true); rfl)) <;> try first | omega | (simp only [InR]; omega)
     all_goals (try simp [AV.bare,zal,zaP,zaS,zak,zau,zag,tokz1,lk,zab,zcW,zcD,zbp,zbF,zdo,zdd,zb9,tbC,-List.map_map])
    ·have hpos:(0:Int) < a.1.length:=by omega
     have hgd:=zat (f:=EncE.cs) (l:=a.1.map zft) (i:=a.1.length - 1) (by simp; omega)
     simp (maxSteps:=4000000) only [go_sem,zae,zap,zab,czb,cza,↓reduceIte,zaa,zaL,zao,zcO,zc9,zca,zbD,zbC,zbk,zcg,zg5,zgE,zsm,zhb,zc0,zcp,c1,h10,hlm,hl1,hpos,hgd,hnx,zdL]
     all_goals (repeat' first | (with_reducible first | rfl | apply And.intro | assumption) | ((with_reducible show zaf _ _ = true); rfl)) <;> try first | omega | (simp only [InR]; omega)
     all_goals (try simp [AV.bare,zal,zaP,zaS,zak,zau,zag,tokz1,lk,zab,zcW,zcD,zbp,zbF,zdo,zdd,zb9,tbC,-List.map_map])
   ·by_cases he:a.1.length = 0
    ·have he':a.1 = []:=List.length_eq_zero_iff.1 he
     have hnx:zhZ t a p = (a.1 ++ [p],zfr a.2 p (t.last + 1).toNat):=by unfold zhZ; rw [← hsl,c1,he]; rfl
     simp (maxSteps:=4000000) only [go_sem,zae,zap,zab,czb,cza,↓reduceIte,zaa,zaL,zao,zcO,zc9,zca,zbD,zbC,zbk,zcg,zg5,zgE,zsm,zhb,zc0,zcp,c1,h10,hlm,he',hnx,zdL,zmN,List.take_nil]
     all_goals (repeat' first | (with_reducible first | rfl | apply And.intro | assumption) | ((with_reducible show zaf _ _ = true); rfl)) <;> try first | omega | (simp only [InR]; omega)
     refine zbA ((t.last + 1).toNat) [] [4,5,7,8,64] (fun i => [(65,.int .i64 i)]) (fun i m => m.set 1 (.map (zfr a.2 p i) (zb9 (zfr a.2 p i).length))) (fun _ => True) ?_ ?_ ?_ ?_
     ·trivial
     ·simp [AV.bare,zal,zaP,zaS,zak,zau,zag,tokz1,lk,zab,zcW,zfr,zcD,zbp,zbF,zdo,zdd,zdx,zb9,tbC,-List.map_map]
     ·intro i hi _
      have hi':(i:Int) < t.last + 1:=by omega
      have hg:=zfG (l:=s.l) (i:=i) (by omega)
      have hat:at_ s.l i = at_ p i:=by rw [hsl]; exact zhy (by omega) (by omega)
      have hput:=zoP (zfr a.2 p i) [(i:Int),at_ p i]
      have hk2:=keyOk2
      have hkl:=zg7 (p:=p) ha.2 i
      have hads:addK (zfr a.2 p i) [(i:Int),at_ p i] = zfr a.2 p (i + 1):=rfl
      simp (maxSteps:=4000000) only [go_sem,zae,zac,zap,zab,czb,cza,↓reduceIte,zaa,zaL,zao,zcO,zc9,zca,zbD,zbC,zbk,zcg,hi',hg,hat,hput]
      all_goals (repeat' first | (with_reducible first | rfl | apply And.intro | assumption) | ((with_reducible show zaf _ _ = true); rfl)) <;> try first | omega | (simp only [InR]; omega)
      refine nxt hi trivial ?_
      simp [AV.bare,zal,zaP,zaS,zak,zau,zag,tokz1,lk,zab,zcW,hads,zcD,zbp,zbF,zdo,zdd,zdx,zb9,tbC,-List.map_map]
     ·intro _
      have hi':¬ ((((t.last + 1).toNat:Nat):Int) < t.last + 1):=by omega
      simp (maxSteps:=4000000) only [go_sem,zae,zac,zap,zab,czb,cza,↓reduceIte,zaa,zaL,zao,zcO,zc9,zca,zbD,zbC,zbk,zcg,hi',hs,zgE,zsm]
      all_goals (repeat' first | (with_reducible first | rfl | apply And.intro | assumption) | ((with_reducible show zaf _ _ = true); rfl)) <;> try first | omega | (simp only [InR]; omega)
      all_goals (try simp [AV.bare,zal,zaP,zaS,zak,zau,zag,tokz1,lk,zab,zcW,zcD,zbp,zbF,zdo,zdd,zdx,zb9,tbC,-List.map_map])
    ·have hpos:(0:Int) < a.1.length:=by omega
     have hgd:=zat (f:=EncE.cs) (l:=a.1.map zft) (i:=a.1.length - 1) (by simp; omega)
     have hatm:(at_ (a.1.map zft) (a.1.length - 1)).l = zdv (at_ a.1 (a.1.length - 1)):=by
      have:a.1.length - 1 < a.1.length:=by omega
      simp [at_,List.getD,this]; rfl
     have hd0:decide (0 < a.1.length) = true:=by simp; omega
     have h10b:=(at_ (a.1.map zft) (a.1.length - 1)).h
     cases c2:decide ((at_ (a.1.map zft) (a.1.length - 1)).l = s.l)
     ·have hnx:zhZ t a p = (a.1 ++ [p],zfr a.2 p (t.last + 1).toNat):=by
       unfold zhZ
       rw [← hsl,c1,hd0,← hatm,c2]; rfl
      simp (maxSteps:=4000000) only [go_sem,zae,zap,zab,czb,cza,↓reduceIte,zaa,zaL,zao,zcO,zc9,zca,zbD,zbC,zbk,zcg,zg5,zgE,zsm,zhb,zc0,zcp,c1,c2,h10,h10b,hlm,hl1,hpos,hgd,hnx,zdL]
      all_goals (repeat' first | (with_reducible first | rfl | apply And.intro | assumption) | ((with_reducible show zaf _ _ = true); rfl)) <;> try first | omega | (simp only [InR]; omega)
      refine zbA ((t.last + 1).toNat) [] [4,5,7,8,64] (fun i => [(65,.int .i64 i)]) (fun i m => m.set 1 (.map (zfr a.2 p i) (zb9 (zfr a.2 p i).length))) (fun _ => True) ?_ ?_ ?_ ?_
      ·trivial
      ·simp [AV.bare,zal,zaP,zaS,zak,zau,zag,tokz1,lk,zab,zcW,zfr,zcD,zbp,zbF,zdo,zdd,zdx,zb9,tbC,-List.map_map]
      ·intro i hi _
       have hi':(i:Int) < t.last + 1:=by omega
       have hg:=zfG (l:=s.l) (i:=i) (by omega)
       have hat:at_ s.l i = at_ p i:=by rw [hsl]; exact zhy (by omega) (by omega)
       have hput:=zoP (zfr a.2 p i) [(i:Int),at_ p i]
       have hk2:=keyOk2
       have hkl:=zg7 (p:=p) ha.2 i
       have hads:addK (zfr a.2 p i) [(i:Int),at_ p i] = zfr a.2 p (i + 1):=rfl
       simp (maxSteps:=4000000) only [go_sem,zae,zac,zap,zab,czb,cza,↓reduceIte,zaa,zaL,zao,zcO,zc9,zca,zbD,zbC,zbk,zcg,hi',hg,hat,hput]
       all_goals (repeat' first | (with_reducible first | rfl | apply And.intro | assumption) | ((with_reducible show zaf _ _ = true); rfl)) <;> try first | omega | (simp only [InR]; omega)
       refine nxt hi trivial ?_
       simp [AV.bare,zal,zaP,zaS,zak,zau,zag,tokz1,lk,zab,zcW,hads,zcD,zbp,zbF,zdo,zdd,zdx,zb9,tbC,-List.map_map]
      ·intro _
       have hi':¬ ((((t.last + 1).toNat:Nat):Int) < t.last + 1):=by omega
       simp (maxSteps:=4000000) only [go_sem,zae,zac,zap,zab,czb,cza,↓reduceIte,zaa,zaL,zao,zcO,zc9,zca,zbD,zbC,zbk,zcg,hi',hs,zgE,zsm]
       all_goals (repeat' first | (with_reducible first | rfl | apply And.intro | assumption) | ((with_reducible show zaf _ _ = true); rfl)) <;> try first | omega | (simp only [InR]; omega)
       all_goals (try simp [AV.bare,zal,zaP,zaS,zak,zau,zag,tokz1,lk,zab,zcW,zcD,zbp,zbF,zdo,zdd,zdx,zb9,tbC,-List.map_map])
     ·have hnx:zhZ t a p = a:=by
       unfold zhZ
       rw [← hsl,c1,hd0,← hatm,c2]; rfl
      simp (maxSteps:=4000000) only [go_sem,zae,zap,zab,czb,cza,↓reduceIte,zaa,zaL,zao,zcO,zc9,zca,zbD,zbC,zbk,zcg,zg5,zgE,zsm,zhb,zc0,zcp,c1,c2,h10,h10b,hlm,hl1,hpos,hgd,hnx,zdL]
      all_goals (repeat' first | (with_reducible first | rfl | apply And.intro | assumption) | ((with_reducible show zaf _ _ = true); rfl)) <;> try first | omega | (simp only [InR]; omega)
      all_goals (try simp [AV.bare,zal,zaP,zaS,zak,zau,zag,tokz1,lk,zab,zcW,zcD,zbp,zbF,zdo,zdd,zb9,tbC,-List.map_map])
  ·refine ⟨?_,?_⟩
   ·have:=h.1
    unfold zhZ
    split
    ·simp; omega
    ·omega
   ·unfold zhZ
    split
    ·exact zg7 h.2 _
    ·exact h.2
 ·show endA _ _ (zcp _ _ _ _ _ _ _ _ (zhv t)) (zab (zcp _ _ _ _ _ _ _ _ (zhv t)) _)
  generalize zhv t = a
  have hlm:(a.1.map zft).length = a.1.length:=by simp
  cases c2:decide ((a.1.length:Int) = 0)
  ·have c3:¬ a.1.length = 0:=by simp at c2; intro q; exact c2 (by simpa using q)
   rw [if_neg c3]
   simp (maxSteps:=4000000) only [go_sem,zae,zac,zad,zap,zas,zab,czb,cza,↓reduceIte,zaa,zaL,zao,zcO,zc9,zca,zbD,zbC,zbk,zcg,endA,zrJ,zhw,zcp,hlm,c2,ze9,wkC]
   refine ⟨rfl,?_⟩
   have hts:∀ (mem:List AObj) (n:Nat),(zb9 n).map (zcb 6 mem) = zb9 n:=fun mem n => by simp [zb9,zcb]
   rw [hts]
  ·have c3:a.1.length = 0:=by simp at c2; simpa using c2
   rw [if_pos c3]
   simp (maxSteps:=4000000) only [go_sem,zae,zac,zad,zap,zas,zab,czb,cza,↓reduceIte,zaa,zaL,zao,zcO,zc9,zca,zbD,zbC,zbk,zcg,endA,zrJ,zhw,zcp,hlm,c2,zel]
   rfl
def P39 (g:FuncId):=(zax 122 (zbL (fun (t:Tb) (_:Bool) => t.heights.length ≤ 4096) zlF) (P38):zaN) g
theorem zuM:zaD Tryz.prog P39:=zaj (zaR zwS) (zp2)
theorem zuN (d:Option Nat):zaK P39 d = none:=(zai (by decide) d).trans (zuO d)
attribute [go_sem] P39 zuN
theorem askS_mem {t:Tb} (l:List (List Int)):∀ (a:List (List Int) × List (List Int)),(∀ p ∈ (zd7 (fun _ _ => true) (zhZ t) a l).1.1,p ∈ a.1 ∨ (p ∈ l ∧ zdJ t (zdv p) [] t.marks.length = true)):=by
 induction l with
 | nil => intro a p hp; exact .inl hp
 | cons q l ih =>
  intro a p hp
  simp only [zd7,if_true] at hp
  rcases ih _ p hp with h | h
  ·unfold zhZ at h
   split at h
   ·rename_i c
    rcases czv.1 h with h | h
    ·exact .inl h
    ·simp only [czC] at h
     subst h
     simp only [czl] at c
     exact .inr ⟨by simp,c.1⟩
   ·exact .inl h
  ·exact .inr ⟨by simp [h.1],h.2⟩
def zhe (w:Wk) (s:Arr 10) (level:Int):Int :=
 match zjr s.l level (w.t.last + 1).toNat with
 | [] => w.t.last + 1
 | x :: _ => x
theorem zos (w:Wk) (s:Arr 10) (level z:Int) (h:0 ≤ w.t.last ∧ w.t.last ≤ 9):zaU Tryz.prog 124 [Enc.enc w,Enc.enc s,Enc.enc level,Enc.enc z] (· = Enc.enc (zhe w s level)):=by
 have h1:=h.1
 have h2:=h.2
 have h10:=s.h
 unfold zhe
 have hle:=zh1 s.l level (w.t.last + 1).toNat
 cases c:zjr s.l level (w.t.last + 1).toNat
 ·simp only [zuh,wkC]
  simp only [zcw]
  refine cpz zuM Tryz.func124 zaF ?_
  rw [Tryz.ntmps124]
  simp only [Tryz.f124,zah,zaq]
  simp (maxSteps:=4000000) only [go_sem,zae,zac,zad,zap,zas,zab,czb,cza,↓reduceIte,zaa,zaL,zao,zcO,zc9,zca,zbD,zbC,zbk,zcg,c,h10]
  all_goals exact auz
 ·rename_i x r
  simp only [zuh,wkC]
  simp only [zcw]
  refine cpz zuM Tryz.func124 zaF ?_
  rw [Tryz.ntmps124]
  simp only [Tryz.f124,zah,zaq]
  simp (maxSteps:=4000000) only [go_sem,zae,zac,zad,zap,zas,zab,czb,cza,↓reduceIte,zaa,zaL,zao,zcO,zc9,zca,zbD,zbC,zbk,zcg,c,h10,show ((0:Int) < ((r.length + 1:Nat):Int)) by omega]
  all_goals exact auz
def zh4 (hour:Int) (r:Rg) (k:List Int):Rg:=if at_ k 0 = hour then zdu r (at_ k 1) else r
def zhm (w:Wk) (hour:Int):Rg:=w.ks.foldl (zh4 hour) ⟨at_ (at_ w.truth 0).l hour.toNat,at_ (at_ w.truth 0).l hour.toNat⟩
theorem zvv (hour:Int) (r:Rg) (a b:List Int):zh4 hour (zh4 hour r a) b = zh4 hour (zh4 hour r b) a:=by
 unfold zh4 zdu
 by_cases h1:at_ a 0 = hour <;> by_cases h2:at_ b 0 = hour <;> simp only [h1,h2,if_true,if_false,Rg.mk.injEq]
 constructor <;> omega
theorem fold_seen (ks:List (List Int)) (hour:Int) (r0:Rg) (seen:List Nat) (hnd:seen.Nodup) (hlt:∀ i ∈ seen,i < ks.length) (hall:∀ i,i < ks.length → i ∈ seen) :
  seen.foldl (fun r i => zh4 hour r (ks.getD i [])) r0 = ks.foldl (zh4 hour) r0:=by
 have hp:seen.Perm (List.range ks.length):=(List.perm_ext_iff_of_nodup hnd List.nodup_range).2 fun i => ⟨fun q => by simpa using hlt i q,fun q => hall i (by simpa using q)⟩
 rw [List.Perm.foldl_eq' hp (fun x _ y _ z => zvv hour z _ _)]
 have e:(List.range ks.length).map (fun i => ks.getD i []) = ks:=by
  apply List.ext_getElem
  ·simp
  ·intro i h1 h2
   simp [List.getD,h2]
 conv => rhs; rw [← e]
 rw [List.foldl_map]
theorem znP (w:Wk) (hour:Int) (h:(0 ≤ hour ∧ hour ≤ 9) ∧ 0 < w.truth.length ∧ ∀ k ∈ w.ks,k.length = 2):zaU Tryz.prog 127 [Enc.enc w,Enc.enc hour] (· = Enc.enc (zhm w hour)):=by
 obtain ⟨hour,rfl⟩:=czu h.1.1
 have h0:=zat (f:=EncE.cs) h.2.1
 have h10:=(at_ w.truth 0).h
 have hg:=zfG (l:=(at_ w.truth 0).l) (i:=hour) (by omega)
 simp only [zuh,wkC]
 simp only [zcw]
 refine cpz zuM Tryz.func127 zaF ?_
 rw [Tryz.ntmps127]
 simp only [Tryz.f127,zah,zaq]
 simp (maxSteps:=4000000) only [go_sem,zae,zac,zad,zap,zas,zab,czb,cza,↓reduceIte,zaa,zaL,zao,zcO,zc9,zca,zbD,zbC,zbk,zcg,h0,h10,hg]
 all_goals (repeat' first | (with_reducible first | rfl | apply And.intro | assumption) | ((with_reducible show zaf _ _ = true); rfl)) <;> try first | omega | (simp only [InR]; omega)
 have hkey:∀ i,i < w.ks.length → w.ks.getD i [] = [at_ (w.ks.getD i []) 0,at_ (w.ks.getD i []) 1]:=by
  intro i hi
  have h2:=h.2.2 (w.ks.getD i []) (by simp [List.getD,hi])
  generalize w.ks.getD i [] = k at h2
  match k,h2 with
  | [x,y],_ => rfl
 have hlast:∀ (seen:List Nat) (i:Nat),(seen ++ [i]).getLast? = some i:=fun seen i => by simp
 refine zk6 [] [1,4,5,28] (fun _:List Nat => []) (fun seen m => (m.set 1 (.cells (EncE.cs (seen.foldl (fun r i => zh4 hour r (w.ks.getD i [])) (⟨at_ (at_ w.truth 0).l hour,at_ (at_ w.truth 0).l hour⟩:Rg))))).set 2 (.iter (.mpr w.ks (zb9 w.ks.length)) w.ks.length seen)) (fun seen => seen.Nodup ∧ ∀ i ∈ seen,i < w.ks.length) (fun seen => w.ks.length - seen.length) ([]) ?_ ?_ ?_
 ·simp
 ·simp [AV.bare,zal,zaP,zaS,zak,zau,zag,tokz1,lk,zab,zcW,ziU,zbp,zb9]
 ·intro seen hI
  simp (maxSteps:=4000000) only [go_sem,zae,zac,zad,zap,zas,zab,czb,cza,↓reduceIte,zaa,zaL,zao,zcO,zc9,zca,zbD,zbC,zbk,zcg,hlast]
  refine ⟨fun i hi hn => ?_,fun hall => ?_⟩
  ·obtain ⟨x,y,hk⟩:∃ x y,w.ks.getD i [] = [x,y]:=⟨_,_,hkey i hi⟩
   have hfold:(seen ++ [i]).foldl (fun r i => zh4 hour r (w.ks.getD i [])) (⟨at_ (at_ w.truth 0).l hour,at_ (at_ w.truth 0).l hour⟩:Rg) = zh4 hour (seen.foldl (fun r i => zh4 hour r (w.ks.getD i [])) ⟨at_ (at_ w.truth 0).l hour,at_ (at_ w.truth 0).l hour⟩) [x,y]:=by
    rw [List.foldl_append]; simp only [List.foldl_cons,List.foldl_nil,hk]
   have hnd:(seen ++ [i]).Nodup ∧ ∀ j ∈ seen ++ [i],j < w.ks.length:=by
    refine ⟨?_,fun j hj => ?_⟩
    ·rw [List.nodup_append]
     exact ⟨hI.1,by simp,fun a ha b hb => by simp at hb; subst hb; intro q; subst q; exact hn ha⟩
    ·rcases czv.1 hj with hj | hj
     ·exact hI.2 j hj
     ·simp at hj; subst hj; exact hi
   have hlt:seen.length < w.ks.length:=by
    have h1:(seen ++ [i]).length ≤ (List.range w.ks.length).length:=List.Nodup.length_le_of_subset hnd.1 fun j hj => by simpa using hnd.2 j hj
    simp at h1
    omega
   cases c:decide (x = (hour:Int)) <;>
    simp (maxSteps:=4000000) only [go_sem,zae,zac,zad,zap,zas,zab,czb,cza,↓reduceIte,zaa,zaL,zao,zcO,zc9,zca,zbD,zbC,zbk,zcg,hk,keyA,c]
   all_goals all_goals (repeat' first | (with_reducible first | rfl | apply And.intro | assumption) | ((with_reducible show zaf _ _ = true); rfl)) <;> try first | omega | (simp only [InR]; omega)
   all_goals
    refine ⟨seen ++ [i],hnd,by simp; omega,zbo ?_⟩
    simp only [hfold]
    simp at c
    simp [AV.bare,zal,zaP,zaS,zak,zau,zag,tokz1,lk,zab,zcW,zh4,at_,c,ziU,zbp,zb9]
  ·rw [fold_seen w.ks hour _ seen hI.1 hI.2 hall]
   rfl
def P40 (g:FuncId):=(zax 127 (zbL (fun (w:Wk) (hour:Int) => (0 ≤ hour ∧ hour ≤ 9) ∧ 0 < w.truth.length ∧ ∀ k ∈ w.ks,k.length = 2) zhm) (P39):zaN) g
theorem P40_ok:zaD Tryz.prog P40:=zaj (zaR znP) (zuM)
theorem zuL (d:Option Nat):zaK P40 d = none:=(zai (by decide) d).trans (zuN d)
attribute [go_sem] P40 zuL
end Go.Proofs
