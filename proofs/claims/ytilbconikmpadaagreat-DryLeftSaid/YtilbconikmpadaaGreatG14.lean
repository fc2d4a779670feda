/- The texts H7, H8, H9, H10, joined. -/
import Derived.Test.YtilbconikmpadaaGreatG13
set_option linter.all false
namespace Go.Proofs
open Go.Fs
set_option maxHeartbeats 4000000
set_option maxRecDepth 8000
def zkL (y:Yd) (m0:Nat):AV:=.fn (.func 166) [] [.ptr (m0 + 2) 0,.ref (ydC y) 0,.ptr m0 0,.ptr (m0 + 3) 0]
def zeE (y:Yd) (m0 l:Nat) (s:List Int):List AObj:=[.cells [.yld l],.cells (s.map (AV.int .i64)),.cells [.arr (m0 + 1) 0 (hrs y) 1],.cells [zkL y m0]]
section
variable {σ:Type} {M:σ → List AObj} {m0 l:Nat} {y:Yd} {go:σ → List Int → Bool} {next:σ → List Int → σ} {Rdy:Nat → σ → Prop} {T:Nat}
structure IterY (M:σ → List AObj) (m0 l:Nat) (y:Yd) (go:σ → List Int → Bool) (next:σ → List Int → σ) (Rdy:Nat → σ → Prop) (T:Nat):Prop where
 len:∀ a,(M a).length = m0
 lt:l < m0
 ok:∀ a,∀ o ∈ M a,zb6 m0 o
 yield:∀ k a p (R:List AObj),Rdy k a → k < T → ze4 y.t p = true → (∀ o ∈ R,zb6 (m0 + R.length) o) → ztI Tryz.prog l [seaC (zbH y.t p)] (M a ++ R) (fun r mem' => r = .bool (go a p) ∧ mem' = M (next a p) ++ R)
 rdy:∀ k a p,Rdy k a → k < T → go a p = true → Rdy (k + 1) (next a p)
theorem zuU (s:Sea) (k:Nat):(∀ c ∈ EncE.cs s,bel k 9 c):=fun c hc => zcO _ _ _ (EncE.ok s c hc) (by rw [zfU]; omega)
theorem ydC_bel (y:Yd) (k n:Nat) (h:3 ≤ n):∀ c ∈ ydC y,bel k n c:=fun c hc => zcO _ _ _ (zfD y c hc) (by omega)
theorem xtraY_ok (hlt:l < m0) (s:List Int):∀ o ∈ zeE y m0 l s,zb6 (m0 + 4) o:=by
 intro o ho
 simp only [zeE,czn,czk,or_false] at ho
 rcases ho with rfl | rfl | rfl | rfl
 ·simp only [zbl,czn,czk,or_false,forall_eq,zr9]; omega
 ·rw [zbl,znr]; trivial
 ·simp only [zbl,czn,czk,or_false,forall_eq,zsc]; omega
 ·simp only [zbl,czn,czk,or_false,forall_eq,zkL,bel_fn,forall_eq_or_imp,zsb,zsa]
  exact ⟨fun c h => h.elim,by omega,ydC_bel y _ _ (by omega),by omega,by omega⟩
theorem zhB (hi:IterY M m0 l y go next Rdy T) (a:σ) (s:List Int) {R:List AObj} (hR:∀ o ∈ R,zb6 (m0 + 4 + R.length) o):∀ o ∈ M a ++ (zeE y m0 l s ++ R),zb6 (m0 + 4 + R.length) o:=fun o ho => by
 rcases czv.1 ho with q | q
 ·exact zda (by omega) o (hi.ok a o q)
 ·rcases czv.1 q with q | q
  ·exact zda (by omega) o (xtraY_ok hi.lt s o q)
  ·exact hR o q
theorem zdp (hi:IterY M m0 l y go next Rdy T) (a:σ) (s:List Int) (R:List AObj):(M a ++ (zeE y m0 l s ++ R)).length = m0 + 4 + R.length:=by
 rw [czc,czc,hi.len]; show m0 + (4 + R.length) = _; omega
theorem zo4 (hi:IterY M m0 l y go next Rdy T) (hv:VY y):∀ (f:Nat) (p s:List Int) (a:σ) (k:Nat) (R:List AObj),p.length + f = hrs y → s.length = hrs y → s.take p.length = p → Rdy k a → k + (ziF y.t f p).length ≤ T → (∀ o ∈ R,zb6 (m0 + 4 + R.length) o) →
  zga Tryz.prog 166 [.int .i64 p.length,.ptr (m0 + 2) 0,.ref (ydC y) 0,.ptr m0 0,.ptr (m0 + 3) 0] (M a ++ (zeE y m0 l s ++ R))
   (fun r mem' => ∃ s',s'.length = hrs y ∧ s'.take p.length = p ∧ r = .bool (zdW go next a (ziF y.t f p)).2 ∧ mem' = M (zdW go next a (ziF y.t f p)).1 ++ (zeE y m0 l s' ++ R) ∧ ((zdW go next a (ziF y.t f p)).2 = true → Rdy (k + (ziF y.t f p).length) (zdW go next a (ziF y.t f p)).1)):=by
 have hh4:y.t.heights.length ≤ 4096:=by have:=hv.fok.len; have:=hv.l0; omega
 intro f
 induction f with
 | zero =>
  intro p s a k R hf hsl hp hr hT hR
  have hpl:p.length = hrs y:=by omega
  have hps:p = s:=by rw [← hp,hpl,← hsl,czm]
  subst hps
  rw [hpl]
  obtain ⟨n,hn⟩:∃ n,hrs y = n:=⟨_,rfl⟩
  have hokA:=zhB hi a p hR
  have hlenA:=zdp hi a p R
  obtain ⟨mm,hmm⟩:∃ mm,M a ++ (zeE y m0 l p ++ R) = mm:=⟨_,rfl⟩
  obtain ⟨n0,hn0⟩:∃ n0,m0 + 4 + R.length = n0:=⟨_,rfl⟩
  rw [hmm,hn0] at hokA hlenA
  have g0:∀ r,zab (mm ++ r) m0 = .cells [.yld l]:=fun r => by rw [zaX (by omega),← hmm,← hi.len a]; exact zaP _ _ 0
  have g0':zab mm m0 = .cells [.yld l]:=by rw [← hmm,← hi.len a]; exact zaP _ _ 0
  have g1:zab mm (m0 + 1) = .cells (p.map (AV.int .i64)):=by rw [← hmm,← hi.len a]; exact zaP _ _ 1
  have g2:zab mm (m0 + 2) = .cells [.arr (m0 + 1) 0 n 1]:=by rw [← hmm,← hi.len a,← hn]; exact zaP _ _ 2
  have g4:∀ r,zab (mm ++ r) n0 = zab r 0:=fun r => by rw [← hlenA]; exact zaP _ _ 0
  have s4:∀ r o,(mm ++ r).set n0 o = mm ++ r.set 0 o:=fun r o => by rw [← hlenA]; exact zbW _ _ 0 _
  have hpn:p.length = n:=by omega
  have hch:zc4 1 n (p.map (AV.int .i64)) = p.map EncE.cs:=by rw [zfW p n (by omega),cze (by omega)]
  have h10:=hv.hrs
  rw [hn] at h10
  have hp4:p.length ≤ 4096:=by omega
  rw [hmm,hn]
  refine zcd (Φ:=P120) Tryz.func166 rfl (by rfl) (by rw [Tryz.ntmps166]; simp) zaD ziZ (by simp [AV.strip,AV.strip1]) ?_
  rw [Tryz.ntmps166]
  simp only [Tryz.f166,zag,zap,ydC]
  iterate 2 (
   refine zar fun Q1 h1 => ?_
   simp (maxSteps:=4000000) only [go_sem,zae,zac,zad,zaq,zas,czb,cza,↓reduceIte,zaa,onz,g0',g1,g2,hpn,hch,hlenA]
   all_goals (repeat' first | (with_reducible first | rfl | apply And.intro | assumption) | ((with_reducible show zaf _ _ = true); rfl)) <;> try first | omega | (simp only [InR]; omega)
   rw [h1]; clear h1 Q1; simp only [zaE,zam])
  have hsq:ziF y.t 0 p = if ze4 y.t p then [p] else []:=rfl
  cases c1:ze4 y.t p
  ·rw [c1] at hsq
   simp only [czp,if_false] at hsq
   rw [hsq] at hT ⊢
   simp (maxSteps:=4000000) only [go_sem,zae,zac,zad,zaq,zas,czb,cza,↓reduceIte,zaa,onz,g0',g1,g2,hpn,hch,hlenA,c1]
   rw [cze (by omega)]
   exact ⟨⟨hh4,by omega⟩,⟨p,by omega,by rw [← hpn,czm],rfl,hmm.symm,fun _ => hr⟩,trivial,hokA⟩
  ·rw [c1,if_pos rfl] at hsq
   rw [hsq] at hT ⊢
   have hr1:zdW go next a [p] = (next a p,go a p):=by
    simp only [zdW]
    cases go a p <;> rfl
   rw [hr1]
   have hll:za4 y.t p = true:=by
    unfold ze4 zby at c1
    simp only [czl] at c1
    exact c1.2.1
   have hokA':∀ o ∈ mm,zb6 mm.length o:=by rw [hlenA]; exact hokA
   have hY:=hi.yield k a p ((zeE y m0 l p ++ R) ++ [.cells [.sl ((zbH y.t p).hs.map EncE.cs) .no,.sl ((zbH y.t p).rows.map EncE.cs) .no]]) hr (by simp at hT; omega) c1 (fun o ho => by
    have e:m0 + ((zeE y m0 l p ++ R) ++ [AObj.cells [.sl ((zbH y.t p).hs.map EncE.cs) .no,.sl ((zbH y.t p).rows.map EncE.cs) .no]]).length = n0 + 1:=by
     rw [czc,czc,← hn0]; show m0 + (4 + R.length + 1) = _; omega
    rw [e]
    rcases czv.1 ho with q | q
    ·exact zda (by omega) o (hokA o (by rw [← hmm]; exact List.mem_append_right _ q))
    ·simp only [czC] at q
     subst q
     exact zuU (zbH y.t p) _)
   obtain ⟨S,hS⟩:∃ S,zbH y.t p = S:=⟨_,rfl⟩
   rw [hS] at hY
   rw [← czd,hmm] at hY
   unfold seaC at hY
   simp (maxSteps:=4000000) only [go_sem,zae,zac,zad,zaq,zas,czb,cza,↓reduceIte,zaa,onz,g0,g0',g1,g2,g4,s4,hpn,hch,hlenA,c1,czd,czc]
   have hX:=seaX_call y p hv hll g1 hokA' (by omega)
   rw [hpn,hS] at hX
   unfold ydC at hX
   all_goals (repeat' first | (with_reducible first | rfl | apply And.intro | assumption) | ((with_reducible show zaf _ _ = true); rfl)) <;> try first | omega | (simp only [InR]; omega)
   refine ⟨_,hX,?_⟩
   rintro r mem' ⟨rfl,rfl⟩ hlen
   simp (maxSteps:=4000000) only [go_sem,zae,zac,zad,zaq,zas,czb,cza,↓reduceIte,zaa,onz,g0,g0',g1,g2,g4,s4,hpn,hch,hlenA,czd,czc,seaC]
   all_goals (repeat' first | (with_reducible first | rfl | apply And.intro | assumption) | ((with_reducible show zaf _ _ = true); rfl)) <;> try first | omega | (simp only [InR]; omega)
   refine ⟨_,hY,?_⟩
   rintro r mem' ⟨rfl,rfl⟩ hlen
   have hokB:=zhB hi (next a p) p hR
   have hlenB:=zdp hi (next a p) p R
   rw [hn0] at hokB hlenB
   rw [← czd,List.take_append_of_le_length (by omega),cze (by omega)]
   exact ⟨trivial,trivial,⟨p,by omega,by rw [← hpn,czm],rfl,rfl,fun q => hi.rdy k a p hr (by simp at hT; omega) q⟩,trivial,hokB⟩
 | succ f ih =>
  intro p s a k R hf hsl hp hr hT hR
  have hpl:p.length < y.t.heights.length:=by have:=hv.fok.len; have:=hv.hrs; omega
  have hrg:=hv.fok.hs _ (zbh hpl)
  obtain ⟨hg,hhg⟩:∃ hg,at_ y.t.heights p.length = hg:=⟨_,rfl⟩
  have hge:(y.t.heights.map EncE.cs).getD p.length [] = [AV.int .i64 hg.lo,AV.int .i64 hg.hi]:=by rw [zax hpl,hhg]; rfl
  rw [hhg] at hrg
  obtain ⟨n,hn⟩:∃ n,hrs y = n:=⟨_,rfl⟩
  have h10:=hv.hrs
  rw [hn] at h10 hf hsl
  have hpn:¬ (p.length:Int) = (n:Int):=by omega
  have hokA:=zhB hi a s hR
  have hlenA:=zdp hi a s R
  have hW0:ziF y.t (f + 1) p = zhl y.t f p (szR hg).toNat:=by unfold zhl; rw [← hhg]; rfl
  obtain ⟨mm,hmm⟩:∃ mm,M a ++ (zeE y m0 l s ++ R) = mm:=⟨_,rfl⟩
  obtain ⟨n0,hn0⟩:∃ n0,m0 + 4 + R.length = n0:=⟨_,rfl⟩
  rw [hmm,hn0] at hokA hlenA
  have g1:zab mm (m0 + 1) = .cells (s.map (AV.int .i64)):=by rw [← hmm,← hi.len a]; exact zaP _ _ 1
  have g2:zab mm (m0 + 2) = .cells [.arr (m0 + 1) 0 n 1]:=by rw [← hmm,← hi.len a,← hn]; exact zaP _ _ 2
  have g4:∀ r,zab (mm ++ r) n0 = zab r 0:=fun r => by rw [← hlenA]; exact zaP _ _ 0
  have s4:∀ r o,(mm ++ r).set n0 o = mm ++ r.set 0 o:=fun r o => by rw [← hlenA]; exact zbW _ _ 0 _
  rw [hmm]
  refine zcd (Φ:=P120) Tryz.func166 rfl (by rfl) (by rw [Tryz.ntmps166]; simp) zaD ziZ (by simp [AV.strip,AV.strip1]) ?_
  rw [Tryz.ntmps166]
  simp only [Tryz.f166,zag,zap,ydC]
  iterate 5 (
   refine zar fun Q1 h1 => ?_
   simp (maxSteps:=4000000) only [go_sem,zae,zac,zad,zaq,zas,czb,cza,↓reduceIte,zaa,onz,g1,g2,g4,s4,hpn,hge,hlenA,czd,czc]
   all_goals (repeat' first | (with_reducible first | rfl | apply And.intro | assumption) | ((with_reducible show zaf _ _ = true); rfl)) <;> try first | omega | (simp only [InR]; omega)
   rw [h1]; clear h1 Q1; simp only [zaE,zam])
  simp (maxSteps:=4000000) only [go_sem,zae,zac,zad,zaq,zas,czb,cza,↓reduceIte,zaa,onz]
  have hRc:∀ o ∈ R ++ [AObj.cells [AV.int .i64 hg.lo,AV.int .i64 hg.hi]],zb6 (m0 + 4 + (R ++ [AObj.cells [AV.int .i64 hg.lo,AV.int .i64 hg.hi]]).length) o:=by
   intro o ho
   rw [czc,← Nat.add_assoc]
   rcases czv.1 ho with q | q
   ·exact zda (by omega) o (hR o q)
   ·simp only [czC] at q
    subst q
    simp [AV.bare,zal,zaN,zaS,zak,zat,zah,tokz1,lk,zab,za2]
  obtain ⟨RR,hRR⟩:∃ RR,R ++ [AObj.cells [AV.int .i64 hg.lo,AV.int .i64 hg.hi]] = RR:=⟨_,rfl⟩
  have hRl:RR.length = R.length + 1:=by rw [← hRR]; simp
  rw [hRR] at hRc
  refine zjt [] [0,1,4,6,9] (fun b:Nat × σ × List Int => [(10,.int .i64 (hg.lo + b.1))]) (fun b _ => M b.2.1 ++ (zeE y m0 l b.2.2 ++ RR)) (fun b => (b.1 ≤ (szR hg).toNat ∧ b.2.2.length = n ∧ b.2.2.take p.length = p) ∧ zdW go next a (zhl y.t f p b.1) = (b.2.1,true) ∧ Rdy (k + (zhl y.t f p b.1).length) b.2.1) (fun b => (szR hg).toNat - b.1) ((0,a,s)) ?_ ?_ ?_
  ·exact ⟨⟨Nat.zero_le _,hsl,hp⟩,rfl,hr⟩
  ·have hM0:mm ++ [AObj.cells [AV.int .i64 hg.lo,AV.int .i64 hg.hi]] = M a ++ (zeE y m0 l s ++ RR):=by rw [← hmm,← hRR,czd,czd]
   have hlA:=zdp hi a s RR
   simp only [zah,zch]
   rw [hM0]
   refine ⟨rfl,rfl,rfl,?_,za0 _,?_,zbu (by rw [hlA]; exact zhB hi a s hRc),trivial⟩
   ·show n0 ≤ _
    rw [hlA]; omega
   ·show zaN _ (M a ++ (zeE y m0 l s ++ RR)).length _
    rw [hlA]
    simp [AV.bare,zal,zaN,zaS,zak,zat,zah,tokz1,lk,zab,za2]
    omega
  ·rintro ⟨i,b,s'⟩ ⟨⟨hn1,hsl',hp'⟩,hrun,hrb⟩
   simp only at hn1 hsl' hp' hrun hrb
   have hlB:=fun b s => zdp (l:=l) hi b s RR
   have hph:p.length < s'.length:=by omega
   obtain ⟨mm2,hmm2⟩:∃ mm2,M b ++ (zeE y m0 l s' ++ RR) = mm2:=⟨_,rfl⟩
   have e1:zab mm2 (m0 + 1) = .cells (s'.map (AV.int .i64)):=by rw [← hmm2,← hi.len b]; exact zaP _ _ 1
   have e2:zab mm2 (m0 + 2) = .cells [.arr (m0 + 1) 0 n 1]:=by rw [← hmm2,← hi.len b,← hn]; exact zaP _ _ 2
   have e4:zab mm2 n0 = .cells [AV.int .i64 hg.lo,AV.int .i64 hg.hi]:=by
    rw [← hmm2,← hn0,← hRR,← hi.len b,Nat.add_assoc,zaP]
    have:=zaP (zeE y (M b).length l s' ++ R) [AObj.cells [AV.int .i64 hg.lo,AV.int .i64 hg.hi]] 0
    rw [czd] at this
    have e:(zeE y (M b).length l s' ++ R).length + 0 = 4 + R.length:=by rw [czc]; rfl
    rw [e] at this
    exact this
   dsimp only
   rw [hmm2]
   by_cases hiN:(i:Int) < szR hg
   ·obtain ⟨s1,hs1⟩:∃ s1,s'.set p.length (hg.lo + (i:Int)) = s1:=⟨_,rfl⟩
    have hs1l:s1.length = n:=by rw [← hs1,czt]; exact hsl'
    have hov:=zoq hph (hg.lo + (i:Int))
    rw [hs1] at hov
    obtain ⟨mm3,hmm3⟩:∃ mm3,M b ++ (zeE y m0 l s1 ++ RR) = mm3:=⟨_,rfl⟩
    have eset:mm2.set (m0 + 1) (AObj.cells (s1.map (AV.int .i64))) = mm3:=by
     rw [← hmm2,← hmm3,← hi.len b,zbW]; rfl
    have f3:zab mm3 (m0 + 3) = .cells [zkL y m0]:=by rw [← hmm3,← hi.len b]; exact zaP _ _ 3
    unfold zkL ydC at f3
    have ht1:s1.take (p.length + 1) = p ++ [hg.lo + (i:Int)]:=by rw [← hs1,zhH hph,hp']
    have hpq:(p ++ [hg.lo + (i:Int)]).length = p.length + 1:=by simp
    have hsn:=ziE y.t f p i
    rw [hhg] at hsn
    have hrn:zdW go next a (zhl y.t f p (i + 1)) = zdW go next b (ziF y.t f (p ++ [hg.lo + (i:Int)])):=by
     rw [hsn,zeI,hrun]; rfl
    have hlen2:=congrArg List.length hsn
    rw [czc] at hlen2
    have hpre:(zhl y.t f p (i + 1)).length ≤ (ziF y.t (f + 1) p).length:=by
     obtain ⟨r,hr⟩:=zgi y.t f p (i + 1) ((szR hg).toNat - (i + 1))
     rw [show i + 1 + ((szR hg).toNat - (i + 1)) = (szR hg).toNat by omega] at hr
     rw [hW0,hr,czc]
     omega
    have ihq:=ih (p ++ [hg.lo + (i:Int)]) s1 b (k + (zhl y.t f p i).length) RR (by rw [hpq,hn]; omega) (by rw [hn]; exact hs1l) (by rw [hpq]; exact ht1) hrb (by omega) hRc
    rw [hpq,show ((p.length + 1:Nat):Int) = (p.length:Int) + 1 by omega,hmm3,hn] at ihq
    unfold ydC at ihq
    have hcd:decide (hg.lo + (i:Int) ≤ hg.hi) = true:=by unfold szR at hiN; simp; omega
    have hbd:hg.lo + (i:Int) ≤ 99 ∧ 0 ≤ hg.lo + (i:Int):=by unfold szR at hiN; omega
    simp (maxSteps:=4000000) only [go_sem,zae,zac,zad,zas,czb,cza,↓reduceIte,zaa,onz,e1,e2,e4,f3,eset,hov,hcd,czz]
    all_goals (repeat' first | (with_reducible first | rfl | apply And.intro | assumption) | ((with_reducible show zaf _ _ = true); rfl)) <;> try first | omega | (simp only [InR]; omega)
    refine ⟨_,zbD ihq,?_⟩
    rintro r mem' ⟨r0,rfl,⟨s2,k0,k1,rfl,rfl,k5⟩,hlen⟩ _
    have hts2:s2.take p.length = p:=by
     have:=congrArg (List.take p.length) k1
     rw [List.take_take] at this
     simpa using this
    obtain ⟨b2,hb2⟩:∃ b2,(zdW go next b (ziF y.t f (p ++ [hg.lo + (i:Int)]))).1 = b2:=⟨_,rfl⟩
    rw [hb2] at k5
    rw [hb2]
    have htk:List.take n0 (M b2 ++ (zeE y m0 l s2 ++ RR)) = M b2 ++ (zeE y m0 l s2 ++ R):=by
     rw [← hRR,← czd,← czd]
     rw [List.take_append_of_le_length (by rw [czd,zdp hi]; omega),cze (by rw [czd,zdp hi]; omega),czd]
    have hokB:=zhB hi b2 s2 hR
    rw [hn0] at hokB
    cases c2:(zdW go next b (ziF y.t f (p ++ [hg.lo + (i:Int)]))).2
    all_goals
     simp (maxSteps:=4000000) only [go_sem,zae,zac,zad,zaq,zas,czb,cza,↓reduceIte,zaa,onz,c2,htk]
     all_goals (repeat' first | (with_reducible first | rfl | apply And.intro | assumption) | ((with_reducible show zaf _ _ = true); rfl)) <;> try first | omega | (simp only [InR]; omega)
    ·have hW:zdW go next a (ziF y.t (f + 1) p) = zdW go next b (ziF y.t f (p ++ [hg.lo + (i:Int)])):=by
      obtain ⟨r,hr⟩:=zgi y.t f p (i + 1) ((szR hg).toNat - (i + 1))
      rw [show i + 1 + ((szR hg).toNat - (i + 1)) = (szR hg).toNat by omega] at hr
      rw [hW0,hr,zeI,hrn,c2,if_neg (by simp)]
     rw [hW,hlenA,htk,hb2,c2]
     exact ⟨s2,by rw [hn]; exact k0,hts2,rfl,rfl,fun q => by cases q⟩
    ·trivial
    ·rw [hlenA,htk]; exact hokB
    ·refine ⟨(i + 1,b2,s2),⟨⟨by dsimp only; omega,by dsimp only; omega,hts2⟩,?_,?_⟩,by dsimp only; omega,?_⟩
     ·rw [hrn,← hb2,← c2]
     ·dsimp only
      rw [hlen2,← Nat.add_assoc]
      exact k5 c2
     ·simp only [zah,zch]
      refine zbi ⟨rfl,rfl,rfl,by dsimp only; rw [zdp hi]; omega,za0 _,?_,zbu (by rw [zdp hi]; exact zhB hi b2 s2 hRc),trivial⟩
      show zaN _ (M b2 ++ (zeE y m0 l s2 ++ RR)).length _
      rw [zdp hi]
      simp [AV.bare,zal,zaN,zaS,zak,zat,zah,tokz1,lk,zab,za2]
      omega
   ·have hN:i = (szR hg).toNat:=by omega
    have hcd:decide (hg.lo + (i:Int) ≤ hg.hi) = false:=by unfold szR at hiN; simp; omega
    have hW:zdW go next a (ziF y.t (f + 1) p) = (b,true):=by rw [hW0,← hN,hrun]
    have hokB:=zhB hi b s' hR
    have htk:List.take mm.length (M b ++ (zeE y m0 l s' ++ RR)) = M b ++ (zeE y m0 l s' ++ R):=by
     rw [← hRR,← czd,← czd,hlenA]
     rw [List.take_append_of_le_length (by rw [czd,zdp hi]; omega),cze (by rw [czd,zdp hi]; omega),czd]
    rw [hn0] at hokB
    simp (maxSteps:=4000000) only [go_sem,zae,zac,zad,zaq,zas,czb,cza,↓reduceIte,zaa,onz,e1,e2,e4,hcd]
    all_goals (repeat' first | (with_reducible first | rfl | apply And.intro | assumption) | ((with_reducible show zaf _ _ = true); rfl)) <;> try first | omega | (simp only [InR]; omega)
    ·rw [← hmm2,hW,htk]
     exact ⟨s',by rw [hn]; exact hsl',hp',rfl,rfl,fun _ => by rw [hW0,← hN]; exact hrb⟩
    ·trivial
    ·rw [← hmm2,htk,hlenA]; exact hokB
theorem zuT (hi:IterY M m0 l y go next Rdy T) (hv:VY y) (a:σ) (hr:Rdy 0 a) (hT:(zlK y.t).length ≤ T) :
  zga Tryz.prog 165 [.yld l,.ref (ydC y) 0] (M a) (fun r mem' => mem' = M (zdW go next a (zlK y.t)).1):=by
 obtain ⟨n,hn⟩:∃ n,hrs y = n:=⟨_,rfl⟩
 have h10:=hv.hrs
 have hla:=hi.len a
 have hzl:(List.replicate n (0:Int)).length = n:=by simp
 have hc:=zo4 hi hv (hrs y) [] (List.replicate n 0) a 0 [] (by simp) (by rw [hn]; simp) rfl hr (by rw [Nat.zero_add]; unfold zlK at hT; exact hT) (fun o ho => by cases ho)
 have hsl:ziF y.t (hrs y) [] = zlK y.t:=rfl
 rw [List.append_nil,hsl] at hc
 unfold zeE zkL ydC at hc
 rw [hn] at hc h10
 have gk:∀ r k,zab (M a ++ r) (m0 + k) = zab r k:=fun r k => by rw [← hla]; exact zaP _ _ k
 have sk:∀ r k o,(M a ++ r).set (m0 + k) o = M a ++ r.set k o:=fun r k o => by rw [← hla]; exact zbW _ _ k _
 have hnn:y.t.last + 1 = (n:Int):=by omega
 have hrep:zcb [AV.int .i64 0] n = (List.replicate n (0:Int)).map (AV.int .i64):=by rw [zeg]; simp
 refine zcd (Φ:=P120) Tryz.func165 rfl (by rfl) (by rw [Tryz.ntmps165]; simp) zaD ziZ (by simp [AV.strip,AV.strip1]) ?_
 rw [Tryz.ntmps165]
 simp only [Tryz.f165,zag,zap,ydC]
 iterate 4 (
  refine zar fun Q1 h1 => ?_
  simp (maxSteps:=4000000) only [go_sem,zae,zac,zad,zaq,zas,czb,cza,↓reduceIte,zaa,onz,gk,sk,hnn,hrep,hla,czd,czc]
  all_goals (repeat' first | (with_reducible first | rfl | apply And.intro | assumption) | ((with_reducible show zaf _ _ = true); rfl)) <;> try first | omega | (simp only [InR]; omega)
  rw [h1]; clear h1 Q1; simp only [zaE,zam])
 simp (maxSteps:=4000000) only [go_sem,zae,zac,zad,zaq,zas,czb,cza,↓reduceIte,zaa,onz,gk,sk,hnn,hrep,hla,czd,czc]
 refine ⟨_,zbD hc,?_⟩
 rintro r mem' ⟨r0,rfl,⟨s',_,_,rfl,rfl,_⟩,hlen⟩ _
 rw [List.take_left' (hi.len _)]
 exact ⟨rfl,by simp [bel],hi.ok _⟩
end
theorem zq2 {σ:Type} (mm:σ → List AObj) (ls:σ → LoopState) (pd:σ → Option Code) {y:Yd} (go:σ → List Int → Bool) (next:σ → List Int → σ) (Rdy:Nat → σ → Prop) (T:Nat) (tm':List (Nat × AV)) (a0:σ)
  {Q:QA} {st:St} {f:Operand} {ps:Array Tmp} {asg body:Code}
  (hv:VY y) (hf:(evT st.tm f).un = .fn (.func 165) [] [.ref (ydC y) 0]) (hav:(evT st.tm f).av)
  (htm:∀ q ∈ tm',q.2 = (lk st.tm q.1).strip) (hm0:mm a0 = st.mem) (hs0:ls a0 = .ready) (hp0:pd a0 = none)
  (hi:IterY (zcj mm ls pd tm' st.n ps asg body) (st.mem.length + 2) (st.mem.length + 1) y go next Rdy T) (hr:Rdy 0 a0) (hT:(zlK y.t).length ≤ T)
  (hend:endA Q st (zcj mm ls pd tm' st.n ps asg body (zdW go next a0 (zlK y.t)).1) (zab (zcj mm ls pd tm' st.n ps asg body (zdW go next a0 (zlK y.t)).1) (st.mem.length + 1))):zhV Tryz.prog f ps asg body Q st:=by
 unfold zhV
 rw [hf]
 have hM0:zcj mm ls pd tm' st.n ps asg body a0 = st.mem ++ [AObj.deferred,AObj.loop .ready none tm' st.n ps asg body]:=by
  unfold zcj; rw [hm0,hs0,hp0]
 refine ⟨hav,tm',(fun r mem' => mem' = zcj mm ls pd tm' st.n ps asg body (zdW go next a0 (zlK y.t)).1),htm,?_,?_⟩
 ·rw [← hM0]
  exact zuT hi hv a0 hr hT
 ·intro r mem' h hlen
  rw [h]
  exact hend
theorem seas_call (y:Yd):zaQ Tryz.prog 142 [Enc.enc y] (· = .fn (.func 165) [] [.ref (ydC y) 0]):=by
 simp only [zbz]
 refine cpz ziZ Tryz.func142 zaD ?_
 rw [Tryz.ntmps142]
 simp only [Tryz.f142,zag,zap]
 simp (maxSteps:=4000000) only [go_sem,AV.one,zae,zac,zad,zaq,zas,zab,czb,cza,↓reduceIte,zaa,onz,ydC]
structure SeasV where
 y:Yd
instance:Enc SeasV where
 enc x:=.fn (.func 165) [] [.ref (ydC x.y) 0]
 dec _:=none
 law v x h:=by cases h
 dep:=4
 ok x:=by
  have up:∀ v,zbq 2 v → zbq 2 v:=fun v h => h
  exact ⟨fun _ h => (by cases h),fun c hc => by
   simp only [czn,czk,or_false] at hc
   subst hc
   exact zfD x.y⟩
theorem zc9 (x:SeasV):Enc.enc x = .fn (.func 165) [] [.ref [.int .i64 x.y.t.last,.sl (x.y.t.heights.map EncE.cs) .no,.int .i64 x.y.t.step,.sl (x.y.t.levels.map EncE.cs) .no,.sl (x.y.t.marks.map EncE.cs) .no,
 .int .i64 x.y.hands,.sl (x.y.chairs.map EncE.cs) .no,.sl (x.y.order.map EncE.cs) .no,.sl (x.y.hires.map EncE.cs) .no] 0]:=rfl
structure W8 where
 y:Yd
 ts:List Sea
def w8C (w:W8):List AV:=[.int .i64 w.y.t.last,.sl (w.y.t.heights.map EncE.cs) .no,.int .i64 w.y.t.step,.sl (w.y.t.levels.map EncE.cs) .no,.sl (w.y.t.marks.map EncE.cs) .no,
 .int .i64 w.y.hands,.sl (w.y.chairs.map EncE.cs) .no,.sl (w.y.order.map EncE.cs) .no,.sl (w.y.hires.map EncE.cs) .no,.sl (w.ts.map EncE.cs) .no]
def znm:List AV → Option W8
 | [.int .i64 a,.sl b .no,.int .i64 c,.sl d .no,.sl e .no,.int .i64 f,.sl g .no,.sl h .no,.sl i .no,.sl j .no] =>
  match (zdH b:Option (List Rg)),(zdH d:Option (List Int)),(zdH e:Option (List Mk)),(zdH g:Option (List Ch)),(zdH h:Option (List Int)),(zdH i:Option (List Rg)),(zdH j:Option (List Sea)) with
  | some b,some d,some e,some g,some h,some i,some j => some ⟨⟨⟨a,b,c,d,e⟩,f,g,h,i⟩,j⟩
  | _,_,_,_,_,_,_ => none
 | _ => none
theorem zir {cs:List AV} {w:W8} (h:znm cs = some w):cs = w8C w:=by
 unfold znm at h
 split at h
 ·split at h
  ·rename_i h1 h2 h3 h4 h5 h6 h7
   cases h
   rw [zbt _ _ h1,zbt _ _ h2,zbt _ _ h3,zbt _ _ h4,zbt _ _ h5,zbt _ _ h6,zbt _ _ h7]
   rfl
  ·cases h
 ·cases h
theorem zrR (w:W8):znm (w8C w) = some w:=by
 simp only [znm,w8C,zdq]
theorem zjA (w:W8):∀ c ∈ w8C w,zbq 3 c:=by
 simp only [w8C,zbq,czn,czk,or_false,forall_eq_or_imp,forall_eq,true_and,czx,forall_exists_index,and_imp,forall_apply_eq_imp_iff₂]
 have up:∀ v,zbq 1 v → zbq 2 v:=fun v h => by cases v <;> simp_all [zbq]
 exact ⟨fun a _ c hc => up c (EncE.ok a c hc),fun a _ c hc => up c (EncE.ok a c hc),fun a _ c hc => up c (EncE.ok a c hc),fun a _ c hc => up c (EncE.ok a c hc),fun a _ c hc => up c (EncE.ok a c hc),fun a _ c hc => up c (EncE.ok a c hc),fun a _ => EncE.ok a⟩
instance:Enc W8 where
 enc w:=.ref (w8C w) 0
 dec
  | .ref cs 0 => znm cs
  | _ => none
 law v x h:=by
  split at h
  ·rw [zir h]
  ·cases h
 dep:=4
 ok:=zjA
instance:Enc (Option W8) where
 enc
  | some w => .ref (w8C w) 0
  | none => .nilp
 dec
  | .nilp => some none
  | .ref cs 0 => (znm cs).map some
  | _ => none
 law v x h:=by
  split at h
  ·cases h; rfl
  ·simp only [czr] at h
   obtain ⟨w,h1,rfl⟩:=h
   rw [zir h1]
  ·cases h
 dep:=4
 ok x:=by
  cases x with
  | none => trivial
  | some w => exact zjA w
theorem zbe (w:W8):Enc.enc w = .ref (w8C w) 0:=rfl
theorem zaU (w:W8):(Enc.dec (.ref [.int .i64 w.y.t.last,.sl (w.y.t.heights.map EncE.cs) .no,.int .i64 w.y.t.step,.sl (w.y.t.levels.map EncE.cs) .no,.sl (w.y.t.marks.map EncE.cs) .no,
 .int .i64 w.y.hands,.sl (w.y.chairs.map EncE.cs) .no,.sl (w.y.order.map EncE.cs) .no,.sl (w.y.hires.map EncE.cs) .no,.sl (w.ts.map EncE.cs) .no] 0):Option W8) = some w:=zrR w
theorem zau (w:W8):Enc.enc (some w) = .ref (w8C w) 0:=rfl
theorem zav:Enc.enc (none:Option W8) = .nilp:=rfl
structure FnK where
 w:W8
 n:Int
 s:Sea
instance:Enc FnK where
 enc f:=.fn (.func 143) [] [.ref [.ref (w8C f.w) 0] 0,.ref [.int .i64 f.n] 0,.ref [.sl (f.s.hs.map EncE.cs) .no,.sl (f.s.rows.map EncE.cs) .no] 0]
 dec
  | .fn (.func g) [] [.ref [.ref a 0] 0,.ref [.int .i64 n] 0,.ref s 0] =>
   if g = 143 then
    match znm a,zjd s with
    | some w,some s => some ⟨w,n,s⟩
    | _,_ => none
   else none
  | _ => none
 law v x h:=by
  split at h
  ·split at h
   ·rename_i e
    split at h
    ·rename_i h1 h2
     cases h
     rw [e,zir h1,ziS h2]
    ·cases h
   ·cases h
  ·cases h
 dep:=7
 ok x:=by
  have up:∀ n m (v:AV),zbq n v → n ≤ m → zbq m v:=by
   intro n
   induction n with
   | zero => intro m v h; simp [zbq] at h
   | succ n ih =>
    intro m v h hm
    obtain ⟨m,rfl⟩:∃ k,m = k + 1:=⟨m - 1,by omega⟩
    cases v <;> simp only [zbq] at h ⊢
    ·exact fun c hc => ih m c (h c hc) (by omega)
    ·exact fun c hc => ih m c (h c hc) (by omega)
    ·exact ⟨h.1,fun e he c hc => ih m c (h.2 e he c hc) (by omega)⟩
    ·exact fun c hc => ih m c (h c hc) (by omega)
    ·exact ⟨fun c hc => ih m c (h.1 c hc) (by omega),fun c hc => ih m c (h.2 c hc) (by omega)⟩
    ·exact fun c hc => ih m c (h c hc) (by omega)
  have h1:∀ c ∈ w8C x.w,zbq 4 c:=fun c hc => up 3 4 c (zjA x.w c hc) (by omega)
  have h2:∀ c ∈ ([.sl (x.s.hs.map EncE.cs) .no,.sl (x.s.rows.map EncE.cs) .no]:List AV),zbq 5 c:=fun c hc => up 2 5 c (zmN x.s c hc) (by omega)
  refine ⟨fun _ h => (by cases h),?_⟩
  intro c hc
  simp only [czn,czk,or_false] at hc
  rcases hc with rfl | rfl | rfl
  ·intro c hc
   simp only [czn,czk,or_false] at hc
   subst hc
   exact h1
  ·intro c hc
   simp only [czn,czk,or_false] at hc
   subst hc
   trivial
  ·exact h2
theorem zcS (f:FnK):Enc.enc f = .fn (.func 143) [] [.ref [.ref (w8C f.w) 0] 0,.ref [.int .i64 f.n] 0,.ref [.sl (f.s.hs.map EncE.cs) .no,.sl (f.s.rows.map EncE.cs) .no] 0]:=rfl
theorem zcT (w:W8) (n:Int) (s:Sea):(Enc.dec (.fn (.func 143) [] [.ref [.ref [.int .i64 w.y.t.last,.sl (w.y.t.heights.map EncE.cs) .no,.int .i64 w.y.t.step,.sl (w.y.t.levels.map EncE.cs) .no,.sl (w.y.t.marks.map EncE.cs) .no,
 .int .i64 w.y.hands,.sl (w.y.chairs.map EncE.cs) .no,.sl (w.y.order.map EncE.cs) .no,.sl (w.y.hires.map EncE.cs) .no,.sl (w.ts.map EncE.cs) .no] 0] 0,.ref [.int .i64 n] 0,.ref [.sl (s.hs.map EncE.cs) .no,.sl (s.rows.map EncE.cs) .no] 0]):Option FnK) = some ⟨w,n,s⟩:=by
 show (if _ then match znm (w8C w),zjd _ with | some w,some s => some (FnK.mk w n s) | _,_ => none else none) = _
 rw [if_pos rfl,zrR]
 simp only [zjd,zdq]
def ziq (f:FnK) (c:Ch):Bool:=!decide ((at_ (at_ f.w.ts (f.n - 1).toNat).rows c.row.toNat).l = (at_ f.s.rows c.row.toNat).l)
structure RefM (α:Type) where
 x:α
instance {α:Type} [EncE α]:Enc (RefM α) where
 enc f:=.ref (EncE.cs f.x) 0
 dec
  | .ref a 0 => (EncE.dcs a:Option α).map RefM.mk
  | _ => none
 law v x h:=by
  split at h
  ·simp only [czr] at h
   obtain ⟨y,h1,rfl⟩:=h
   rw [EncE.law _ _ h1]
  ·cases h
 dep:=EncE.dep α + 1
 ok x:=EncE.ok x.x
theorem enc_refm {α:Type} [EncE α] (f:RefM α):Enc.enc f = .ref (EncE.cs f.x) 0:=rfl
theorem dec_refm {α:Type} [EncE α] (a:List AV):(Enc.dec (.ref a 0):Option (RefM α)) = (EncE.dcs a:Option α).map RefM.mk:=rfl
attribute [go_sem] dec_refm
def KPre (w:W8) (n:Int) (s:Sea) (c:Ch):Prop:=0 ≤ c.row ∧ c.row < (at_ w.ts (n - 1).toNat).rows.length ∧ c.row < s.rows.length
theorem zvR (c:Ch) (w:RefC W8) (n:RefC Int) (s:RefM Sea) (h:(1 ≤ n.x ∧ n.x ≤ w.x.ts.length ∧ n.x ≤ 4096) ∧ KPre w.x n.x s.x c) :
  zaQ Tryz.prog 143 [Enc.enc c,Enc.enc w,Enc.enc n,Enc.enc s] (· = Enc.enc (ziq ⟨w.x,n.x,s.x⟩ c)):=by
 obtain ⟨w⟩:=w
 obtain ⟨n⟩:=n
 obtain ⟨s⟩:=s
 obtain ⟨⟨h1,h2,h24⟩,h3,h4,h5⟩:=h
 dsimp only at *
 obtain ⟨r,hr⟩:=czu h3
 have hk:(n - 1).toNat < w.ts.length:=by omega
 have g1:=zax (f:=EncE.cs) (l:=w.ts) (i:=(n - 1).toNat) hk
 obtain ⟨S,hS⟩:∃ S,at_ w.ts (n - 1).toNat = S:=⟨_,rfl⟩
 rw [hS] at g1 h4
 have g2:=zax (f:=EncE.cs) (l:=S.rows) (i:=r) (by omega)
 have g3:=zax (f:=EncE.cs) (l:=s.rows) (i:=r) (by omega)
 obtain ⟨A,hA⟩:∃ A,at_ S.rows r = A:=⟨_,rfl⟩
 obtain ⟨B,hB⟩:∃ B,at_ s.rows r = B:=⟨_,rfl⟩
 have hAl:=A.h
 have hBl:=B.h
 have hd:ziq ⟨w,n,s⟩ c = !decide (A.l = B.l):=by unfold ziq; rw [hS,hr,czF,hA,hB]
 rw [hA] at g2
 rw [hB] at g3
 rw [hd]
 simp only [zeu,enc_refm,zbe,w8C]
 simp only [zbz]
 refine cpz ziZ Tryz.func143 zaD ?_
 rw [Tryz.ntmps143]
 simp only [Tryz.f143,zag,zap]
 refine zar fun Q1 h1 => ?_
 simp (maxSteps:=4000000) only [go_sem,zae,zac,zad,zaq,zas,zab,czb,cza,↓reduceIte,zaU,zcT,zbe,zcS,zaa,onz]
 all_goals (repeat' first | (with_reducible first | rfl | apply And.intro | assumption) | ((with_reducible show zaf _ _ = true); rfl)) <;> try first | omega | (simp only [InR]; omega)
 rw [h1]; clear h1 Q1; simp only [zaE,zam]
 simp (maxSteps:=4000000) only [go_sem,zae,zac,zad,zaq,zas,zab,czb,cza,↓reduceIte,zaU,zcT,zbe,zcS,zaa,onz,hr,g1,g2,g3,hAl,hBl]
 all_goals (repeat' first | (with_reducible first | rfl | apply And.intro | assumption) | ((with_reducible show zaf _ _ = true); rfl)) <;> try first | omega | (simp only [InR]; omega)
def P121 (g:FuncId):=(zaw 142 (zct (fun _:Yd => True) SeasV.mk) (zaw 143 (zjm (fun (c:Ch) (w:RefC W8) (n:RefC Int) (s:RefM Sea) => (1 ≤ n.x ∧ n.x ≤ w.x.ts.length ∧ n.x ≤ 4096) ∧ KPre w.x n.x s.x c) (fun c w n s => ziq ⟨w.x,n.x,s.x⟩ c)) (P120)):zaL) g
theorem P121_ok:zaC Tryz.prog P121:=zaj (zbf fun y _ => seas_call y) (zaj (zer zvR) (ziZ))
theorem zp0 (d:Option Nat):zaI P121 d = none:=(zai (by decide) d).trans ((zai (by decide) d).trans (zp1 d))
attribute [go_sem] P121 zp0
theorem kI_call (l:List Ch) (f:FnK) (h:l.length ≤ 4096 ∧ (1 ≤ f.n ∧ f.n ≤ f.w.ts.length ∧ f.n ≤ 4096) ∧ ∀ c ∈ l,KPre f.w f.n f.s c):zaQ Tryz.prog 161 [Enc.enc l,Enc.enc f] (· = Enc.enc (zbr (ziq f) l l.length 0)):=by
 obtain ⟨w,n,s⟩:=f
 obtain ⟨h1,h2,h3⟩:=h
 dsimp only at h2 h3
 simp only [zcS,w8C]
 simp only [zbz]
 refine cpz P121_ok Tryz.func161 zaD ?_
 rw [Tryz.ntmps161]
 simp only [Tryz.f161,zag,zap]
 simp (maxSteps:=4000000) only [go_sem,AV.one,zae,zac,zad,zaq,zas,zab,czb,cza,↓reduceIte,zaU,zcT,zbe,zcS,zaa,onz]
 refine zbv (l.length) [] [0,1,4,7] (fun i => [(8,.int .i64 i)]) (fun _ m => m) (fun i => zbr (ziq ⟨w,n,s⟩) l (l.length - i) i = zbr (ziq ⟨w,n,s⟩) l l.length 0) ?_ ?_ ?_ ?_
 ·rfl
 ·simp [AV.bare,zal,zaN,zaS,zak,zat,zah,tokz1,lk,zab,za2]
 ·intro i hi hI
  have hp:=h3 _ (zbh hi)
  rw [show l.length - i = (l.length - (i + 1)) + 1 by omega,zbr] at hI
  cases c:ziq ⟨w,n,s⟩ (at_ l i) <;>
   simp (maxSteps:=4000000) only [go_sem,AV.one,zae,zac,zad,zaq,zas,zab,czb,cza,↓reduceIte,zaU,zcT,zbe,zcS,zaa,onz,zax hi,czH.2 hi,c,zaU,Option.map_some]
  all_goals all_goals (repeat' first | (with_reducible first | rfl | apply And.intro | assumption) | ((with_reducible show zaf _ _ = true); rfl)) <;> try first | omega | (simp only [InR]; omega)
  ·rw [c] at hI
   refine nxt hi hI ?_
   simp [AV.bare,zal,zaN,zaS,zak,zat,zah,tokz1,lk,zab,za2]
  ·rw [c] at hI
   rw [← hI]; rfl
 ·intro hI
  simp (maxSteps:=4000000) only [go_sem,AV.one,zae,zac,zad,zaq,zas,zab,czb,cza,↓reduceIte,zaU,zcT,zbe,zcS,zaa,onz]
  rw [← hI]; simp [zbr]
def P122 (g:FuncId):=(zaw 161 (zbC (fun (l:List Ch) (f:FnK) => l.length ≤ 4096 ∧ (1 ≤ f.n ∧ f.n ≤ f.w.ts.length ∧ f.n ≤ 4096) ∧ ∀ c ∈ l,KPre f.w f.n f.s c) (fun l f => zbr (ziq f) l l.length 0)) (P121):zaL) g
theorem P122_ok:zaC Tryz.prog P122:=zaj (zaM kI_call) (P121_ok)
theorem zpZ (d:Option Nat):zaI P122 d = none:=(zai (by decide) d).trans (zp0 d)
attribute [go_sem] P122 zpZ
theorem kC_call (l:List Ch) (f:FnK) (h:l.length ≤ 4096 ∧ (1 ≤ f.n ∧ f.n ≤ f.w.ts.length ∧ f.n ≤ 4096) ∧ ∀ c ∈ l,KPre f.w f.n f.s c):zaQ Tryz.prog 131 [Enc.enc l,Enc.enc f] (· = Enc.enc (l.any (ziq f))):=by
 obtain ⟨w,n,s⟩:=f
 have h':=h
 obtain ⟨h1,h2,h3⟩:=h
 dsimp only at h2 h3
 simp only [zcS,w8C]
 simp only [zbz]
 refine cpz P122_ok Tryz.func131 zaD ?_
 rw [Tryz.ntmps131]
 simp only [Tryz.f131,zag,zap]
 simp (maxSteps:=4000000) only [go_sem,AV.one,zae,zac,zad,zaq,zas,zab,czb,cza,↓reduceIte,zaU,zcT,zbe,zcS,zaa,onz,zcT]
 all_goals (repeat' first | (with_reducible first | rfl | apply And.intro | assumption) | ((with_reducible show zaf _ _ = true); rfl)) <;> try first | omega | (simp only [InR]; omega)
 congr 1
 exact zeO (ziq ⟨w,n,s⟩) l l.length 0 (by omega)
def P123 (g:FuncId):=(zaw 131 (zbC (fun (l:List Ch) (f:FnK) => l.length ≤ 4096 ∧ (1 ≤ f.n ∧ f.n ≤ f.w.ts.length ∧ f.n ≤ 4096) ∧ ∀ c ∈ l,KPre f.w f.n f.s c) (fun l f => l.any (ziq f))) (P122):zaL) g
theorem znE:zaC Tryz.prog P123:=zaj (zaM kC_call) (P122_ok)
theorem zpY (d:Option Nat):zaI P123 d = none:=(zai (by decide) d).trans (zpZ d)
attribute [go_sem] P123 zpY
def P124:zaL:=vecT [1000009] P123
theorem P124_app (g:FuncId) (h:¬ (g = 4000000000)):P124 g = P123 g:=by unfold P124 vecT; rw [if_neg h]
theorem P124_ok:zaC Tryz.prog P124:=vecT_ok znE
theorem P124_flag (d:Nat):zaI P124 (some d) = if d ∈ ([1000009]:List Nat) then some d else none:=zkE _ _ d
attribute [go_sem] P124_app P124_flag
theorem zlC {P:Program} {Φ:zaL} {c:Code} {Q:QA} {st:St} (h:∀ Q',Q' = Q → vc P Φ c Q' st):vc P Φ c Q st:=h _ rfl
section
variable {mem:List AObj}
theorem zea (y:Yd) (h4:y.t.heights.length ≤ 4096 ∧ y.order.length ≤ 4096) (c:za9 y ≠ 0) (hm:∀ o ∈ mem,zb6 mem.length o) :
  zff Tryz.prog 108 [.agg (ydC y)] mem (fun r m => r = .tup [.nilp,.int .i64 (za9 y)] ∧ m = mem):=by
 obtain ⟨h1,h2⟩:=h4
 obtain ⟨n0,hn0⟩:∃ n0,mem.length = n0:=⟨_,rfl⟩
 rw [hn0] at hm
 have g0:∀ r,zab (mem ++ r) n0 = zab r 0:=fun r => by rw [← hn0]; exact zaP _ _ 0
 refine zb0 (Φ:=P123) Tryz.func108 rfl (by rfl) (by rw [Tryz.ntmps108]; simp) zaD znE ?_
 rw [Tryz.ntmps108]
 simp only [Tryz.f108,zag,zap,ydC]
 iterate 3 (
  refine zar fun Q1 h1 => ?_
  simp (maxSteps:=4000000) only [go_sem,zae,zac,zad,zaq,zas,czb,cza,↓reduceIte,zaU,zcT,zbe,zcS,zc9,zaa,onz,g0,hn0]
  all_goals (repeat' first | (with_reducible first | rfl | apply And.intro | assumption) | ((with_reducible show zaf _ _ = true); rfl)) <;> try first | omega | (simp only [InR]; omega)
  rw [h1]; clear h1 Q1; simp only [zaE,zam])
 simp (maxSteps:=4000000) only [go_sem,zae,zac,zad,zaq,zas,czb,cza,↓reduceIte,zaU,zcT,zbe,zcS,zc9,zaa,onz,g0,hn0,c,decide_false]
 all_goals (repeat' first | (with_reducible first | rfl | apply And.intro | assumption) | ((with_reducible show zaf _ _ = true); rfl)) <;> try first | omega | (simp only [InR]; omega)
 refine ⟨n0,czf _,by simp [hn0],List.take_left' hn0,by simp [AV.bare,zal,zaN,zaS,zak,zat,zah,tokz1,lk,zab,za2],?_⟩
 rw [List.take_left' hn0]
 exact hm
theorem zm2 {σ:Type} {mm:σ → List AObj} {ls:σ → LoopState} {pd:σ → Option Code} {tm':List (Nat × AV)} {n:Nat} {ps:Array Tmp} {asg body:Code} {a:σ} {x:List AObj} {k:Nat} (h:(mm a).length = k) :
  zab (zcj mm ls pd tm' n ps asg body a ++ x) (k + 1) = .loop (ls a) (pd a) tm' n ps asg body:=by
 unfold zcj
 rw [czd,← h,zaP]
 rfl
theorem zlL {α σ:Type} (f:σ → α → σ):∀ (l:List α) (a:σ),(zdW (fun _ _ => true) f a l).1 = l.foldl f a
 | [],_ => rfl
 | x :: l,a => by simp only [zdW,if_true,List.foldl_cons]; exact zlL f l _
def zcu (y:Yd) (n0:Nat) (a:List (List Int)):List AObj :=
 [.cells [.int .i64 y.t.last,.sl (y.t.heights.map EncE.cs) .no,.int .i64 y.t.step,.sl (y.t.levels.map EncE.cs) .no,.sl (y.t.marks.map EncE.cs) .no,.int .i64 y.hands,.sl (y.chairs.map EncE.cs) .no,.sl (y.order.map EncE.cs) .no,.sl (y.hires.map EncE.cs) .no],
  .cells [.int .i64 y.t.last,.sl (y.t.heights.map EncE.cs) .no,.int .i64 y.t.step,.sl (y.t.levels.map EncE.cs) .no,.sl (y.t.marks.map EncE.cs) .no,.int .i64 y.hands,.sl (y.chairs.map EncE.cs) .no,.sl (y.order.map EncE.cs) .no,.sl (y.hires.map EncE.cs) .no,.vec (n0 + 3) a.length 0 a.length 2],
  .cells [.ptr (n0 + 1) 0],.vec ((a.map (zbH y.t)).map EncE.cs) 2 a.length]
theorem diff_same {y:Yd} (hv:VY y) {p q:List Int}:y.chairs.any (fun c => !decide ((at_ (zbH y.t p).rows c.row.toNat).l = (at_ (zbH y.t q).rows c.row.toNat).l)) = !zmP y p q:=by
 unfold zmP
 rw [← ziW,Bool.not_not]
 have key:∀ c ∈ y.chairs,(!decide ((at_ (zbH y.t p).rows c.row.toNat).l = (at_ (zbH y.t q).rows c.row.toNat).l)) = !decide (rowB p (at_ y.t.levels c.row.toNat) = rowB q (at_ y.t.levels c.row.toNat)):=fun c hc => by
  have h:=(hv.ch c hc).1
  unfold zbH
  dsimp only
  rw [zfY (by omega),zfY (by omega)]
  rfl
 rw [Bool.eq_iff_iff,List.any_eq_true,List.any_eq_true]
 constructor
 ·rintro ⟨c,hc,h⟩; exact ⟨c,hc,by rw [← key c hc]; exact h⟩
 ·rintro ⟨c,hc,h⟩; exact ⟨c,hc,by rw [key c hc]; exact h⟩
theorem zeB (y:Yd) (hv:VY y) (hm:∀ o ∈ mem,zb6 mem.length o) :
  zff Tryz.prog 108 [.agg (ydC y)] mem (fun r m => r = .tup [.ptr (mem.length + 1) 0,.int .i64 0] ∧ m = mem ++ zcu y mem.length (zba y)):=by
 have h1:y.t.heights.length ≤ 4096:=by have:=hv.fok.len; have:=hv.l0; omega
 have h2:y.order.length ≤ 4096:=by have:=zcY hv.ord; have:=hv.c5; omega
 have c:=hv.fault
 have hc5:=hv.c5
 obtain ⟨n0,hn0⟩:∃ n0,mem.length = n0:=⟨_,rfl⟩
 rw [hn0] at hm
 have g0:∀ r,zab (mem ++ r) n0 = zab r 0:=fun r => by rw [← hn0]; exact zaP _ _ 0
 have gk:∀ r k,zab (mem ++ r) (n0 + k) = zab r k:=fun r k => by rw [← hn0]; exact zaP _ _ k
 have s0:∀ r o,(mem ++ r).set n0 o = mem ++ r.set 0 o:=fun r o => by rw [← hn0]; exact zbW _ _ 0 _
 have sk:∀ r k o,(mem ++ r).set (n0 + k) o = mem ++ r.set k o:=fun r k o => by rw [← hn0]; exact zbW _ _ k _
 rw [hn0]
 refine zb0 (Φ:=P124) Tryz.func108 rfl (by rfl) (by rw [Tryz.ntmps108]; simp) zaD P124_ok ?_
 rw [Tryz.ntmps108]
 simp only [Tryz.f108,zag,zap,ydC]
 iterate 6 (
  refine zar fun Q1 h1 => ?_
  simp (maxSteps:=4000000) only [go_sem,zae,zac,zad,zaq,zas,czb,cza,↓reduceIte,zaU,zcT,zbe,zcS,zc9,zaa,onz,g0,gk,s0,sk,hn0,c,decide_true,czd,czc]
  all_goals (repeat' first | (with_reducible first | rfl | apply And.intro | assumption) | ((with_reducible show zaf _ _ = true); rfl)) <;> try first | omega | (simp only [InR]; omega)
  rw [h1]; clear h1 Q1; simp only [zaE,zam])
 refine zar fun Q1 h1' => ?_
 rw [ze1]
 refine zsR [.vcell (n0 + 1) 9 2] ?_
 simp only [zdJ,zch,tokz1,lk,mA0,mA1,mA2,mA3,mA4,mA5,mA6,List.getD_cons_zero,List.getD_cons_succ,List.set_cons_succ,List.set_cons_zero,czc,czd,czs,List.nil_append,cza,czy,Nat.reduceAdd,Nat.zero_add,List.map_nil,Nat.reduceEqDiff,↓reduceIte,gk,sk,hn0]
 refine zq2 (fun a:List (List Int) => mem ++ zcu y n0 a) (fun _ => .ready) (fun _ => none) (y:=y) (fun _ _ => true) (zns y) (fun k a => a.length ≤ k) (zlK y.t).length [(1,.ptr n0 0),(5,.ptr (n0 + 2) 0)] []
  hv rfl trivial ?_ rfl rfl rfl ?_ (czf _) (czf _) ?_
 ·simp [lk,AV.strip]
 ·refine ⟨fun a => ?_,?_,fun a => ?_,?_,fun k a p h hk _ => ?_⟩
  ·simp [zcj,zcu,hn0]
  ·simp
  ·unfold zcj
   rw [czd]
   refine zce hm (by simp; omega) ?_
   simp [AV.bare,zal,zaN,zaS,zak,zat,zah,tokz1,lk,zab,za2,zcu,-List.map_map]
   omega
  ·intro k a p R ha hkT hpr hR
   have hT:=zmO hv.fok.vok
   obtain ⟨nR,hnR⟩:∃ nR,n0 + (6 + R.length) = nR:=⟨_,rfl⟩
   have hRok:∀ o ∈ R,zb6 nR o:=fun o ho => by
    have:=hR o ho
    simp only [czc,cza,czy,hn0] at this
    rw [show nR = n0 + (0 + 1 + 1 + 1 + 1) + 2 + R.length by omega]
    exact this
   have hNl:∀ x0 x1 x2 x3 x4 x5 r,(mem ++ x0 :: x1 :: x2 :: x3 :: x4 :: x5 :: (R ++ r)).length = nR + r.length:=fun x0 x1 x2 x3 x4 x5 r => by simp [hn0]; omega
   have hNl0:∀ x0 x1 x2 x3 x4 x5,(mem ++ x0 :: x1 :: x2 :: x3 :: x4 :: x5 :: R).length = nR:=fun x0 x1 x2 x3 x4 x5 => by simp [hn0]; omega
   have hN:∀ x0 x1 x2 x3 x4 x5 r k,zab (mem ++ x0 :: x1 :: x2 :: x3 :: x4 :: x5 :: (R ++ r)) (nR + k) = zab r k:=fun x0 x1 x2 x3 x4 x5 r k => by
    have:=zaP (mem ++ x0 :: x1 :: x2 :: x3 :: x4 :: x5 :: R) r k
    rw [hNl0] at this
    simpa using this
   have hN0:∀ x0 x1 x2 x3 x4 x5 r,zab (mem ++ x0 :: x1 :: x2 :: x3 :: x4 :: x5 :: (R ++ r)) nR = zab r 0:=fun x0 x1 x2 x3 x4 x5 r => hN x0 x1 x2 x3 x4 x5 r 0
   have hS:∀ x0 x1 x2 x3 x4 x5 r k o,(mem ++ x0 :: x1 :: x2 :: x3 :: x4 :: x5 :: (R ++ r)).set (nR + k) o = mem ++ x0 :: x1 :: x2 :: x3 :: x4 :: x5 :: (R ++ r.set k o):=fun x0 x1 x2 x3 x4 x5 r k o => by
    have:=zbW (mem ++ x0 :: x1 :: x2 :: x3 :: x4 :: x5 :: R) r k o
    rw [hNl0] at this
    simpa using this
   have hS0:∀ x0 x1 x2 x3 x4 x5 r o,(mem ++ x0 :: x1 :: x2 :: x3 :: x4 :: x5 :: (R ++ r)).set nR o = mem ++ x0 :: x1 :: x2 :: x3 :: x4 :: x5 :: (R ++ r.set 0 o):=fun x0 x1 x2 x3 x4 x5 r o => hS x0 x1 x2 x3 x4 x5 r 0 o
   have hnR':n0 + (R.length + 6) = nR:=by omega
   have htk:∀ x0 x1 x2 x3 x4 x5 r,(mem ++ x0 :: x1 :: x2 :: x3 :: x4 :: x5 :: (R ++ r)).take nR = mem ++ x0 :: x1 :: x2 :: x3 :: x4 :: x5 :: R:=fun x0 x1 x2 x3 x4 x5 r => by
    have:mem ++ x0 :: x1 :: x2 :: x3 :: x4 :: x5 :: (R ++ r) = (mem ++ x0 :: x1 :: x2 :: x3 :: x4 :: x5 :: R) ++ r:=by simp
    rw [this,List.take_left' (hNl0 x0 x1 x2 x3 x4 x5)]
   have hok6:∀ x0 x1 x2 x3 x4 x5,zaS nR [x0,x1,x2,x3,x4,x5] → ∀ o ∈ mem ++ x0 :: x1 :: x2 :: x3 :: x4 :: x5 :: R,zb6 nR o:=fun x0 x1 x2 x3 x4 x5 h =>
    zce hm (by omega) ⟨h.1,h.2.1,h.2.2.1,h.2.2.2.1,h.2.2.2.2.1,h.2.2.2.2.2.1,zbu hRok⟩
   refine zgc (Φ:=P124) (hl:=zm2 (by simp [zcu])) rfl (by simp) rfl rfl zaD P124_ok (by simp [AV.strip,AV.strip1,Tk.strip,seaC]) (by simp [AV.strip,AV.strip1,Tk.strip,seaC]) ?_
   obtain ⟨S,hSe⟩:∃ S,zbH y.t p = S:=⟨_,rfl⟩
   rw [hSe]
   unfold zcj zcu
   simp only [zgL,zcN,czd,czs,List.nil_append,czc,cza,czy,hn0,Nat.reduceAdd,Nat.zero_add,Nat.add_assoc,sk,List.set_cons_succ,List.set_cons_zero]
   refine zlC fun Qa hQa => ?_
   simp (maxSteps:=4000000) only [go_sem,zae,zac,zad,zaq,zas,czb,cza,↓reduceIte,zaU,zcT,zbe,zcS,zc9,zaa,onz,seaC,hN,hN0,hS,hS0,hNl,hNl0,czd,czs]
   all_goals (repeat' first | (with_reducible first | rfl | apply And.intro | assumption) | ((with_reducible show zaf _ _ = true); rfl)) <;> try first | omega | (simp only [InR]; omega)
   rw [hQa]; clear hQa Qa
   have hl4:a.length ≤ 4096:=by omega
   simp only [zaE,zgL,gk,sk,mA0,mA1,mA2,mA3,mA4,mA5,mA6,List.set_cons_succ,List.set_cons_zero,true_and]
   refine zlC fun Qr hQr => ?_
   rw [ze1]
   try simp only [zam]
   refine zar fun Q1 h1 => ?_
   simp (maxSteps:=4000000) only [go_sem,zae,zac,zad,zaq,zas,czb,cza,↓reduceIte,zaU,zcT,zbe,zcS,zc9,zaa,onz,g0,s0,gk,sk,hN,hN0,hS,hS0,hNl,hNl0,czd,czs,czz]
   all_goals (repeat' first | (with_reducible first | rfl | apply And.intro | assumption) | ((with_reducible show zaf _ _ = true); rfl)) <;> try first | omega | (simp only [InR]; omega)
   rw [h1]; clear h1 Q1; simp only [zaE,zam]
   have hdec:=zcT ⟨y,a.map (zbH y.t)⟩ a.length S
   simp only at hdec
   have hvt:((a.map (zbH y.t)).map EncE.cs).take a.length = (a.map (zbH y.t)).map EncE.cs:=cze (by simp)
   obtain ⟨bd,hbd⟩:∃ bd,y.chairs.any (ziq ⟨⟨y,a.map (zbH y.t)⟩,a.length,S⟩) = bd:=⟨_,rfl⟩
   have hask:zns y a p = if (decide ((a.length:Int) = 0) || bd) = true then a ++ [p] else a:=by
    unfold zns
    by_cases e:a = []
    ·simp [e]
    ·have hap:0 < a.length:=List.length_pos_iff.2 e
     have h1:decide ((a.length:Int) = 0) = false:=by simp [e]
     have h2:bd = !zmP y (at_ a (a.length - 1)) p:=by
      rw [← hbd,← diff_same hv]
      have h3:(((a.length:Int) - 1).toNat) = a.length - 1:=by omega
      unfold ziq
      dsimp only
      rw [h3,zfY (by omega),hSe]
     rw [h1,h2]
     cases zmP y (at_ a (a.length - 1)) p <;> simp [e]
   refine zar fun Qc hQc => ?_
   simp (maxSteps:=4000000) only [go_sem,zae,zac,zad,zaq,zas,czb,cza,↓reduceIte,zaU,zcT,zbe,zcS,zc9,zaa,onz,g0,s0,gk,sk,hN,hN0,hS,hS0,hNl,hNl0,hdec,hvt,hbd,czd,czs,czz]
   refine ⟨fun q => ⟨q,by omega,⟨?_,by omega⟩,fun c hc => ?_⟩,?_⟩
   ·simp at q
    have:=List.length_pos_iff.2 q
    omega
   ·have hap:0 < a.length:=List.length_pos_iff.2 (by simpa using q)
    have h3:(((a.length:Int) - 1).toNat) = a.length - 1:=by omega
    have h4:=(hv.ch c hc).1
    unfold KPre
    dsimp only
    rw [h3,zfY (by omega),← hSe]
    unfold zbH
    simp
    omega
   rw [hQc]; clear hQc Qc
   simp only [zaE]
   (simp (maxSteps:=4000000) only [zjW,zjV,evT,lk,AV.un,AV.av,Nat.reduceEqDiff,↓reduceIte,true_and]; try rw [ziR])
   refine ⟨fun q => ?_,fun q => ?_⟩
   ·rw [q,if_pos rfl] at hask
    have hmap:(a.map (zbH y.t)).map EncE.cs ++ [[AV.sl (S.hs.map EncE.cs) .no,AV.sl (S.rows.map EncE.cs) .no]] = ((zns y a p).map (zbH y.t)).map EncE.cs:=by rw [hask,← hSe]; simp; rfl
    have hlen:(zns y a p).length = a.length + 1:=by rw [hask]; simp
    rw [hlen] at hQr
    simp (maxSteps:=4000000) only [go_sem,zae,zac,zad,zaq,zas,czb,cza,↓reduceIte,zaU,zcT,zbe,zcS,zc9,zaa,onz]
    refine ⟨1606938044258990275541962092341162602522202993782792835301376,by rfl,?_⟩
    simp (maxSteps:=4000000) only [go_sem,zae,zac,zad,zaq,zas,czb,cza,↓reduceIte,zaU,zcT,zbe,zcS,zc9,zaa,onz,(show Nat.testBit 1606938044258990275541962092341162602522202993782792835301376 399 = false from rfl),Bool.false_and,Bool.true_and,czp,(show Nat.testBit 1606938044258990275541962092341162602522202993782792835301376 200 = true from rfl),zgV,ze7,hideO,zrP,vcFr,Go.Fs.freeR,effL,zwf,zll,List.all_cons,List.all_nil,List.contains_cons,List.contains_nil,Nat.reduceBEq,Bool.or_self,(show Nat.testBit 1606938044258990275541962092341162602522202993782792835301376 0 = false from rfl),(show Nat.testBit 1606938044258990275541962092341162602522202993782792835301376 1 = false from rfl),(show Nat.testBit 1606938044258990275541962092341162602522202993782792835301376 2 = false from rfl),(show Nat.testBit 1606938044258990275541962092341162602522202993782792835301376 3 = false from rfl),(show Nat.testBit 1606938044258990275541962092341162602522202993782792835301376 4 = false from rfl),(show Nat.testBit 1606938044258990275541962092341162602522202993782792835301376 5 = false from rfl),(show Nat.testBit 1606938044258990275541962092341162602522202993782792835301376 6 = false from rfl),(show Nat.testBit 1606938044258990275541962092341162602522202993782792835301376 7 = false from rfl),(show Nat.testBit 1606938044258990275541962092341162602522202993782792835301376 8 = false from rfl),(show Nat.testBit 1606938044258990275541962092341162602522202993782792835301376 9 = false from rfl),(show Nat.testBit 1606938044258990275541962092341162602522202993782792835301376 10 = false from rfl),g0,s0,gk,sk,hN,hN0,hS,hS0,hNl,hNl0,hvt,hmap,czd,czs,czz]
    refine ⟨by omega,?_⟩
    simp (maxSteps:=4000000) only [go_sem,zae,zac,zad,zaq,zas,czb,cza,↓reduceIte,zaU,zcT,zbe,zcS,zc9,zaa,onz,hQr,zgn,zrI,g0,s0,gk,sk,hN,hN0,hS,hS0,hNl,hNl0,hnR',htk,czd,czs,czz]
    refine hok6 _ _ _ _ _ _ ⟨?_,?_,?_,?_,?_,?_,trivial⟩ <;> simp [AV.bare,zal,zaN,zaS,zak,zat,zah,tokz1,lk,zab,za2,-List.map_map] <;> omega
   ·rw [q,if_neg (by simp)] at hask
    simp (maxSteps:=4000000) only [go_sem,zae,zac,zad,zaq,zas,czb,cza,↓reduceIte,zaU,zcT,zbe,zcS,zc9,zaa,onz,hQr,zgn,zrI,hask,g0,s0,gk,sk,hN,hN0,hS,hS0,hNl,hNl0,hnR',htk,czd,czs,czz]
    refine hok6 _ _ _ _ _ _ ⟨?_,?_,?_,?_,?_,?_,trivial⟩ <;> simp [AV.bare,zal,zaN,zaS,zak,zat,zah,tokz1,lk,zab,za2,-List.map_map] <;> omega
  ·have:=zjR y [p] a
   simp at this
   omega
 ·have hfin:(zdW (fun _ _ => true) (zns y) [] (zlK y.t)).1 = zba y:=zlL _ _ _
  rw [hfin]
  obtain ⟨T,hT⟩:∃ T,zba y = T:=⟨_,rfl⟩
  rw [hT] at h1' ⊢
  unfold zcj zcu
  unfold zcu at h1'
  simp only [czd,czs,List.nil_append,czc,cza,czy,hn0,Nat.reduceAdd,Nat.zero_add,Nat.add_assoc,gk,mA5]
  simp (maxSteps:=4000000) only [go_sem,zae,zac,zad,zaq,zas,czb,cza,↓reduceIte,zaU,zcT,zbe,zcS,zc9,zaa,onz,endA,zrc,h1',zhb,g0,s0,gk,sk,hn0,Nat.add_assoc,czd,czs,czc,czz]
  refine ⟨rfl,n0 + 4,by omega,by omega,?_⟩
  have htk4:∀ a b c d e f:AObj,(mem ++ [a,b,c,d,e,f]).take (n0 + 4) = mem ++ [a,b,c,d]:=fun a b c d e f => by
   rw [show mem ++ [a,b,c,d,e,f] = (mem ++ [a,b,c,d]) ++ [e,f] by simp,List.take_left' (by simp [hn0])]
  rw [htk4]
  exact ⟨rfl,by simp [AV.bare,zal,zaN,zaS,zak,zat,zah,tokz1,lk,zab,za2],zce hm (by omega) (by simp [AV.bare,zal,zaN,zaS,zak,zat,zah,tokz1,lk,zab,za2,-List.map_map])⟩
end
structure RefYd where
 y:Yd
structure FnD where
 y:Yd
theorem zkK (y:Yd):zju (ydC y) = some y:=by simp only [zju,ydC,zdq]
instance:Enc RefYd where
 enc f:=.ref (ydC f.y) 0
 dec
  | .ref a 0 => (zju a).map RefYd.mk
  | _ => none
 law v x h:=by
  split at h
  ·simp only [czr] at h
   obtain ⟨y,h1,rfl⟩:=h
   rw [zfy h1]
  ·cases h
 dep:=3
 ok x:=zfD x.y
instance:Enc FnD where
 enc f:=.fn (.func 138) [] [.ref (ydC f.y) 0]
 dec
  | .fn (.func g) [] [.ref a 0] => if g = 138 then (zju a).map FnD.mk else none
  | _ => none
 law v x h:=by
  split at h
  ·split at h
   ·rename_i e
    simp only [czr] at h
    obtain ⟨y,h1,rfl⟩:=h
    rw [e,zfy h1]
   ·cases h
  ·cases h
 dep:=4
 ok x:=⟨fun _ h => (by cases h),fun c hc => by
  simp only [czn,czk,or_false] at hc
  subst hc
  exact zfD x.y⟩
theorem zaK (f:RefYd):Enc.enc f = .ref (ydC f.y) 0:=rfl
theorem zfd (f:FnD):Enc.enc f = .fn (.func 138) [] [.ref (ydC f.y) 0]:=rfl
theorem zaO (y:Yd):(Enc.dec (.ref [.int .i64 y.t.last,.sl (y.t.heights.map EncE.cs) .no,.int .i64 y.t.step,.sl (y.t.levels.map EncE.cs) .no,.sl (y.t.marks.map EncE.cs) .no,
 .int .i64 y.hands,.sl (y.chairs.map EncE.cs) .no,.sl (y.order.map EncE.cs) .no,.sl (y.hires.map EncE.cs) .no] 0):Option RefYd) = some ⟨y⟩:=by
 show (zju (ydC y)).map RefYd.mk = _
 rw [zkK]; rfl
theorem za6 (y:Yd):(Enc.dec (.fn (.func 138) [] [.ref [.int .i64 y.t.last,.sl (y.t.heights.map EncE.cs) .no,.int .i64 y.t.step,.sl (y.t.levels.map EncE.cs) .no,.sl (y.t.marks.map EncE.cs) .no,
 .int .i64 y.hands,.sl (y.chairs.map EncE.cs) .no,.sl (y.order.map EncE.cs) .no,.sl (y.hires.map EncE.cs) .no] 0]):Option FnD) = some ⟨y⟩:=by
 show (if _ then (zju (ydC y)).map FnD.mk else none) = _
 rw [if_pos rfl,zkK]; rfl
def zri (y:Yd) (s:Sea):Bool:=!zcp y s []
theorem askR_call (s:Sea) (f:RefYd) (h:YS f.y s):zaQ Tryz.prog 138 [Enc.enc s,Enc.enc f] (· = Enc.enc (zri f.y s)):=by
 obtain ⟨y⟩:=f
 simp only [zaK,ydC]
 simp only [zbz]
 refine cpz znE Tryz.func138 zaD ?_
 rw [Tryz.ntmps138]
 simp only [Tryz.f138,zag,zap]
 simp (maxSteps:=4000000) only [go_sem,AV.one,zae,zac,zad,zaq,zas,zab,czb,cza,↓reduceIte,zaO,za6,zaK,zfd,zaa,onz]
 all_goals (repeat' first | (with_reducible first | rfl | apply And.intro | assumption) | ((with_reducible show zaf _ _ = true); rfl)) <;> try first | omega | (simp only [InR]; omega)
 rfl
def P125 (g:FuncId):=(zaw 138 (zbC (fun (s:Sea) (f:RefYd) => YS f.y s) (fun s f => zri f.y s)) (P123):zaL) g
theorem P125_ok:zaC Tryz.prog P125:=zaj (zaM askR_call) (znE)
theorem zpX (d:Option Nat):zaI P125 d = none:=(zai (by decide) d).trans (zpY d)
attribute [go_sem] P125 zpX
theorem askI_call (l:List Sea) (f:FnD) (h:l.length ≤ 4096 ∧ ∀ s ∈ l,YS f.y s):zaQ Tryz.prog 164 [Enc.enc l,Enc.enc f] (· = Enc.enc (zbr (zri f.y) l l.length 0)):=by
 obtain ⟨y⟩:=f
 obtain ⟨h1,h2⟩:=h
 dsimp only at h2
 have hd:=zaO y
 simp only [zfd,ydC]
 simp only [zbz]
 refine cpz P125_ok Tryz.func164 zaD ?_
 rw [Tryz.ntmps164]
 simp only [Tryz.f164,zag,zap]
 simp (maxSteps:=4000000) only [go_sem,AV.one,zae,zac,zad,zaq,zas,zab,czb,cza,↓reduceIte,zaO,za6,zaK,zfd,zaa,onz]
 refine zbv (l.length) [] [0,1,4,7] (fun i => [(8,.int .i64 i)]) (fun _ m => m) (fun i => zbr (zri y) l (l.length - i) i = zbr (zri y) l l.length 0) ?_ ?_ ?_ ?_
 ·rfl
 ·simp [AV.bare,zal,zaN,zaS,zak,zat,zah,tokz1,lk,zab,za2]
 ·intro i hi hI
  have hp:=h2 _ (zbh hi)
  rw [show l.length - i = (l.length - (i + 1)) + 1 by omega,zbr] at hI
  cases c:zri y (at_ l i) <;>
   simp (maxSteps:=4000000) only [go_sem,AV.one,zae,zac,zad,zaq,zas,zab,czb,cza,↓reduceIte,zaO,za6,zaK,zfd,zaa,onz,zax hi,czH.2 hi,c,hd]
  all_goals all_goals (repeat' first | (with_reducible first | rfl | apply And.intro | assumption) | ((with_reducible show zaf _ _ = true); rfl)) <;> try first | omega | (simp only [InR]; omega)
  ·rw [c] at hI
   refine nxt hi hI ?_
   simp [AV.bare,zal,zaN,zaS,zak,zat,zah,tokz1,lk,zab,za2]
  ·rw [c] at hI
   rw [← hI]; rfl
 ·intro hI
  simp (maxSteps:=4000000) only [go_sem,AV.one,zae,zac,zad,zaq,zas,zab,czb,cza,↓reduceIte,zaO,za6,zaK,zfd,zaa,onz]
  rw [← hI]; simp [zbr]
def P126 (g:FuncId):=(zaw 164 (zbC (fun (l:List Sea) (f:FnD) => l.length ≤ 4096 ∧ ∀ s ∈ l,YS f.y s) (fun l f => zbr (zri f.y) l l.length 0)) (P125):zaL) g
theorem ziY:zaC Tryz.prog P126:=zaj (zaM askI_call) (P125_ok)
theorem zpW (d:Option Nat):zaI P126 d = none:=(zai (by decide) d).trans (zpX d)
attribute [go_sem] P126 zpW
theorem zht {α:Type} [Inhabited α] (p:α → Bool) (l:List α):∀ f n,f + n = l.length → (zbr p l f n = -1 ∧ ∀ k,n ≤ k → k < l.length → p (at_ l k) = false) ∨ ∃ k:Nat,zbr p l f n = k ∧ n ≤ k ∧ k < l.length ∧ p (at_ l k) = true ∧ ∀ j,n ≤ j → j < k → p (at_ l j) = false
 | 0,n,h => .inl ⟨rfl,fun k h1 h2 => by omega⟩
 | f + 1,n,h => by
  unfold zbr
  cases c:p (at_ l n)
  ·rw [if_neg (by simp)]
   rcases zht p l f (n + 1) (by omega) with ⟨h1,h2⟩ | ⟨k,h1,h2,h3,h4,h5⟩
   ·refine .inl ⟨h1,fun k g1 g2 => ?_⟩
    by_cases e:k = n
    ·subst e; exact c
    ·exact h2 k (by omega) g2
   ·refine .inr ⟨k,h1,by omega,h3,h4,fun j g1 g2 => ?_⟩
    by_cases e:j = n
    ·subst e; exact c
    ·exact h5 j (by omega) g2
  ·rw [if_pos rfl]
   exact .inr ⟨n,rfl,czf _,by omega,c,fun j h1 h2 => by omega⟩
theorem zeb:∀ (l r:List AObj),zak l (l ++ r)
 | [],_ => trivial
 | _ :: l,r => ⟨rfl,zeb l r⟩
def zqn:List AV:=[.sl [] .full,.sl [] .full]
theorem zmd {α:Type} {p:α → Bool} {l:List α} (h:∀ x ∈ l,p x = true):l.filter p = l:=List.filter_eq_self.2 h
theorem at_of_mem {α:Type} [Inhabited α] {l:List α} {p:α → Bool} (h:∀ k,k < l.length → p (at_ l k) = true):∀ x ∈ l,p x = true:=fun x hx => by
 obtain ⟨k,hk,e⟩:=List.mem_iff_getElem.1 hx
 rw [← e,← zdm hk]
 exact h k hk
section
variable {mem:List AObj} {v s b:Nat}
theorem zfa (y:Yd) (l:List Sea) (hys:∀ x ∈ l,YS y x) (h4:l.length ≤ 4096) (h:zab mem v = .vec (l.map EncE.cs) 2 s) (hb:zab mem b = .cells (ydC y)) (hm:∀ o ∈ mem,zb6 mem.length o) :
  zff Tryz.prog 137 [.vec v s 0 l.length 2,.fn (.func 138) [] [.ptr b 0]] mem
   (fun r m => r = .vec v s 0 (l.filter fun x => zcp y x []).length 2 ∧ m = mem.set v (.vec ((l.filter fun x => zcp y x []).map EncE.cs ++ List.replicate (l.length - (l.filter fun x => zcp y x []).length) zqn) 2 s)):=by
 have hvl:=zbg h (by simp)
 have hbl:=zbg hb (by simp)
 have hvb:b ≠ v:=fun e => by rw [e,h] at hb; cases hb
 obtain ⟨n0,hn0⟩:∃ n0,mem.length = n0:=⟨_,rfl⟩
 rw [hn0] at hm hvl hbl
 unfold ydC at hb
 have hd:=za6 y
 have hdr:=zaO y
 have hvt:(l.map EncE.cs).take l.length = l.map (EncE.cs (α:=Sea)):=cze (by simp)
 refine zb0 (Φ:=P126) Tryz.func137 rfl (by rfl) (by rw [Tryz.ntmps137]; simp) zaD ziY ?_
 rw [Tryz.ntmps137]
 simp only [Tryz.f137,zag,zap]
 rcases zht (zri y) l l.length 0 (by omega) with ⟨h1,h2⟩ | ⟨i0,h1,_,h3,h4',h5⟩
 ·have hk:(l.filter fun x => zcp y x []) = l:=zmd (at_of_mem fun k hk => by
   have:=h2 k (Nat.zero_le _) hk
   unfold zri at this
   simpa using this)
  rw [hk]
  simp (maxSteps:=4000000) only [go_sem,zae,zac,zad,zaq,zas,czb,cza,↓reduceIte,zaO,za6,zaK,zfd,zaa,onz,h,hb,hd,hvt,h1,decide_true]
  all_goals (repeat' first | (with_reducible first | rfl | apply And.intro | assumption) | ((with_reducible show zaf _ _ = true); rfl)) <;> try first | omega | (simp only [InR]; omega)
  refine ⟨n0,by omega,by omega,?_,by simp [AV.bare,zal,zaN,zaS,zak,zat,zah,tokz1,lk,zab,za2]; omega,?_⟩
  ·rw [cze (by omega),Nat.sub_self,List.replicate_zero,List.append_nil,zmL h]
  ·rw [cze (by omega)]; exact hm
 ·obtain ⟨K,hK⟩:∃ K:Nat → List Sea,∀ j,K j = (l.take j).filter fun x => zcp y x []:=⟨_,fun _ => rfl⟩
  have hKs:∀ j,j < l.length → K (j + 1) = if zcp y (at_ l j) [] = true then K j ++ [at_ l j] else K j:=fun j hj => by
   rw [hK,hK,zaW hj,List.filter_append]
   cases c:zcp y (at_ l j) [] <;> simp [c]
  have hKle:∀ j,j ≤ l.length → (K j).length ≤ j:=fun j hj => by
   rw [hK]
   have:=List.length_filter_le (fun x => zcp y x []) (l.take j)
   rw [czO] at this
   omega
  have hKf:K l.length = l.filter fun x => zcp y x []:=by rw [hK,czm]
  have hK0:K (i0 + 1) = l.take i0:=by
   have hr0:zcp y (at_ l i0) [] = false:=by unfold zri at h4'; simpa using h4'
   rw [hKs i0 h3,hr0,if_neg (by simp),hK]
   refine zmd fun x hx => ?_
   obtain ⟨k,hk,e⟩:=List.mem_iff_getElem.1 hx
   rw [czO] at hk
   rw [List.getElem_take] at e
   have:=h5 k (Nat.zero_le _) (by omega)
   rw [zdm (by omega),e] at this
   unfold zri at this
   simpa using this
  rw [← hKf]
  have hms:=fun o => zec (mem:=mem) (v:=v) (by omega) o
  have hss:=fun o o' => zn0 (mem:=mem) (v:=v) o o'
  have hbs:∀ o,zab (mem.set v o) b = zab mem b:=fun o => by rw [zaF _ _ _ _ (by omega),if_neg hvb]
  have hokv:∀ (E:List (List AV)),(∀ e ∈ E,∀ c ∈ e,bel n0 9 c) → ∀ o ∈ mem.set v (.vec E 2 s),zb6 n0 o:=fun E hE o ho => by
   rcases List.mem_or_eq_of_mem_set ho with q | q
   ·exact hm o q
   ·subst q; exact hE
  have hseab:∀ (L:List Sea) (k:Nat),∀ e ∈ L.map EncE.cs,∀ c ∈ e,bel k 9 c:=fun L k e he c hc => by
   obtain ⟨x,_,rfl⟩:=czx.1 he
   exact zcO _ _ _ (EncE.ok x c hc) (by rw [zfU]; omega)
  simp (maxSteps:=4000000) only [go_sem,zae,zac,zad,zaq,zas,czb,cza,↓reduceIte,zaO,za6,zaK,zfd,zaa,onz,h,hb,hd,hvt,h1]
  all_goals (repeat' first | (with_reducible first | rfl | apply And.intro | assumption) | ((with_reducible show zaf _ _ = true); rfl)) <;> try first | omega | (simp only [InR]; omega)
  have hms2:=fun o r => (zaX (m:=mem.set v o) (r:=r) (k:=v) (by rw [czt]; omega)).trans (hms o)
  have hbs2:∀ o r,zab (mem.set v o ++ r) b = .cells [.int .i64 y.t.last,.sl (y.t.heights.map EncE.cs) .no,.int .i64 y.t.step,.sl (y.t.levels.map EncE.cs) .no,.sl (y.t.marks.map EncE.cs) .no,.int .i64 y.hands,.sl (y.chairs.map EncE.cs) .no,.sl (y.order.map EncE.cs) .no,.sl (y.hires.map EncE.cs) .no]:=fun o r => by
   rw [zaX (by rw [czt]; omega),hbs,hb]
  have hn2:∀ o r,zab (mem.set v o ++ r) n0 = zab r 0:=fun o r => by
   have:=zaP (mem.set v o) r 0
   rw [czt,hn0] at this
   exact this
  have hs2:∀ o r o',(mem.set v o ++ r).set n0 o' = mem.set v o ++ r.set 0 o':=fun o r o' => by
   have:=zbW (mem.set v o) r 0 o'
   rw [czt,hn0] at this
   exact this
  have hss2:∀ o r o',(mem.set v o ++ r).set v o' = mem.set v o' ++ r:=fun o r o' => by
   rw [List.set_append_left _ _ (by rw [czt]; omega),hss]
  have hl2:∀ o,(mem.set v o).length = n0:=fun o => by rw [czt,hn0]
  refine zbv (l.length - (i0 + 1)) [] [0,1,4] (fun t => [(6,.int .i64 ((i0 + 1 + t:Nat):Int)),(5,.int .i64 ((K (i0 + 1 + t)).length:Int))]) (fun t _ => mem.set v (.vec ((K (i0 + 1 + t) ++ l.drop (K (i0 + 1 + t)).length).map EncE.cs) 2 s)) (fun _ => True) ?_ ?_ ?_ ?_
  ·trivial
  ·have hl0:(K (i0 + 1)).length = i0:=by rw [hK0,czO]; omega
   have hM0:mem.set v (.vec ((K (i0 + 1 + 0) ++ l.drop (K (i0 + 1 + 0)).length).map EncE.cs) 2 s) = mem:=by
    rw [Nat.add_zero,hl0,hK0,List.take_append_drop,zmL h]
   simp only [zah,zch]
   rw [hM0,Nat.add_zero,hl0]
   refine ⟨rfl,rfl,rfl,by dsimp only; omega,za0 _,?_,zbu (by rw [hn0]; exact hm),trivial⟩
   dsimp only
   rw [hn0]
   simp [AV.bare,zal,zaN,zaS,zak,zat,zah,tokz1,lk,zab,za2]
   omega
  ·intro t ht _
   obtain ⟨j,hj⟩:∃ j,i0 + 1 + t = j:=⟨_,rfl⟩
   have hjl:j < l.length:=by omega
   have hj':=czH.2 hjl
   have hKj:=hKs j hjl
   have hle:=hKle j (by omega)
   have hj1:i0 + 1 + (t + 1) = j + 1:=by omega
   obtain ⟨D,hD⟩:∃ D,K j = D:=⟨_,rfl⟩
   rw [hD] at hKj hle
   obtain ⟨Z,hZ⟩:∃ Z,D ++ l.drop D.length = Z:=⟨_,rfl⟩
   have hZl:Z.length = l.length:=by rw [← hZ]; simp; omega
   have hZat:∀ k,D.length ≤ k → k < l.length → at_ Z k = at_ l k:=fun k h1 h2 => by
    rw [← hZ]
    simp only [at_,List.getD]
    rw [czj h1,czQ]
    congr 2; omega
   have hgj:(Z.map EncE.cs).getD j [] = EncE.cs (at_ l j):=by rw [zax (by omega),hZat j (by omega) hjl]
   have hgD:=zax (f:=EncE.cs) (l:=Z) (i:=D.length) (by omega)
   have hyj:=hys _ (zbh hjl)
   obtain ⟨X,hX⟩:∃ X,at_ l j = X:=⟨_,rfl⟩
   rw [hX] at hgj hyj hKj
   simp only [hj,hD,hZ]
   cases c:zcp y X []
   ·have hnr:zri y X = true:=by unfold zri; rw [c]; rfl
    rw [c,if_neg (by simp)] at hKj
    simp (maxSteps:=4000000) only [go_sem,zae,zac,zad,zaq,zas,czb,cza,↓reduceIte,zaO,za6,zaK,zfd,zaa,onz,hms,hms2,hbs2,hn2,hs2,hss,hss2,hl2,hn0,hj',hgj,hnr,hdr,czd,czc]
    all_goals (repeat' first | (with_reducible first | rfl | apply And.intro | assumption) | ((with_reducible show zaf _ _ = true); rfl)) <;> try first | omega | (simp only [InR]; omega)
    refine nxt ht trivial ?_
    simp only [hj1,hKj,hZ]
    refine ⟨rfl,rfl,rfl,by dsimp only [zah]; rw [hl2]; exact czf _,zeb _ _,?_,zbu (by dsimp only [zah]; rw [hl2]; exact hokv _ (hseab _ _)),trivial⟩
    dsimp only [zah]
    rw [hl2]
    simp [AV.bare,zal,zaN,zaS,zak,zat,zah,tokz1,lk,zab,za2]
    omega
   ·have hnr:zri y X = false:=by unfold zri; rw [c]; rfl
    rw [c,if_pos rfl] at hKj
    have hset:(Z.map EncE.cs).set D.length [AV.sl (X.hs.map EncE.cs) .no,AV.sl (X.rows.map EncE.cs) .no] = (K (j + 1) ++ l.drop (K (j + 1)).length).map EncE.cs:=by
     have e:Z.set D.length X = K (j + 1) ++ l.drop (K (j + 1)).length:=by
      rw [hKj,← hZ,List.set_append_right _ _ (czf _),Nat.sub_self,zgD (show D.length < l.length by omega)]
      simp
     rw [← e,List.map_set]
     rfl
    have hlen1:(K (j + 1)).length = D.length + 1:=by rw [hKj]; simp
    simp (maxSteps:=4000000) only [go_sem,zae,zac,zad,zaq,zas,czb,cza,↓reduceIte,zaO,za6,zaK,zfd,zaa,onz,hms,hms2,hbs2,hn2,hs2,hss,hss2,hl2,hn0,hj',hgj,hgD,hnr,hdr,hset,czd,czc]
    all_goals (repeat' first | (with_reducible first | rfl | apply And.intro | assumption) | ((with_reducible show zaf _ _ = true); rfl)) <;> try first | omega | (simp only [InR]; omega)
    refine nxt ht trivial ?_
    simp only [hj1]
    refine ⟨rfl,rfl,rfl,by dsimp only [zah]; rw [hl2]; exact czf _,zeb _ _,?_,zbu (by dsimp only [zah]; rw [hl2]; exact hokv _ (hseab _ _)),trivial⟩
    dsimp only [zah]
    rw [hl2,hlen1]
    simp [AV.bare,zal,zaN,zaS,zak,zat,zah,tokz1,lk,zab,za2]
    omega
  ·intro _
   have hjN:i0 + 1 + (l.length - (i0 + 1)) = l.length:=by omega
   simp only [hjN]
   have hle:=hKle l.length (czf _)
   obtain ⟨D,hD⟩:∃ D,K l.length = D:=⟨_,rfl⟩
   rw [hD] at hle
   rw [hD]
   have hsub:((l.length:Int) - (D.length:Int)).toNat = l.length - D.length:=by omega
   have hz0:((D.length:Int) - 0).toNat = D.length:=by omega
   have hce:zgG ((D ++ l.drop D.length).map EncE.cs) D.length (l.length - D.length) [.sl [] .full,.sl [] .full] = D.map EncE.cs ++ List.replicate (l.length - D.length) zqn:=by
    unfold zgG
    have e1:List.drop (D.length + (l.length - D.length)) ((D ++ l.drop D.length).map EncE.cs) = []:=czM (by simp <;> omega)
    have e2:List.take D.length ((D ++ l.drop D.length).map EncE.cs) = D.map EncE.cs:=by rw [← List.map_take,List.take_append_of_le_length (czf _),czm]
    rw [e1,e2,List.append_nil]; rfl
   simp (maxSteps:=4000000) only [go_sem,zae,zac,zad,zaq,zas,czb,cza,↓reduceIte,zaO,za6,zaK,zfd,zaa,onz,hms,hms2,hbs2,hn2,hs2,hss,hss2,hl2,hn0,hsub,hz0,hce,czA,decide_false,czd,czc,czz]
   all_goals (repeat' first | (with_reducible first | rfl | apply And.intro | assumption) | ((with_reducible show zaf _ _ = true); rfl)) <;> try first | omega | (simp only [InR]; omega)
   refine ⟨n0,czf _,czf _,cze (by rw [hl2]; exact czf _),by simp [AV.bare,zal,zaN,zaS,zak,zat,zah,tokz1,lk,zab,za2]; omega,?_⟩
   rw [cze (by rw [hl2]; exact czf _)]
   refine hokv _ fun e he c hc => ?_
   rcases czv.1 he with q | q
   ·exact hseab _ _ e q c hc
   ·rw [(czL.1 q).2] at hc
    simp only [zqn,czn,czk,or_false] at hc
    rcases hc with rfl | rfl <;> simp [bel]
end
end Go.Proofs
