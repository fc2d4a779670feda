/- The texts H7, H8, H9, H10, joined. -/
import Derived.Test.YtilbconikmpadaaGreatG13
set_option linter.all false
namespace Go.Proofs
open Go.Fs
set_option maxHeartbeats 4000000
set_option maxRecDepth 8000
def zj0 (y:Yd) (m0:Nat):AV:=.fn (.func 166) [] [.ptr (m0 + 2) 0,.ref (ydC y) 0,.ptr m0 0,.ptr (m0 + 3) 0]
def zet (y:Yd) (m0 l:Nat) (s:List Int):List AObj:=[.cells [.yld l],.cells (s.map (AV.int .i64)),.cells [.arr (m0 + 1) 0 (hrs y) 1],.cells [zj0 y m0]]
section
variable {σ:Type} {M:σ → List AObj} {m0 l:Nat} {y:Yd} {go:σ → List Int → Bool} {next:σ → List Int → σ} {Rdy:Nat → σ → Prop} {T:Nat}
structure IterY (M:σ → List AObj) (m0 l:Nat) (y:Yd) (go:σ → List Int → Bool) (next:σ → List Int → σ) (Rdy:Nat → σ → Prop) (T:Nat):Prop where
 len:∀ a,(M a).length = m0
 lt:l < m0
 ok:∀ a,∀ o ∈ M a,zb6 m0 o
 yield:∀ k a p (R:List AObj),Rdy k a → k < T → zeO y.t p = true → (∀ o ∈ R,zb6 (m0 + R.length) o) → zr6 Tryz.prog l [seaC (zb1 y.t p)] (M a ++ R) (fun r mem' => r = .bool (go a p) ∧ mem' = M (next a p) ++ R)
 rdy:∀ k a p,Rdy k a → k < T → go a p = true → Rdy (k + 1) (next a p)
theorem zte (s:Sea) (k:Nat):(∀ c ∈ EncE.cs s,bel k 9 c):=fun c hc => zcR _ _ _ (EncE.ok s c hc) (by rw [zfA]; omega)
theorem ydC_bel (y:Yd) (k n:Nat) (h:3 ≤ n):∀ c ∈ ydC y,bel k n c:=fun c hc => zcR _ _ _ (zfo y c hc) (by omega)
theorem xtraY_ok (hlt:l < m0) (s:List Int):∀ o ∈ zet y m0 l s,zb6 (m0 + 4) o:=by
 intro o ho
 simp only [zet,czn,czk,or_false] at ho
 rcases ho with rfl | rfl | rfl | rfl
 ·simp only [zbm,czn,czk,or_false,forall_eq,zqA]; omega
 ·rw [zbm,zl9]; trivial
 ·simp only [zbm,czn,czk,or_false,forall_eq,zqD]; omega
 ·simp only [zbm,czn,czk,or_false,forall_eq,zj0,bel_fn,forall_eq_or_imp,zqC,zqB]
  exact ⟨fun c h => h.elim,by omega,ydC_bel y _ _ (by omega),by omega,by omega⟩
theorem zhc (hi:IterY M m0 l y go next Rdy T) (a:σ) (s:List Int) {R:List AObj} (hR:∀ o ∈ R,zb6 (m0 + 4 + R.length) o):∀ o ∈ M a ++ (zet y m0 l s ++ R),zb6 (m0 + 4 + R.length) o:=fun o ho => by
 rcases czv.1 ho with q | q
 ·exact zc9 (by omega) o (hi.ok a o q)
 ·rcases czv.1 q with q | q
  ·exact zc9 (by omega) o (xtraY_ok hi.lt s o q)
  ·exact hR o q
theorem zdl (hi:IterY M m0 l y go next Rdy T) (a:σ) (s:List Int) (R:List AObj):(M a ++ (zet y m0 l s ++ R)).length = m0 + 4 + R.length:=by
 rw [czc,czc,hi.len]; show m0 + (4 + R.length) = _; omega
theorem znF (hi:IterY M m0 l y go next Rdy T) (hv:VY y):∀ (f:Nat) (p s:List Int) (a:σ) (k:Nat) (R:List AObj),p.length + f = hrs y → s.length = hrs y → s.take p.length = p → Rdy k a → k + (zh3 y.t f p).length ≤ T → (∀ o ∈ R,zb6 (m0 + 4 + R.length) o) →
  zfS Tryz.prog 166 [.int .i64 p.length,.ptr (m0 + 2) 0,.ref (ydC y) 0,.ptr m0 0,.ptr (m0 + 3) 0] (M a ++ (zet y m0 l s ++ R))
   (fun r mem' => ∃ s',s'.length = hrs y ∧ s'.take p.length = p ∧ r = .bool (zdO go next a (zh3 y.t f p)).2 ∧ mem' = M (zdO go next a (zh3 y.t f p)).1 ++ (zet y m0 l s' ++ R) ∧ ((zdO go next a (zh3 y.t f p)).2 = true → Rdy (k + (zh3 y.t f p).length) (zdO go next a (zh3 y.t f p)).1)):=by
 have hh4:y.t.heights.length ≤ 4096:=by have:=hv.fok.len; have:=hv.l0; omega
 intro f
 induction f with
 | zero =>
  intro p s a k R hf hsl hp hr hT hR
  have hpl:p.length = hrs y:=by omega
  have hps:p = s:=by rw [← hp,hpl,← hsl,czm]
  subst hps
  rw [hpl]
  obtain ⟨n,hn⟩:∃ n,hrs y = n:=⟨_,rfl⟩
  have hokA:=zhc hi a p hR
  have hlenA:=zdl hi a p R
  obtain ⟨mm,hmm⟩:∃ mm,M a ++ (zet y m0 l p ++ R) = mm:=⟨_,rfl⟩
  obtain ⟨n0,hn0⟩:∃ n0,m0 + 4 + R.length = n0:=⟨_,rfl⟩
  rw [hmm,hn0] at hokA hlenA
  have g0:∀ r,zaa (mm ++ r) m0 = .cells [.yld l]:=fun r => by rw [zaT (by omega),← hmm,← hi.len a]; exact zaK _ _ 0
  have g0':zaa mm m0 = .cells [.yld l]:=by rw [← hmm,← hi.len a]; exact zaK _ _ 0
  have g1:zaa mm (m0 + 1) = .cells (p.map (AV.int .i64)):=by rw [← hmm,← hi.len a]; exact zaK _ _ 1
  have g2:zaa mm (m0 + 2) = .cells [.arr (m0 + 1) 0 n 1]:=by rw [← hmm,← hi.len a,← hn]; exact zaK _ _ 2
  have g4:∀ r,zaa (mm ++ r) n0 = zaa r 0:=fun r => by rw [← hlenA]; exact zaK _ _ 0
  have s4:∀ r o,(mm ++ r).set n0 o = mm ++ r.set 0 o:=fun r o => by rw [← hlenA]; exact zbN _ _ 0 _
  have hpn:p.length = n:=by omega
  have hch:zc4 1 n (p.map (AV.int .i64)) = p.map EncE.cs:=by rw [zfB p n (by omega),cze (by omega)]
  have h10:=hv.hrs
  rw [hn] at h10
  have hp4:p.length ≤ 4096:=by omega
  rw [hmm,hn]
  refine zch (Φ:=P120) Tryz.func166 rfl (by rfl) (by rw [Tryz.ntmps166]; simp) zaB zim (by simp [AV.strip,AV.strip1]) ?_
  rw [Tryz.ntmps166]
  simp only [Tryz.f166,zai,zam,ydC]
  iterate 2 (
   refine zaC fun Q1 h1 => ?_
   simp (maxSteps:=4000000) only [go_sem,zae,zac,zad,zan,zaq,czb,cza,↓reduceIte,zab,onz,g0',g1,g2,hpn,hch,hlenA]
   all_goals (repeat' first | (with_reducible first | rfl | apply And.intro | assumption) | ((with_reducible show zaj _ _ = true); rfl)) <;> try first | omega | (simp only [InR]; omega)
   rw [h1]; clear h1 Q1; simp only [zaW,zaA])
  have hsq:zh3 y.t 0 p = if zeO y.t p then [p] else []:=rfl
  cases c1:zeO y.t p
  ·rw [c1] at hsq
   simp only [czp,if_false] at hsq
   rw [hsq] at hT ⊢
   simp (maxSteps:=4000000) only [go_sem,zae,zac,zad,zan,zaq,czb,cza,↓reduceIte,zab,onz,g0',g1,g2,hpn,hch,hlenA,c1]
   rw [cze (by omega)]
   exact ⟨⟨hh4,by omega⟩,⟨p,by omega,by rw [← hpn,czm],rfl,hmm.symm,fun _ => hr⟩,trivial,hokA⟩
  ·rw [c1,if_pos rfl] at hsq
   rw [hsq] at hT ⊢
   have hr1:zdO go next a [p] = (next a p,go a p):=by
    simp only [zdO]
    cases go a p <;> rfl
   rw [hr1]
   have hll:zbg y.t p = true:=by
    unfold zeO zbZ at c1
    simp only [czl] at c1
    exact c1.2.1
   have hokA':∀ o ∈ mm,zb6 mm.length o:=by rw [hlenA]; exact hokA
   have hY:=hi.yield k a p ((zet y m0 l p ++ R) ++ [.cells [.sl ((zb1 y.t p).hs.map EncE.cs) .no,.sl ((zb1 y.t p).rows.map EncE.cs) .no]]) hr (by simp at hT; omega) c1 (fun o ho => by
    have e:m0 + ((zet y m0 l p ++ R) ++ [AObj.cells [.sl ((zb1 y.t p).hs.map EncE.cs) .no,.sl ((zb1 y.t p).rows.map EncE.cs) .no]]).length = n0 + 1:=by
     rw [czc,czc,← hn0]; show m0 + (4 + R.length + 1) = _; omega
    rw [e]
    rcases czv.1 ho with q | q
    ·exact zc9 (by omega) o (hokA o (by rw [← hmm]; exact List.mem_append_right _ q))
    ·simp only [czC] at q
     subst q
     exact zte (zb1 y.t p) _)
   obtain ⟨S,hS⟩:∃ S,zb1 y.t p = S:=⟨_,rfl⟩
   rw [hS] at hY
   rw [← czd,hmm] at hY
   unfold seaC at hY
   simp (maxSteps:=4000000) only [go_sem,zae,zac,zad,zan,zaq,czb,cza,↓reduceIte,zab,onz,g0,g0',g1,g2,g4,s4,hpn,hch,hlenA,c1,czd,czc]
   have hX:=seaX_call y p hv hll g1 hokA' (by omega)
   rw [hpn,hS] at hX
   unfold ydC at hX
   all_goals (repeat' first | (with_reducible first | rfl | apply And.intro | assumption) | ((with_reducible show zaj _ _ = true); rfl)) <;> try first | omega | (simp only [InR]; omega)
   refine ⟨_,hX,?_⟩
   rintro r mem' ⟨rfl,rfl⟩ hlen
   simp (maxSteps:=4000000) only [go_sem,zae,zac,zad,zan,zaq,czb,cza,↓reduceIte,zab,onz,g0,g0',g1,g2,g4,s4,hpn,hch,hlenA,czd,czc,seaC]
   all_goals (repeat' first | (with_reducible first | rfl | apply And.intro | assumption) | ((with_reducible show zaj _ _ = true); rfl)) <;> try first | omega | (simp only [InR]; omega)
   refine ⟨_,hY,?_⟩
   rintro r mem' ⟨rfl,rfl⟩ hlen
   have hokB:=zhc hi (next a p) p hR
   have hlenB:=zdl hi (next a p) p R
   rw [hn0] at hokB hlenB
   rw [← czd,List.take_append_of_le_length (by omega),cze (by omega)]
   exact ⟨trivial,trivial,⟨p,by omega,by rw [← hpn,czm],rfl,rfl,fun q => hi.rdy k a p hr (by simp at hT; omega) q⟩,trivial,hokB⟩
 | succ f ih =>
  intro p s a k R hf hsl hp hr hT hR
  have hpl:p.length < y.t.heights.length:=by have:=hv.fok.len; have:=hv.hrs; omega
  have hrg:=hv.fok.hs _ (zbv hpl)
  obtain ⟨hg,hhg⟩:∃ hg,at_ y.t.heights p.length = hg:=⟨_,rfl⟩
  have hge:(y.t.heights.map EncE.cs).getD p.length [] = [AV.int .i64 hg.lo,AV.int .i64 hg.hi]:=by rw [zax hpl,hhg]; rfl
  rw [hhg] at hrg
  obtain ⟨n,hn⟩:∃ n,hrs y = n:=⟨_,rfl⟩
  have h10:=hv.hrs
  rw [hn] at h10 hf hsl
  have hpn:¬ (p.length:Int) = (n:Int):=by omega
  have hokA:=zhc hi a s hR
  have hlenA:=zdl hi a s R
  have hW0:zh3 y.t (f + 1) p = zgX y.t f p (szR hg).toNat:=by unfold zgX; rw [← hhg]; rfl
  obtain ⟨mm,hmm⟩:∃ mm,M a ++ (zet y m0 l s ++ R) = mm:=⟨_,rfl⟩
  obtain ⟨n0,hn0⟩:∃ n0,m0 + 4 + R.length = n0:=⟨_,rfl⟩
  rw [hmm,hn0] at hokA hlenA
  have g1:zaa mm (m0 + 1) = .cells (s.map (AV.int .i64)):=by rw [← hmm,← hi.len a]; exact zaK _ _ 1
  have g2:zaa mm (m0 + 2) = .cells [.arr (m0 + 1) 0 n 1]:=by rw [← hmm,← hi.len a,← hn]; exact zaK _ _ 2
  have g4:∀ r,zaa (mm ++ r) n0 = zaa r 0:=fun r => by rw [← hlenA]; exact zaK _ _ 0
  have s4:∀ r o,(mm ++ r).set n0 o = mm ++ r.set 0 o:=fun r o => by rw [← hlenA]; exact zbN _ _ 0 _
  rw [hmm]
  refine zch (Φ:=P120) Tryz.func166 rfl (by rfl) (by rw [Tryz.ntmps166]; simp) zaB zim (by simp [AV.strip,AV.strip1]) ?_
  rw [Tryz.ntmps166]
  simp only [Tryz.f166,zai,zam,ydC]
  iterate 5 (
   refine zaC fun Q1 h1 => ?_
   simp (maxSteps:=4000000) only [go_sem,zae,zac,zad,zan,zaq,czb,cza,↓reduceIte,zab,onz,g1,g2,g4,s4,hpn,hge,hlenA,czd,czc]
   all_goals (repeat' first | (with_reducible first | rfl | apply And.intro | assumption) | ((with_reducible show zaj _ _ = true); rfl)) <;> try first | omega | (simp only [InR]; omega)
   rw [h1]; clear h1 Q1; simp only [zaW,zaA])
  simp (maxSteps:=4000000) only [go_sem,zae,zac,zad,zan,zaq,czb,cza,↓reduceIte,zab,onz]
  have hRc:∀ o ∈ R ++ [AObj.cells [AV.int .i64 hg.lo,AV.int .i64 hg.hi]],zb6 (m0 + 4 + (R ++ [AObj.cells [AV.int .i64 hg.lo,AV.int .i64 hg.hi]]).length) o:=by
   intro o ho
   rw [czc,← Nat.add_assoc]
   rcases czv.1 ho with q | q
   ·exact zc9 (by omega) o (hR o q)
   ·simp only [czC] at q
    subst q
    simp [AV.bare,zal,zaN,zaR,zak,zar,zaf,tokz1,lk,zaa,za3]
  obtain ⟨RR,hRR⟩:∃ RR,R ++ [AObj.cells [AV.int .i64 hg.lo,AV.int .i64 hg.hi]] = RR:=⟨_,rfl⟩
  have hRl:RR.length = R.length + 1:=by rw [← hRR]; simp
  rw [hRR] at hRc
  refine zjN [] [0,1,4,6,9] (fun b:Nat × σ × List Int => [(10,.int .i64 (hg.lo + b.1))]) (fun b _ => M b.2.1 ++ (zet y m0 l b.2.2 ++ RR)) (fun b => (b.1 ≤ (szR hg).toNat ∧ b.2.2.length = n ∧ b.2.2.take p.length = p) ∧ zdO go next a (zgX y.t f p b.1) = (b.2.1,true) ∧ Rdy (k + (zgX y.t f p b.1).length) b.2.1) (fun b => (szR hg).toNat - b.1) ((0,a,s)) ?_ ?_ ?_
  ·exact ⟨⟨Nat.zero_le _,hsl,hp⟩,rfl,hr⟩
  ·have hM0:mm ++ [AObj.cells [AV.int .i64 hg.lo,AV.int .i64 hg.hi]] = M a ++ (zet y m0 l s ++ RR):=by rw [← hmm,← hRR,czd,czd]
   have hlA:=zdl hi a s RR
   simp only [zaf,zcj]
   rw [hM0]
   refine ⟨rfl,rfl,rfl,?_,za0 _,?_,zby (by rw [hlA]; exact zhc hi a s hRc),trivial⟩
   ·show n0 ≤ _
    rw [hlA]; omega
   ·show zaN _ (M a ++ (zet y m0 l s ++ RR)).length _
    rw [hlA]
    simp [AV.bare,zal,zaN,zaR,zak,zar,zaf,tokz1,lk,zaa,za3]
    omega
  ·rintro ⟨i,b,s'⟩ ⟨⟨hn1,hsl',hp'⟩,hrun,hrb⟩
   simp only at hn1 hsl' hp' hrun hrb
   have hlB:=fun b s => zdl (l:=l) hi b s RR
   have hph:p.length < s'.length:=by omega
   obtain ⟨mm2,hmm2⟩:∃ mm2,M b ++ (zet y m0 l s' ++ RR) = mm2:=⟨_,rfl⟩
   have e1:zaa mm2 (m0 + 1) = .cells (s'.map (AV.int .i64)):=by rw [← hmm2,← hi.len b]; exact zaK _ _ 1
   have e2:zaa mm2 (m0 + 2) = .cells [.arr (m0 + 1) 0 n 1]:=by rw [← hmm2,← hi.len b,← hn]; exact zaK _ _ 2
   have e4:zaa mm2 n0 = .cells [AV.int .i64 hg.lo,AV.int .i64 hg.hi]:=by
    rw [← hmm2,← hn0,← hRR,← hi.len b,Nat.add_assoc,zaK]
    have:=zaK (zet y (M b).length l s' ++ R) [AObj.cells [AV.int .i64 hg.lo,AV.int .i64 hg.hi]] 0
    rw [czd] at this
    have e:(zet y (M b).length l s' ++ R).length + 0 = 4 + R.length:=by rw [czc]; rfl
    rw [e] at this
    exact this
   dsimp only
   rw [hmm2]
   by_cases hiN:(i:Int) < szR hg
   ·obtain ⟨s1,hs1⟩:∃ s1,s'.set p.length (hg.lo + (i:Int)) = s1:=⟨_,rfl⟩
    have hs1l:s1.length = n:=by rw [← hs1,czt]; exact hsl'
    have hov:=zm1 hph (hg.lo + (i:Int))
    rw [hs1] at hov
    obtain ⟨mm3,hmm3⟩:∃ mm3,M b ++ (zet y m0 l s1 ++ RR) = mm3:=⟨_,rfl⟩
    have eset:mm2.set (m0 + 1) (AObj.cells (s1.map (AV.int .i64))) = mm3:=by
     rw [← hmm2,← hmm3,← hi.len b,zbN]; rfl
    have f3:zaa mm3 (m0 + 3) = .cells [zj0 y m0]:=by rw [← hmm3,← hi.len b]; exact zaK _ _ 3
    unfold zj0 ydC at f3
    have ht1:s1.take (p.length + 1) = p ++ [hg.lo + (i:Int)]:=by rw [← hs1,zhi hph,hp']
    have hpq:(p ++ [hg.lo + (i:Int)]).length = p.length + 1:=by simp
    have hsn:=zh2 y.t f p i
    rw [hhg] at hsn
    have hrn:zdO go next a (zgX y.t f p (i + 1)) = zdO go next b (zh3 y.t f (p ++ [hg.lo + (i:Int)])):=by
     rw [hsn,zey,hrun]; rfl
    have hlen2:=congrArg List.length hsn
    rw [czc] at hlen2
    have hpre:(zgX y.t f p (i + 1)).length ≤ (zh3 y.t (f + 1) p).length:=by
     obtain ⟨r,hr⟩:=zf1 y.t f p (i + 1) ((szR hg).toNat - (i + 1))
     rw [show i + 1 + ((szR hg).toNat - (i + 1)) = (szR hg).toNat by omega] at hr
     rw [hW0,hr,czc]
     omega
    have ihq:=ih (p ++ [hg.lo + (i:Int)]) s1 b (k + (zgX y.t f p i).length) RR (by rw [hpq,hn]; omega) (by rw [hn]; exact hs1l) (by rw [hpq]; exact ht1) hrb (by omega) hRc
    rw [hpq,show ((p.length + 1:Nat):Int) = (p.length:Int) + 1 by omega,hmm3,hn] at ihq
    unfold ydC at ihq
    have hcd:decide (hg.lo + (i:Int) ≤ hg.hi) = true:=by unfold szR at hiN; simp; omega
    have hbd:hg.lo + (i:Int) ≤ 99 ∧ 0 ≤ hg.lo + (i:Int):=by unfold szR at hiN; omega
    simp (maxSteps:=4000000) only [go_sem,zae,zac,zad,zaq,czb,cza,↓reduceIte,zab,onz,e1,e2,e4,f3,eset,hov,hcd,czz]
    all_goals (repeat' first | (with_reducible first | rfl | apply And.intro | assumption) | ((with_reducible show zaj _ _ = true); rfl)) <;> try first | omega | (simp only [InR]; omega)
    refine ⟨_,zbE ihq,?_⟩
    rintro r mem' ⟨r0,rfl,⟨s2,k0,k1,rfl,rfl,k5⟩,hlen⟩ _
    have hts2:s2.take p.length = p:=by
     have:=congrArg (List.take p.length) k1
     rw [List.take_take] at this
     simpa using this
    obtain ⟨b2,hb2⟩:∃ b2,(zdO go next b (zh3 y.t f (p ++ [hg.lo + (i:Int)]))).1 = b2:=⟨_,rfl⟩
    rw [hb2] at k5
    rw [hb2]
    have htk:List.take n0 (M b2 ++ (zet y m0 l s2 ++ RR)) = M b2 ++ (zet y m0 l s2 ++ R):=by
     rw [← hRR,← czd,← czd]
     rw [List.take_append_of_le_length (by rw [czd,zdl hi]; omega),cze (by rw [czd,zdl hi]; omega),czd]
    have hokB:=zhc hi b2 s2 hR
    rw [hn0] at hokB
    cases c2:(zdO go next b (zh3 y.t f (p ++ [hg.lo + (i:Int)]))).2
    all_goals
     simp (maxSteps:=4000000) only [go_sem,zae,zac,zad,zan,zaq,czb,cza,↓reduceIte,zab,onz,c2,htk]
     all_goals (repeat' first | (with_reducible first | rfl | apply And.intro | assumption) | ((with_reducible show zaj _ _ = true); rfl)) <;> try first | omega | (simp only [InR]; omega)
    ·have hW:zdO go next a (zh3 y.t (f + 1) p) = zdO go next b (zh3 y.t f (p ++ [hg.lo + (i:Int)])):=by
      obtain ⟨r,hr⟩:=zf1 y.t f p (i + 1) ((szR hg).toNat - (i + 1))
      rw [show i + 1 + ((szR hg).toNat - (i + 1)) = (szR hg).toNat by omega] at hr
      rw [hW0,hr,zey,hrn,c2,if_neg (by simp)]
     rw [hW,hlenA,htk,hb2,c2]
     exact ⟨s2,by rw [hn]; exact k0,hts2,rfl,rfl,fun q => by cases q⟩
    ·trivial
    ·rw [hlenA,htk]; exact hokB
    ·refine ⟨(i + 1,b2,s2),⟨⟨by dsimp only; omega,by dsimp only; omega,hts2⟩,?_,?_⟩,by dsimp only; omega,?_⟩
     ·rw [hrn,← hb2,← c2]
     ·dsimp only
      rw [hlen2,← Nat.add_assoc]
      exact k5 c2
     ·simp only [zaf,zcj]
      refine zbl ⟨rfl,rfl,rfl,by dsimp only; rw [zdl hi]; omega,za0 _,?_,zby (by rw [zdl hi]; exact zhc hi b2 s2 hRc),trivial⟩
      show zaN _ (M b2 ++ (zet y m0 l s2 ++ RR)).length _
      rw [zdl hi]
      simp [AV.bare,zal,zaN,zaR,zak,zar,zaf,tokz1,lk,zaa,za3]
      omega
   ·have hN:i = (szR hg).toNat:=by omega
    have hcd:decide (hg.lo + (i:Int) ≤ hg.hi) = false:=by unfold szR at hiN; simp; omega
    have hW:zdO go next a (zh3 y.t (f + 1) p) = (b,true):=by rw [hW0,← hN,hrun]
    have hokB:=zhc hi b s' hR
    have htk:List.take mm.length (M b ++ (zet y m0 l s' ++ RR)) = M b ++ (zet y m0 l s' ++ R):=by
     rw [← hRR,← czd,← czd,hlenA]
     rw [List.take_append_of_le_length (by rw [czd,zdl hi]; omega),cze (by rw [czd,zdl hi]; omega),czd]
    rw [hn0] at hokB
    simp (maxSteps:=4000000) only [go_sem,zae,zac,zad,zan,zaq,czb,cza,↓reduceIte,zab,onz,e1,e2,e4,hcd]
    all_goals (repeat' first | (with_reducible first | rfl | apply And.intro | assumption) | ((with_reducible show zaj _ _ = true); rfl)) <;> try first | omega | (simp only [InR]; omega)
    ·rw [← hmm2,hW,htk]
     exact ⟨s',by rw [hn]; exact hsl',hp',rfl,rfl,fun _ => by rw [hW0,← hN]; exact hrb⟩
    ·trivial
    ·rw [← hmm2,htk,hlenA]; exact hokB
theorem ztd (hi:IterY M m0 l y go next Rdy T) (hv:VY y) (a:σ) (hr:Rdy 0 a) (hT:(zkP y.t).length ≤ T) :
  zfS Tryz.prog 165 [.yld l,.ref (ydC y) 0] (M a) (fun r mem' => mem' = M (zdO go next a (zkP y.t)).1):=by
 obtain ⟨n,hn⟩:∃ n,hrs y = n:=⟨_,rfl⟩
 have h10:=hv.hrs
 have hla:=hi.len a
 have hzl:(List.replicate n (0:Int)).length = n:=by simp
 have hc:=znF hi hv (hrs y) [] (List.replicate n 0) a 0 [] (by simp) (by rw [hn]; simp) rfl hr (by rw [Nat.zero_add]; unfold zkP at hT; exact hT) (fun o ho => by cases ho)
 have hsl:zh3 y.t (hrs y) [] = zkP y.t:=rfl
 rw [List.append_nil,hsl] at hc
 unfold zet zj0 ydC at hc
 rw [hn] at hc h10
 have gk:∀ r k,zaa (M a ++ r) (m0 + k) = zaa r k:=fun r k => by rw [← hla]; exact zaK _ _ k
 have sk:∀ r k o,(M a ++ r).set (m0 + k) o = M a ++ r.set k o:=fun r k o => by rw [← hla]; exact zbN _ _ k _
 have hnn:y.t.last + 1 = (n:Int):=by omega
 have hrep:zb9 [AV.int .i64 0] n = (List.replicate n (0:Int)).map (AV.int .i64):=by rw [zd8]; simp
 refine zch (Φ:=P120) Tryz.func165 rfl (by rfl) (by rw [Tryz.ntmps165]; simp) zaB zim (by simp [AV.strip,AV.strip1]) ?_
 rw [Tryz.ntmps165]
 simp only [Tryz.f165,zai,zam,ydC]
 iterate 4 (
  refine zaC fun Q1 h1 => ?_
  simp (maxSteps:=4000000) only [go_sem,zae,zac,zad,zan,zaq,czb,cza,↓reduceIte,zab,onz,gk,sk,hnn,hrep,hla,czd,czc]
  all_goals (repeat' first | (with_reducible first | rfl | apply And.intro | assumption) | ((with_reducible show zaj _ _ = true); rfl)) <;> try first | omega | (simp only [InR]; omega)
  rw [h1]; clear h1 Q1; simp only [zaW,zaA])
 simp (maxSteps:=4000000) only [go_sem,zae,zac,zad,zan,zaq,czb,cza,↓reduceIte,zab,onz,gk,sk,hnn,hrep,hla,czd,czc]
 refine ⟨_,zbE hc,?_⟩
 rintro r mem' ⟨r0,rfl,⟨s',_,_,rfl,rfl,_⟩,hlen⟩ _
 rw [List.take_left' (hi.len _)]
 exact ⟨rfl,by simp [bel],hi.ok _⟩
end
theorem zpA {σ:Type} (mm:σ → List AObj) (ls:σ → LoopState) (pd:σ → Option Code) {y:Yd} (go:σ → List Int → Bool) (next:σ → List Int → σ) (Rdy:Nat → σ → Prop) (T:Nat) (tm':List (Nat × AV)) (a0:σ)
  {Q:QA} {st:St} {f:Operand} {ps:Array Tmp} {asg body:Code}
  (hv:VY y) (hf:(evT st.tm f).un = .fn (.func 165) [] [.ref (ydC y) 0]) (hav:(evT st.tm f).av)
  (htm:∀ q ∈ tm',q.2 = (lk st.tm q.1).strip) (hm0:mm a0 = st.mem) (hs0:ls a0 = .ready) (hp0:pd a0 = none)
  (hi:IterY (zcl mm ls pd tm' st.n ps asg body) (st.mem.length + 2) (st.mem.length + 1) y go next Rdy T) (hr:Rdy 0 a0) (hT:(zkP y.t).length ≤ T)
  (hend:endA Q st (zcl mm ls pd tm' st.n ps asg body (zdO go next a0 (zkP y.t)).1) (zaa (zcl mm ls pd tm' st.n ps asg body (zdO go next a0 (zkP y.t)).1) (st.mem.length + 1))):zhu Tryz.prog f ps asg body Q st:=by
 unfold zhu
 rw [hf]
 have hM0:zcl mm ls pd tm' st.n ps asg body a0 = st.mem ++ [AObj.deferred,AObj.loop .ready none tm' st.n ps asg body]:=by
  unfold zcl; rw [hm0,hs0,hp0]
 refine ⟨hav,tm',(fun r mem' => mem' = zcl mm ls pd tm' st.n ps asg body (zdO go next a0 (zkP y.t)).1),htm,?_,?_⟩
 ·rw [← hM0]
  exact ztd hi hv a0 hr hT
 ·intro r mem' h hlen
  rw [h]
  exact hend
theorem seas_call (y:Yd):zaP Tryz.prog 142 [Enc.enc y] (· = .fn (.func 165) [] [.ref (ydC y) 0]):=by
 simp only [zcf]
 refine cpz zim Tryz.func142 zaB ?_
 rw [Tryz.ntmps142]
 simp only [Tryz.f142,zai,zam]
 simp (maxSteps:=4000000) only [go_sem,AV.one,zae,zac,zad,zan,zaq,zaa,czb,cza,↓reduceIte,zab,onz,ydC]
structure SeasV where
 y:Yd
instance:Enc SeasV where
 enc x:=.fn (.func 165) [] [.ref (ydC x.y) 0]
 dec _:=none
 law v x h:=by cases h
 dep:=4
 ok x:=by
  have up:∀ v,zbr 2 v → zbr 2 v:=fun v h => h
  exact ⟨fun _ h => (by cases h),fun c hc => by
   simp only [czn,czk,or_false] at hc
   subst hc
   exact zfo x.y⟩
theorem zc8 (x:SeasV):Enc.enc x = .fn (.func 165) [] [.ref [.int .i64 x.y.t.last,.sl (x.y.t.heights.map EncE.cs) .no,.int .i64 x.y.t.step,.sl (x.y.t.levels.map EncE.cs) .no,.sl (x.y.t.marks.map EncE.cs) .no,
 .int .i64 x.y.hands,.sl (x.y.chairs.map EncE.cs) .no,.sl (x.y.order.map EncE.cs) .no,.sl (x.y.hires.map EncE.cs) .no] 0]:=rfl
structure W8 where
 y:Yd
 ts:List Sea
def w8C (w:W8):List AV:=[.int .i64 w.y.t.last,.sl (w.y.t.heights.map EncE.cs) .no,.int .i64 w.y.t.step,.sl (w.y.t.levels.map EncE.cs) .no,.sl (w.y.t.marks.map EncE.cs) .no,
 .int .i64 w.y.hands,.sl (w.y.chairs.map EncE.cs) .no,.sl (w.y.order.map EncE.cs) .no,.sl (w.y.hires.map EncE.cs) .no,.sl (w.ts.map EncE.cs) .no]
def zl6:List AV → Option W8
 | [.int .i64 a,.sl b .no,.int .i64 c,.sl d .no,.sl e .no,.int .i64 f,.sl g .no,.sl h .no,.sl i .no,.sl j .no] =>
  match (zdC b:Option (List Rg)),(zdC d:Option (List Int)),(zdC e:Option (List Mk)),(zdC g:Option (List Ch)),(zdC h:Option (List Int)),(zdC i:Option (List Rg)),(zdC j:Option (List Sea)) with
  | some b,some d,some e,some g,some h,some i,some j => some ⟨⟨⟨a,b,c,d,e⟩,f,g,h,i⟩,j⟩
  | _,_,_,_,_,_,_ => none
 | _ => none
theorem zhR {cs:List AV} {w:W8} (h:zl6 cs = some w):cs = w8C w:=by
 unfold zl6 at h
 split at h
 ·split at h
  ·rename_i h1 h2 h3 h4 h5 h6 h7
   cases h
   rw [zbx _ _ h1,zbx _ _ h2,zbx _ _ h3,zbx _ _ h4,zbx _ _ h5,zbx _ _ h6,zbx _ _ h7]
   rfl
  ·cases h
 ·cases h
theorem zqg (w:W8):zl6 (w8C w) = some w:=by
 simp only [zl6,w8C,zdo]
theorem ziX (w:W8):∀ c ∈ w8C w,zbr 3 c:=by
 simp only [w8C,zbr,czn,czk,or_false,forall_eq_or_imp,forall_eq,true_and,czx,forall_exists_index,and_imp,forall_apply_eq_imp_iff₂]
 have up:∀ v,zbr 1 v → zbr 2 v:=fun v h => by cases v <;> simp_all [zbr]
 exact ⟨fun a _ c hc => up c (EncE.ok a c hc),fun a _ c hc => up c (EncE.ok a c hc),fun a _ c hc => up c (EncE.ok a c hc),fun a _ c hc => up c (EncE.ok a c hc),fun a _ c hc => up c (EncE.ok a c hc),fun a _ c hc => up c (EncE.ok a c hc),fun a _ => EncE.ok a⟩
instance:Enc W8 where
 enc w:=.ref (w8C w) 0
 dec
  | .ref cs 0 => zl6 cs
  | _ => none
 law v x h:=by
  split at h
  ·rw [zhR h]
  ·cases h
 dep:=4
 ok:=ziX
instance:Enc (Option W8) where
 enc
  | some w => .ref (w8C w) 0
  | none => .nilp
 dec
  | .nilp => some none
  | .ref cs 0 => (zl6 cs).map some
  | _ => none
 law v x h:=by
  split at h
  ·cases h; rfl
  ·simp only [czr] at h
   obtain ⟨w,h1,rfl⟩:=h
   rw [zhR h1]
  ·cases h
 dep:=4
 ok x:=by
  cases x with
  | none => trivial
  | some w => exact ziX w
theorem zbe (w:W8):Enc.enc w = .ref (w8C w) 0:=rfl
theorem zaQ (w:W8):(Enc.dec (.ref [.int .i64 w.y.t.last,.sl (w.y.t.heights.map EncE.cs) .no,.int .i64 w.y.t.step,.sl (w.y.t.levels.map EncE.cs) .no,.sl (w.y.t.marks.map EncE.cs) .no,
 .int .i64 w.y.hands,.sl (w.y.chairs.map EncE.cs) .no,.sl (w.y.order.map EncE.cs) .no,.sl (w.y.hires.map EncE.cs) .no,.sl (w.ts.map EncE.cs) .no] 0):Option W8) = some w:=zqg w
theorem zao (w:W8):Enc.enc (some w) = .ref (w8C w) 0:=rfl
theorem zap:Enc.enc (none:Option W8) = .nilp:=rfl
structure FnK where
 w:W8
 n:Int
 s:Sea
instance:Enc FnK where
 enc f:=.fn (.func 143) [] [.ref [.ref (w8C f.w) 0] 0,.ref [.int .i64 f.n] 0,.ref [.sl (f.s.hs.map EncE.cs) .no,.sl (f.s.rows.map EncE.cs) .no] 0]
 dec
  | .fn (.func g) [] [.ref [.ref a 0] 0,.ref [.int .i64 n] 0,.ref s 0] =>
   if g = 143 then
    match zl6 a,ziz s with
    | some w,some s => some ⟨w,n,s⟩
    | _,_ => none
   else none
  | _ => none
 law v x h:=by
  split at h
  ·split at h
   ·rename_i e
    split at h
    ·rename_i h1 h2
     cases h
     rw [e,zhR h1,zie h2]
    ·cases h
   ·cases h
  ·cases h
 dep:=7
 ok x:=by
  have up:∀ n m (v:AV),zbr n v → n ≤ m → zbr m v:=by
   intro n
   induction n with
   | zero => intro m v h; simp [zbr] at h
   | succ n ih =>
    intro m v h hm
    obtain ⟨m,rfl⟩:∃ k,m = k + 1:=⟨m - 1,by omega⟩
    cases v <;> simp only [zbr] at h ⊢
    ·exact fun c hc => ih m c (h c hc) (by omega)
    ·exact fun c hc => ih m c (h c hc) (by omega)
    ·exact ⟨h.1,fun e he c hc => ih m c (h.2 e he c hc) (by omega)⟩
    ·exact fun c hc => ih m c (h c hc) (by omega)
    ·exact ⟨fun c hc => ih m c (h.1 c hc) (by omega),fun c hc => ih m c (h.2 c hc) (by omega)⟩
    ·exact fun c hc => ih m c (h c hc) (by omega)
  have h1:∀ c ∈ w8C x.w,zbr 4 c:=fun c hc => up 3 4 c (ziX x.w c hc) (by omega)
  have h2:∀ c ∈ ([.sl (x.s.hs.map EncE.cs) .no,.sl (x.s.rows.map EncE.cs) .no]:List AV),zbr 5 c:=fun c hc => up 2 5 c (zlC x.s c hc) (by omega)
  refine ⟨fun _ h => (by cases h),?_⟩
  intro c hc
  simp only [czn,czk,or_false] at hc
  rcases hc with rfl | rfl | rfl
  ·intro c hc
   simp only [czn,czk,or_false] at hc
   subst hc
   exact h1
  ·intro c hc
   simp only [czn,czk,or_false] at hc
   subst hc
   trivial
  ·exact h2
theorem zcW (f:FnK):Enc.enc f = .fn (.func 143) [] [.ref [.ref (w8C f.w) 0] 0,.ref [.int .i64 f.n] 0,.ref [.sl (f.s.hs.map EncE.cs) .no,.sl (f.s.rows.map EncE.cs) .no] 0]:=rfl
theorem zcX (w:W8) (n:Int) (s:Sea):(Enc.dec (.fn (.func 143) [] [.ref [.ref [.int .i64 w.y.t.last,.sl (w.y.t.heights.map EncE.cs) .no,.int .i64 w.y.t.step,.sl (w.y.t.levels.map EncE.cs) .no,.sl (w.y.t.marks.map EncE.cs) .no,
 .int .i64 w.y.hands,.sl (w.y.chairs.map EncE.cs) .no,.sl (w.y.order.map EncE.cs) .no,.sl (w.y.hires.map EncE.cs) .no,.sl (w.ts.map EncE.cs) .no] 0] 0,.ref [.int .i64 n] 0,.ref [.sl (s.hs.map EncE.cs) .no,.sl (s.rows.map EncE.cs) .no] 0]):Option FnK) = some ⟨w,n,s⟩:=by
 show (if _ then match zl6 (w8C w),ziz _ with | some w,some s => some (FnK.mk w n s) | _,_ => none else none) = _
 rw [if_pos rfl,zqg]
 simp only [ziz,zdo]
def zhQ (f:FnK) (c:Ch):Bool:=!decide ((at_ (at_ f.w.ts (f.n - 1).toNat).rows c.row.toNat).l = (at_ f.s.rows c.row.toNat).l)
structure RefM (α:Type) where
 x:α
instance {α:Type} [EncE α]:Enc (RefM α) where
 enc f:=.ref (EncE.cs f.x) 0
 dec
  | .ref a 0 => (EncE.dcs a:Option α).map RefM.mk
  | _ => none
 law v x h:=by
  split at h
  ·simp only [czr] at h
   obtain ⟨y,h1,rfl⟩:=h
   rw [EncE.law _ _ h1]
  ·cases h
 dep:=EncE.dep α + 1
 ok x:=EncE.ok x.x
theorem enc_refm {α:Type} [EncE α] (f:RefM α):Enc.enc f = .ref (EncE.cs f.x) 0:=rfl
theorem dec_refm {α:Type} [EncE α] (a:List AV):(Enc.dec (.ref a 0):Option (RefM α)) = (EncE.dcs a:Option α).map RefM.mk:=rfl
attribute [go_sem] dec_refm
def KPre (w:W8) (n:Int) (s:Sea) (c:Ch):Prop:=0 ≤ c.row ∧ c.row < (at_ w.ts (n - 1).toNat).rows.length ∧ c.row < s.rows.length
theorem zt4 (c:Ch) (w:RefC W8) (n:RefC Int) (s:RefM Sea) (h:(1 ≤ n.x ∧ n.x ≤ w.x.ts.length ∧ n.x ≤ 4096) ∧ KPre w.x n.x s.x c) :
  zaP Tryz.prog 143 [Enc.enc c,Enc.enc w,Enc.enc n,Enc.enc s] (· = Enc.enc (zhQ ⟨w.x,n.x,s.x⟩ c)):=by
 obtain ⟨w⟩:=w
 obtain ⟨n⟩:=n
 obtain ⟨s⟩:=s
 obtain ⟨⟨h1,h2,h24⟩,h3,h4,h5⟩:=h
 dsimp only at *
 obtain ⟨r,hr⟩:=czu h3
 have hk:(n - 1).toNat < w.ts.length:=by omega
 have g1:=zax (f:=EncE.cs) (l:=w.ts) (i:=(n - 1).toNat) hk
 obtain ⟨S,hS⟩:∃ S,at_ w.ts (n - 1).toNat = S:=⟨_,rfl⟩
 rw [hS] at g1 h4
 have g2:=zax (f:=EncE.cs) (l:=S.rows) (i:=r) (by omega)
 have g3:=zax (f:=EncE.cs) (l:=s.rows) (i:=r) (by omega)
 obtain ⟨A,hA⟩:∃ A,at_ S.rows r = A:=⟨_,rfl⟩
 obtain ⟨B,hB⟩:∃ B,at_ s.rows r = B:=⟨_,rfl⟩
 have hAl:=A.h
 have hBl:=B.h
 have hd:zhQ ⟨w,n,s⟩ c = !decide (A.l = B.l):=by unfold zhQ; rw [hS,hr,czF,hA,hB]
 rw [hA] at g2
 rw [hB] at g3
 rw [hd]
 simp only [zek,enc_refm,zbe,w8C]
 simp only [zcf]
 refine cpz zim Tryz.func143 zaB ?_
 rw [Tryz.ntmps143]
 simp only [Tryz.f143,zai,zam]
 refine zaC fun Q1 h1 => ?_
 simp (maxSteps:=4000000) only [go_sem,zae,zac,zad,zan,zaq,zaa,czb,cza,↓reduceIte,zaQ,zcX,zbe,zcW,zab,onz]
 all_goals (repeat' first | (with_reducible first | rfl | apply And.intro | assumption) | ((with_reducible show zaj _ _ = true); rfl)) <;> try first | omega | (simp only [InR]; omega)
 rw [h1]; clear h1 Q1; simp only [zaW,zaA]
 simp (maxSteps:=4000000) only [go_sem,zae,zac,zad,zan,zaq,zaa,czb,cza,↓reduceIte,zaQ,zcX,zbe,zcW,zab,onz,hr,g1,g2,g3,hAl,hBl]
 all_goals (repeat' first | (with_reducible first | rfl | apply And.intro | assumption) | ((with_reducible show zaj _ _ = true); rfl)) <;> try first | omega | (simp only [InR]; omega)
def P121 (g:FuncId):=(zas 142 (zcC (fun _:Yd => True) SeasV.mk) (zas 143 (ziL (fun (c:Ch) (w:RefC W8) (n:RefC Int) (s:RefM Sea) => (1 ≤ n.x ∧ n.x ≤ w.x.ts.length ∧ n.x ≤ 4096) ∧ KPre w.x n.x s.x c) (fun c w n s => zhQ ⟨w.x,n.x,s.x⟩ c)) (P120)):zaJ) g
theorem P121_ok:zaz Tryz.prog P121:=zah (zbj fun y _ => seas_call y) (zah (zeg zt4) (zim))
theorem zoz (d:Option Nat):zaF P121 d = none:=(zag (by decide) d).trans ((zag (by decide) d).trans (zoA d))
attribute [go_sem] P121 zoz
theorem kI_call (l:List Ch) (f:FnK) (h:l.length ≤ 4096 ∧ (1 ≤ f.n ∧ f.n ≤ f.w.ts.length ∧ f.n ≤ 4096) ∧ ∀ c ∈ l,KPre f.w f.n f.s c):zaP Tryz.prog 161 [Enc.enc l,Enc.enc f] (· = Enc.enc (zbt (zhQ f) l l.length 0)):=by
 obtain ⟨w,n,s⟩:=f
 obtain ⟨h1,h2,h3⟩:=h
 dsimp only at h2 h3
 simp only [zcW,w8C]
 simp only [zcf]
 refine cpz P121_ok Tryz.func161 zaB ?_
 rw [Tryz.ntmps161]
 simp only [Tryz.f161,zai,zam]
 simp (maxSteps:=4000000) only [go_sem,AV.one,zae,zac,zad,zan,zaq,zaa,czb,cza,↓reduceIte,zaQ,zcX,zbe,zcW,zab,onz]
 refine zbG (l.length) [] [0,1,4,7] (fun i => [(8,.int .i64 i)]) (fun _ m => m) (fun i => zbt (zhQ ⟨w,n,s⟩) l (l.length - i) i = zbt (zhQ ⟨w,n,s⟩) l l.length 0) ?_ ?_ ?_ ?_
 ·rfl
 ·simp [AV.bare,zal,zaN,zaR,zak,zar,zaf,tokz1,lk,zaa,za3]
 ·intro i hi hI
  have hp:=h3 _ (zbv hi)
  rw [show l.length - i = (l.length - (i + 1)) + 1 by omega,zbt] at hI
  cases c:zhQ ⟨w,n,s⟩ (at_ l i) <;>
   simp (maxSteps:=4000000) only [go_sem,AV.one,zae,zac,zad,zan,zaq,zaa,czb,cza,↓reduceIte,zaQ,zcX,zbe,zcW,zab,onz,zax hi,czH.2 hi,c,zaQ,Option.map_some]
  all_goals all_goals (repeat' first | (with_reducible first | rfl | apply And.intro | assumption) | ((with_reducible show zaj _ _ = true); rfl)) <;> try first | omega | (simp only [InR]; omega)
  ·rw [c] at hI
   refine nxt hi hI ?_
   simp [AV.bare,zal,zaN,zaR,zak,zar,zaf,tokz1,lk,zaa,za3]
  ·rw [c] at hI
   rw [← hI]; rfl
 ·intro hI
  simp (maxSteps:=4000000) only [go_sem,AV.one,zae,zac,zad,zan,zaq,zaa,czb,cza,↓reduceIte,zaQ,zcX,zbe,zcW,zab,onz]
  rw [← hI]; simp [zbt]
def P122 (g:FuncId):=(zas 161 (zbF (fun (l:List Ch) (f:FnK) => l.length ≤ 4096 ∧ (1 ≤ f.n ∧ f.n ≤ f.w.ts.length ∧ f.n ≤ 4096) ∧ ∀ c ∈ l,KPre f.w f.n f.s c) (fun l f => zbt (zhQ f) l l.length 0)) (P121):zaJ) g
theorem P122_ok:zaz Tryz.prog P122:=zah (zaM kI_call) (P121_ok)
theorem zoy (d:Option Nat):zaF P122 d = none:=(zag (by decide) d).trans (zoz d)
attribute [go_sem] P122 zoy
theorem kC_call (l:List Ch) (f:FnK) (h:l.length ≤ 4096 ∧ (1 ≤ f.n ∧ f.n ≤ f.w.ts.length ∧ f.n ≤ 4096) ∧ ∀ c ∈ l,KPre f.w f.n f.s c):zaP Tryz.prog 131 [Enc.enc l,Enc.enc f] (· = Enc.enc (l.any (zhQ f))):=by
 obtain ⟨w,n,s⟩:=f
 have h':=h
 obtain ⟨h1,h2,h3⟩:=h
 dsimp only at h2 h3
 simp only [zcW,w8C]
 simp only [zcf]
 refine cpz P122_ok Tryz.func131 zaB ?_
 rw [Tryz.ntmps131]
 simp only [Tryz.f131,zai,zam]
 simp (maxSteps:=4000000) only [go_sem,AV.one,zae,zac,zad,zan,zaq,zaa,czb,cza,↓reduceIte,zaQ,zcX,zbe,zcW,zab,onz,zcX]
 all_goals (repeat' first | (with_reducible first | rfl | apply And.intro | assumption) | ((with_reducible show zaj _ _ = true); rfl)) <;> try first | omega | (simp only [InR]; omega)
 congr 1
 exact zeC (zhQ ⟨w,n,s⟩) l l.length 0 (by omega)
def P123 (g:FuncId):=(zas 131 (zbF (fun (l:List Ch) (f:FnK) => l.length ≤ 4096 ∧ (1 ≤ f.n ∧ f.n ≤ f.w.ts.length ∧ f.n ≤ 4096) ∧ ∀ c ∈ l,KPre f.w f.n f.s c) (fun l f => l.any (zhQ f))) (P122):zaJ) g
theorem zml:zaz Tryz.prog P123:=zah (zaM kC_call) (P122_ok)
theorem zox (d:Option Nat):zaF P123 d = none:=(zag (by decide) d).trans (zoy d)
attribute [go_sem] P123 zox
def P124:zaJ:=zuY [1000009] P123
theorem P124_app (g:FuncId) (h:¬ (g = 4000000000)):P124 g = P123 g:=by unfold P124 zuY; rw [if_neg h]
theorem P124_ok:zaz Tryz.prog P124:=zls zml
theorem P124_flag (d:Nat):zaF P124 (some d) = if d ∈ ([1000009]:List Nat) then some d else none:=zfx _ _ d
attribute [go_sem] P124_app P124_flag
theorem zkI {P:Program} {Φ:zaJ} {c:Code} {Q:QA} {st:St} (h:∀ Q',Q' = Q → vc P Φ c Q' st):vc P Φ c Q st:=h _ rfl
section
variable {mem:List AObj}
theorem zd1 (y:Yd) (h4:y.t.heights.length ≤ 4096 ∧ y.order.length ≤ 4096) (c:zbk y ≠ 0) (hm:∀ o ∈ mem,zb6 mem.length o) :
  zeK Tryz.prog 108 [.agg (ydC y)] mem (fun r m => r = .tup [.nilp,.int .i64 (zbk y)] ∧ m = mem):=by
 obtain ⟨h1,h2⟩:=h4
 obtain ⟨n0,hn0⟩:∃ n0,mem.length = n0:=⟨_,rfl⟩
 rw [hn0] at hm
 have g0:∀ r,zaa (mem ++ r) n0 = zaa r 0:=fun r => by rw [← hn0]; exact zaK _ _ 0
 refine zbU (Φ:=P123) Tryz.func108 rfl (by rfl) (by rw [Tryz.ntmps108]; simp) zaB zml ?_
 rw [Tryz.ntmps108]
 simp only [Tryz.f108,zai,zam,ydC]
 iterate 3 (
  refine zaC fun Q1 h1 => ?_
  simp (maxSteps:=4000000) only [go_sem,zae,zac,zad,zan,zaq,czb,cza,↓reduceIte,zaQ,zcX,zbe,zcW,zc8,zab,onz,g0,hn0]
  all_goals (repeat' first | (with_reducible first | rfl | apply And.intro | assumption) | ((with_reducible show zaj _ _ = true); rfl)) <;> try first | omega | (simp only [InR]; omega)
  rw [h1]; clear h1 Q1; simp only [zaW,zaA])
 simp (maxSteps:=4000000) only [go_sem,zae,zac,zad,zan,zaq,czb,cza,↓reduceIte,zaQ,zcX,zbe,zcW,zc8,zab,onz,g0,hn0,c,decide_false]
 all_goals (repeat' first | (with_reducible first | rfl | apply And.intro | assumption) | ((with_reducible show zaj _ _ = true); rfl)) <;> try first | omega | (simp only [InR]; omega)
 refine ⟨n0,czf _,by simp [hn0],List.take_left' hn0,by simp [AV.bare,zal,zaN,zaR,zak,zar,zaf,tokz1,lk,zaa,za3],?_⟩
 rw [List.take_left' hn0]
 exact hm
theorem zlP {σ:Type} {mm:σ → List AObj} {ls:σ → LoopState} {pd:σ → Option Code} {tm':List (Nat × AV)} {n:Nat} {ps:Array Tmp} {asg body:Code} {a:σ} {x:List AObj} {k:Nat} (h:(mm a).length = k) :
  zaa (zcl mm ls pd tm' n ps asg body a ++ x) (k + 1) = .loop (ls a) (pd a) tm' n ps asg body:=by
 unfold zcl
 rw [czd,← h,zaK]
 rfl
theorem zkQ {α σ:Type} (f:σ → α → σ):∀ (l:List α) (a:σ),(zdO (fun _ _ => true) f a l).1 = l.foldl f a
 | [],_ => rfl
 | x :: l,a => by simp only [zdO,if_true,List.foldl_cons]; exact zkQ f l _
def zcy (y:Yd) (n0:Nat) (a:List (List Int)):List AObj :=
 [.cells [.int .i64 y.t.last,.sl (y.t.heights.map EncE.cs) .no,.int .i64 y.t.step,.sl (y.t.levels.map EncE.cs) .no,.sl (y.t.marks.map EncE.cs) .no,.int .i64 y.hands,.sl (y.chairs.map EncE.cs) .no,.sl (y.order.map EncE.cs) .no,.sl (y.hires.map EncE.cs) .no],
  .cells [.int .i64 y.t.last,.sl (y.t.heights.map EncE.cs) .no,.int .i64 y.t.step,.sl (y.t.levels.map EncE.cs) .no,.sl (y.t.marks.map EncE.cs) .no,.int .i64 y.hands,.sl (y.chairs.map EncE.cs) .no,.sl (y.order.map EncE.cs) .no,.sl (y.hires.map EncE.cs) .no,.vec (n0 + 3) a.length 0 a.length 2],
  .cells [.ptr (n0 + 1) 0],.vec ((a.map (zb1 y.t)).map EncE.cs) 2 a.length]
theorem diff_same {y:Yd} (hv:VY y) {p q:List Int}:y.chairs.any (fun c => !decide ((at_ (zb1 y.t p).rows c.row.toNat).l = (at_ (zb1 y.t q).rows c.row.toNat).l)) = !zlE y p q:=by
 unfold zlE
 rw [← zij,Bool.not_not]
 have key:∀ c ∈ y.chairs,(!decide ((at_ (zb1 y.t p).rows c.row.toNat).l = (at_ (zb1 y.t q).rows c.row.toNat).l)) = !decide (rowB p (at_ y.t.levels c.row.toNat) = rowB q (at_ y.t.levels c.row.toNat)):=fun c hc => by
  have h:=(hv.ch c hc).1
  unfold zb1
  dsimp only
  rw [zii (by omega),zii (by omega)]
  rfl
 rw [Bool.eq_iff_iff,List.any_eq_true,List.any_eq_true]
 constructor
 ·rintro ⟨c,hc,h⟩; exact ⟨c,hc,by rw [← key c hc]; exact h⟩
 ·rintro ⟨c,hc,h⟩; exact ⟨c,hc,by rw [key c hc]; exact h⟩
theorem zer (y:Yd) (hv:VY y) (hm:∀ o ∈ mem,zb6 mem.length o) :
  zeK Tryz.prog 108 [.agg (ydC y)] mem (fun r m => r = .tup [.ptr (mem.length + 1) 0,.int .i64 0] ∧ m = mem ++ zcy y mem.length (zba y)):=by
 have h1:y.t.heights.length ≤ 4096:=by have:=hv.fok.len; have:=hv.l0; omega
 have h2:y.order.length ≤ 4096:=by have:=zjB hv.ord; have:=hv.c5; omega
 have c:=hv.fault
 have hc5:=hv.c5
 obtain ⟨n0,hn0⟩:∃ n0,mem.length = n0:=⟨_,rfl⟩
 rw [hn0] at hm
 have g0:∀ r,zaa (mem ++ r) n0 = zaa r 0:=fun r => by rw [← hn0]; exact zaK _ _ 0
 have gk:∀ r k,zaa (mem ++ r) (n0 + k) = zaa r k:=fun r k => by rw [← hn0]; exact zaK _ _ k
 have s0:∀ r o,(mem ++ r).set n0 o = mem ++ r.set 0 o:=fun r o => by rw [← hn0]; exact zbN _ _ 0 _
 have sk:∀ r k o,(mem ++ r).set (n0 + k) o = mem ++ r.set k o:=fun r k o => by rw [← hn0]; exact zbN _ _ k _
 rw [hn0]
 refine zbU (Φ:=P124) Tryz.func108 rfl (by rfl) (by rw [Tryz.ntmps108]; simp) zaB P124_ok ?_
 rw [Tryz.ntmps108]
 simp only [Tryz.f108,zai,zam,ydC]
 iterate 6 (
  refine zaC fun Q1 h1 => ?_
  simp (maxSteps:=4000000) only [go_sem,zae,zac,zad,zan,zaq,czb,cza,↓reduceIte,zaQ,zcX,zbe,zcW,zc8,zab,onz,g0,gk,s0,sk,hn0,c,decide_true,czd,czc]
  all_goals (repeat' first | (with_reducible first | rfl | apply And.intro | assumption) | ((with_reducible show zaj _ _ = true); rfl)) <;> try first | omega | (simp only [InR]; omega)
  rw [h1]; clear h1 Q1; simp only [zaW,zaA])
 refine zaC fun Q1 h1' => ?_
 rw [zeM]
 refine zrj [.vcell (n0 + 1) 9 2] ?_
 simp only [zdD,zcj,tokz1,lk,mA0,mA1,mA2,mA3,mA4,mA5,mA6,List.getD_cons_zero,List.getD_cons_succ,List.set_cons_succ,List.set_cons_zero,czc,czd,czs,List.nil_append,cza,czy,Nat.reduceAdd,Nat.zero_add,List.map_nil,Nat.reduceEqDiff,↓reduceIte,gk,sk,hn0]
 refine zpA (fun a:List (List Int) => mem ++ zcy y n0 a) (fun _ => .ready) (fun _ => none) (y:=y) (fun _ _ => true) (zmb y) (fun k a => a.length ≤ k) (zkP y.t).length [(1,.ptr n0 0),(5,.ptr (n0 + 2) 0)] []
  hv rfl trivial ?_ rfl rfl rfl ?_ (czf _) (czf _) ?_
 ·simp [lk,AV.strip]
 ·refine ⟨fun a => ?_,?_,fun a => ?_,?_,fun k a p h hk _ => ?_⟩
  ·simp [zcl,zcy,hn0]
  ·simp
  ·unfold zcl
   rw [czd]
   refine zce hm (by simp; omega) ?_
   simp [AV.bare,zal,zaN,zaR,zak,zar,zaf,tokz1,lk,zaa,za3,zcy,-List.map_map]
   omega
  ·intro k a p R ha hkT hpr hR
   have hT:=zlD hv.fok.vok
   obtain ⟨nR,hnR⟩:∃ nR,n0 + (6 + R.length) = nR:=⟨_,rfl⟩
   have hRok:∀ o ∈ R,zb6 nR o:=fun o ho => by
    have:=hR o ho
    simp only [czc,cza,czy,hn0] at this
    rw [show nR = n0 + (0 + 1 + 1 + 1 + 1) + 2 + R.length by omega]
    exact this
   have hNl:∀ x0 x1 x2 x3 x4 x5 r,(mem ++ x0 :: x1 :: x2 :: x3 :: x4 :: x5 :: (R ++ r)).length = nR + r.length:=fun x0 x1 x2 x3 x4 x5 r => by simp [hn0]; omega
   have hNl0:∀ x0 x1 x2 x3 x4 x5,(mem ++ x0 :: x1 :: x2 :: x3 :: x4 :: x5 :: R).length = nR:=fun x0 x1 x2 x3 x4 x5 => by simp [hn0]; omega
   have hN:∀ x0 x1 x2 x3 x4 x5 r k,zaa (mem ++ x0 :: x1 :: x2 :: x3 :: x4 :: x5 :: (R ++ r)) (nR + k) = zaa r k:=fun x0 x1 x2 x3 x4 x5 r k => by
    have:=zaK (mem ++ x0 :: x1 :: x2 :: x3 :: x4 :: x5 :: R) r k
    rw [hNl0] at this
    simpa using this
   have hN0:∀ x0 x1 x2 x3 x4 x5 r,zaa (mem ++ x0 :: x1 :: x2 :: x3 :: x4 :: x5 :: (R ++ r)) nR = zaa r 0:=fun x0 x1 x2 x3 x4 x5 r => hN x0 x1 x2 x3 x4 x5 r 0
   have hS:∀ x0 x1 x2 x3 x4 x5 r k o,(mem ++ x0 :: x1 :: x2 :: x3 :: x4 :: x5 :: (R ++ r)).set (nR + k) o = mem ++ x0 :: x1 :: x2 :: x3 :: x4 :: x5 :: (R ++ r.set k o):=fun x0 x1 x2 x3 x4 x5 r k o => by
    have:=zbN (mem ++ x0 :: x1 :: x2 :: x3 :: x4 :: x5 :: R) r k o
    rw [hNl0] at this
    simpa using this
   have hS0:∀ x0 x1 x2 x3 x4 x5 r o,(mem ++ x0 :: x1 :: x2 :: x3 :: x4 :: x5 :: (R ++ r)).set nR o = mem ++ x0 :: x1 :: x2 :: x3 :: x4 :: x5 :: (R ++ r.set 0 o):=fun x0 x1 x2 x3 x4 x5 r o => hS x0 x1 x2 x3 x4 x5 r 0 o
   have hnR':n0 + (R.length + 6) = nR:=by omega
   have htk:∀ x0 x1 x2 x3 x4 x5 r,(mem ++ x0 :: x1 :: x2 :: x3 :: x4 :: x5 :: (R ++ r)).take nR = mem ++ x0 :: x1 :: x2 :: x3 :: x4 :: x5 :: R:=fun x0 x1 x2 x3 x4 x5 r => by
    have:mem ++ x0 :: x1 :: x2 :: x3 :: x4 :: x5 :: (R ++ r) = (mem ++ x0 :: x1 :: x2 :: x3 :: x4 :: x5 :: R) ++ r:=by simp
    rw [this,List.take_left' (hNl0 x0 x1 x2 x3 x4 x5)]
   have hok6:∀ x0 x1 x2 x3 x4 x5,zaR nR [x0,x1,x2,x3,x4,x5] → ∀ o ∈ mem ++ x0 :: x1 :: x2 :: x3 :: x4 :: x5 :: R,zb6 nR o:=fun x0 x1 x2 x3 x4 x5 h =>
    zce hm (by omega) ⟨h.1,h.2.1,h.2.2.1,h.2.2.2.1,h.2.2.2.2.1,h.2.2.2.2.2.1,zby hRok⟩
   refine zfV (Φ:=P124) (hl:=zlP (by simp [zcy])) rfl (by simp) rfl rfl zaB P124_ok (by simp [AV.strip,AV.strip1,Tk.strip,seaC]) (by simp [AV.strip,AV.strip1,Tk.strip,seaC]) ?_
   obtain ⟨S,hSe⟩:∃ S,zb1 y.t p = S:=⟨_,rfl⟩
   rw [hSe]
   unfold zcl zcy
   simp only [zgs,zcQ,czd,czs,List.nil_append,czc,cza,czy,hn0,Nat.reduceAdd,Nat.zero_add,Nat.add_assoc,sk,List.set_cons_succ,List.set_cons_zero]
   refine zkI fun Qa hQa => ?_
   simp (maxSteps:=4000000) only [go_sem,zae,zac,zad,zan,zaq,czb,cza,↓reduceIte,zaQ,zcX,zbe,zcW,zc8,zab,onz,seaC,hN,hN0,hS,hS0,hNl,hNl0,czd,czs]
   all_goals (repeat' first | (with_reducible first | rfl | apply And.intro | assumption) | ((with_reducible show zaj _ _ = true); rfl)) <;> try first | omega | (simp only [InR]; omega)
   rw [hQa]; clear hQa Qa
   have hl4:a.length ≤ 4096:=by omega
   simp only [zaW,zgs,gk,sk,mA0,mA1,mA2,mA3,mA4,mA5,mA6,List.set_cons_succ,List.set_cons_zero,true_and]
   refine zkI fun Qr hQr => ?_
   rw [zeM]
   try simp only [zaA]
   refine zaC fun Q1 h1 => ?_
   simp (maxSteps:=4000000) only [go_sem,zae,zac,zad,zan,zaq,czb,cza,↓reduceIte,zaQ,zcX,zbe,zcW,zc8,zab,onz,g0,s0,gk,sk,hN,hN0,hS,hS0,hNl,hNl0,czd,czs,czz]
   all_goals (repeat' first | (with_reducible first | rfl | apply And.intro | assumption) | ((with_reducible show zaj _ _ = true); rfl)) <;> try first | omega | (simp only [InR]; omega)
   rw [h1]; clear h1 Q1; simp only [zaW,zaA]
   have hdec:=zcX ⟨y,a.map (zb1 y.t)⟩ a.length S
   simp only at hdec
   have hvt:((a.map (zb1 y.t)).map EncE.cs).take a.length = (a.map (zb1 y.t)).map EncE.cs:=cze (by simp)
   obtain ⟨bd,hbd⟩:∃ bd,y.chairs.any (zhQ ⟨⟨y,a.map (zb1 y.t)⟩,a.length,S⟩) = bd:=⟨_,rfl⟩
   have hask:zmb y a p = if (decide ((a.length:Int) = 0) || bd) = true then a ++ [p] else a:=by
    unfold zmb
    by_cases e:a = []
    ·simp [e]
    ·have hap:0 < a.length:=List.length_pos_iff.2 e
     have h1:decide ((a.length:Int) = 0) = false:=by simp [e]
     have h2:bd = !zlE y (at_ a (a.length - 1)) p:=by
      rw [← hbd,← diff_same hv]
      have h3:(((a.length:Int) - 1).toNat) = a.length - 1:=by omega
      unfold zhQ
      dsimp only
      rw [h3,zii (by omega),hSe]
     rw [h1,h2]
     cases zlE y (at_ a (a.length - 1)) p <;> simp [e]
   refine zaC fun Qc hQc => ?_
   simp (maxSteps:=4000000) only [go_sem,zae,zac,zad,zan,zaq,czb,cza,↓reduceIte,zaQ,zcX,zbe,zcW,zc8,zab,onz,g0,s0,gk,sk,hN,hN0,hS,hS0,hNl,hNl0,hdec,hvt,hbd,czd,czs,czz]
   refine ⟨fun q => ⟨q,by omega,⟨?_,by omega⟩,fun c hc => ?_⟩,?_⟩
   ·simp at q
    have:=List.length_pos_iff.2 q
    omega
   ·have hap:0 < a.length:=List.length_pos_iff.2 (by simpa using q)
    have h3:(((a.length:Int) - 1).toNat) = a.length - 1:=by omega
    have h4:=(hv.ch c hc).1
    unfold KPre
    dsimp only
    rw [h3,zii (by omega),← hSe]
    unfold zb1
    simp
    omega
   rw [hQc]; clear hQc Qc
   simp only [zaW]
   (simp (maxSteps:=4000000) only [zjf,zje,evT,lk,AV.un,AV.av,Nat.reduceEqDiff,↓reduceIte,true_and]; try rw [zib])
   refine ⟨fun q => ?_,fun q => ?_⟩
   ·rw [q,if_pos rfl] at hask
    have hmap:(a.map (zb1 y.t)).map EncE.cs ++ [[AV.sl (S.hs.map EncE.cs) .no,AV.sl (S.rows.map EncE.cs) .no]] = ((zmb y a p).map (zb1 y.t)).map EncE.cs:=by rw [hask,← hSe]; simp; rfl
    have hlen:(zmb y a p).length = a.length + 1:=by rw [hask]; simp
    rw [hlen] at hQr
    simp (maxSteps:=4000000) only [go_sem,zae,zac,zad,zan,zaq,czb,cza,↓reduceIte,zaQ,zcX,zbe,zcW,zc8,zab,onz]
    refine ⟨1606938044258990275541962092341162602522202993782792835301376,by rfl,?_⟩
    simp (maxSteps:=4000000) only [go_sem,zae,zac,zad,zan,zaq,czb,cza,↓reduceIte,zaQ,zcX,zbe,zcW,zc8,zab,onz,(show Nat.testBit 1606938044258990275541962092341162602522202993782792835301376 399 = false from rfl),Bool.false_and,Bool.true_and,czp,(show Nat.testBit 1606938044258990275541962092341162602522202993782792835301376 200 = true from rfl),zgC,zeQ,hideO,zqe,vcFr,Go.Fs.freeR,effL,zus,zkv,List.all_cons,List.all_nil,List.contains_cons,List.contains_nil,Nat.reduceBEq,Bool.or_self,(show Nat.testBit 1606938044258990275541962092341162602522202993782792835301376 0 = false from rfl),(show Nat.testBit 1606938044258990275541962092341162602522202993782792835301376 1 = false from rfl),(show Nat.testBit 1606938044258990275541962092341162602522202993782792835301376 2 = false from rfl),(show Nat.testBit 1606938044258990275541962092341162602522202993782792835301376 3 = false from rfl),(show Nat.testBit 1606938044258990275541962092341162602522202993782792835301376 4 = false from rfl),(show Nat.testBit 1606938044258990275541962092341162602522202993782792835301376 5 = false from rfl),(show Nat.testBit 1606938044258990275541962092341162602522202993782792835301376 6 = false from rfl),(show Nat.testBit 1606938044258990275541962092341162602522202993782792835301376 7 = false from rfl),(show Nat.testBit 1606938044258990275541962092341162602522202993782792835301376 8 = false from rfl),(show Nat.testBit 1606938044258990275541962092341162602522202993782792835301376 9 = false from rfl),(show Nat.testBit 1606938044258990275541962092341162602522202993782792835301376 10 = false from rfl),g0,s0,gk,sk,hN,hN0,hS,hS0,hNl,hNl0,hvt,hmap,czd,czs,czz]
    refine ⟨by omega,?_⟩
    simp (maxSteps:=4000000) only [go_sem,zae,zac,zad,zan,zaq,czb,cza,↓reduceIte,zaQ,zcX,zbe,zcW,zc8,zab,onz,hQr,zf6,zp6,g0,s0,gk,sk,hN,hN0,hS,hS0,hNl,hNl0,hnR',htk,czd,czs,czz]
    refine hok6 _ _ _ _ _ _ ⟨?_,?_,?_,?_,?_,?_,trivial⟩ <;> simp [AV.bare,zal,zaN,zaR,zak,zar,zaf,tokz1,lk,zaa,za3,-List.map_map] <;> omega
   ·rw [q,if_neg (by simp)] at hask
    simp (maxSteps:=4000000) only [go_sem,zae,zac,zad,zan,zaq,czb,cza,↓reduceIte,zaQ,zcX,zbe,zcW,zc8,zab,onz,hQr,zf6,zp6,hask,g0,s0,gk,sk,hN,hN0,hS,hS0,hNl,hNl0,hnR',htk,czd,czs,czz]
    refine hok6 _ _ _ _ _ _ ⟨?_,?_,?_,?_,?_,?_,trivial⟩ <;> simp [AV.bare,zal,zaN,zaR,zak,zar,zaf,tokz1,lk,zaa,za3,-List.map_map] <;> omega
  ·have:=zjc y [p] a
   simp at this
   omega
 ·have hfin:(zdO (fun _ _ => true) (zmb y) [] (zkP y.t)).1 = zba y:=zkQ _ _ _
  rw [hfin]
  obtain ⟨T,hT⟩:∃ T,zba y = T:=⟨_,rfl⟩
  rw [hT] at h1' ⊢
  unfold zcl zcy
  unfold zcy at h1'
  simp only [czd,czs,List.nil_append,czc,cza,czy,hn0,Nat.reduceAdd,Nat.zero_add,Nat.add_assoc,gk,mA5]
  simp (maxSteps:=4000000) only [go_sem,zae,zac,zad,zan,zaq,czb,cza,↓reduceIte,zaQ,zcX,zbe,zcW,zc8,zab,onz,endA,zpF,h1',zgM,g0,s0,gk,sk,hn0,Nat.add_assoc,czd,czs,czc,czz]
  refine ⟨rfl,n0 + 4,by omega,by omega,?_⟩
  have htk4:∀ a b c d e f:AObj,(mem ++ [a,b,c,d,e,f]).take (n0 + 4) = mem ++ [a,b,c,d]:=fun a b c d e f => by
   rw [show mem ++ [a,b,c,d,e,f] = (mem ++ [a,b,c,d]) ++ [e,f] by simp,List.take_left' (by simp [hn0])]
  rw [htk4]
  exact ⟨rfl,by simp [AV.bare,zal,zaN,zaR,zak,zar,zaf,tokz1,lk,zaa,za3],zce hm (by omega) (by simp [AV.bare,zal,zaN,zaR,zak,zar,zaf,tokz1,lk,zaa,za3,-List.map_map])⟩
end
structure RefYd where
 y:Yd
structure FnD where
 y:Yd
theorem zjZ (y:Yd):ziS (ydC y) = some y:=by simp only [ziS,ydC,zdo]
instance:Enc RefYd where
 enc f:=.ref (ydC f.y) 0
 dec
  | .ref a 0 => (ziS a).map RefYd.mk
  | _ => none
 law v x h:=by
  split at h
  ·simp only [czr] at h
   obtain ⟨y,h1,rfl⟩:=h
   rw [zfj h1]
  ·cases h
 dep:=3
 ok x:=zfo x.y
instance:Enc FnD where
 enc f:=.fn (.func 138) [] [.ref (ydC f.y) 0]
 dec
  | .fn (.func g) [] [.ref a 0] => if g = 138 then (ziS a).map FnD.mk else none
  | _ => none
 law v x h:=by
  split at h
  ·split at h
   ·rename_i e
    simp only [czr] at h
    obtain ⟨y,h1,rfl⟩:=h
    rw [e,zfj h1]
   ·cases h
  ·cases h
 dep:=4
 ok x:=⟨fun _ h => (by cases h),fun c hc => by
  simp only [czn,czk,or_false] at hc
  subst hc
  exact zfo x.y⟩
theorem zaI (f:RefYd):Enc.enc f = .ref (ydC f.y) 0:=rfl
theorem zeZ (f:FnD):Enc.enc f = .fn (.func 138) [] [.ref (ydC f.y) 0]:=rfl
theorem zaL (y:Yd):(Enc.dec (.ref [.int .i64 y.t.last,.sl (y.t.heights.map EncE.cs) .no,.int .i64 y.t.step,.sl (y.t.levels.map EncE.cs) .no,.sl (y.t.marks.map EncE.cs) .no,
 .int .i64 y.hands,.sl (y.chairs.map EncE.cs) .no,.sl (y.order.map EncE.cs) .no,.sl (y.hires.map EncE.cs) .no] 0):Option RefYd) = some ⟨y⟩:=by
 show (ziS (ydC y)).map RefYd.mk = _
 rw [zjZ]; rfl
theorem za6 (y:Yd):(Enc.dec (.fn (.func 138) [] [.ref [.int .i64 y.t.last,.sl (y.t.heights.map EncE.cs) .no,.int .i64 y.t.step,.sl (y.t.levels.map EncE.cs) .no,.sl (y.t.marks.map EncE.cs) .no,
 .int .i64 y.hands,.sl (y.chairs.map EncE.cs) .no,.sl (y.order.map EncE.cs) .no,.sl (y.hires.map EncE.cs) .no] 0]):Option FnD) = some ⟨y⟩:=by
 show (if _ then (ziS (ydC y)).map FnD.mk else none) = _
 rw [if_pos rfl,zjZ]; rfl
def zpK (y:Yd) (s:Sea):Bool:=!zcr y s []
theorem askR_call (s:Sea) (f:RefYd) (h:YS f.y s):zaP Tryz.prog 138 [Enc.enc s,Enc.enc f] (· = Enc.enc (zpK f.y s)):=by
 obtain ⟨y⟩:=f
 simp only [zaI,ydC]
 simp only [zcf]
 refine cpz zml Tryz.func138 zaB ?_
 rw [Tryz.ntmps138]
 simp only [Tryz.f138,zai,zam]
 simp (maxSteps:=4000000) only [go_sem,AV.one,zae,zac,zad,zan,zaq,zaa,czb,cza,↓reduceIte,zaL,za6,zaI,zeZ,zab,onz]
 all_goals (repeat' first | (with_reducible first | rfl | apply And.intro | assumption) | ((with_reducible show zaj _ _ = true); rfl)) <;> try first | omega | (simp only [InR]; omega)
 rfl
def P125 (g:FuncId):=(zas 138 (zbF (fun (s:Sea) (f:RefYd) => YS f.y s) (fun s f => zpK f.y s)) (P123):zaJ) g
theorem P125_ok:zaz Tryz.prog P125:=zah (zaM askR_call) (zml)
theorem zow (d:Option Nat):zaF P125 d = none:=(zag (by decide) d).trans (zox d)
attribute [go_sem] P125 zow
theorem askI_call (l:List Sea) (f:FnD) (h:l.length ≤ 4096 ∧ ∀ s ∈ l,YS f.y s):zaP Tryz.prog 164 [Enc.enc l,Enc.enc f] (· = Enc.enc (zbt (zpK f.y) l l.length 0)):=by
 obtain ⟨y⟩:=f
 obtain ⟨h1,h2⟩:=h
 dsimp only at h2
 have hd:=zaL y
 simp only [zeZ,ydC]
 simp only [zcf]
 refine cpz P125_ok Tryz.func164 zaB ?_
 rw [Tryz.ntmps164]
 simp only [Tryz.f164,zai,zam]
 simp (maxSteps:=4000000) only [go_sem,AV.one,zae,zac,zad,zan,zaq,zaa,czb,cza,↓reduceIte,zaL,za6,zaI,zeZ,zab,onz]
 refine zbG (l.length) [] [0,1,4,7] (fun i => [(8,.int .i64 i)]) (fun _ m => m) (fun i => zbt (zpK y) l (l.length - i) i = zbt (zpK y) l l.length 0) ?_ ?_ ?_ ?_
 ·rfl
 ·simp [AV.bare,zal,zaN,zaR,zak,zar,zaf,tokz1,lk,zaa,za3]
 ·intro i hi hI
  have hp:=h2 _ (zbv hi)
  rw [show l.length - i = (l.length - (i + 1)) + 1 by omega,zbt] at hI
  cases c:zpK y (at_ l i) <;>
   simp (maxSteps:=4000000) only [go_sem,AV.one,zae,zac,zad,zan,zaq,zaa,czb,cza,↓reduceIte,zaL,za6,zaI,zeZ,zab,onz,zax hi,czH.2 hi,c,hd]
  all_goals all_goals (repeat' first | (with_reducible first | rfl | apply And.intro | assumption) | ((with_reducible show zaj _ _ = true); rfl)) <;> try first | omega | (simp only [InR]; omega)
  ·rw [c] at hI
   refine nxt hi hI ?_
   simp [AV.bare,zal,zaN,zaR,zak,zar,zaf,tokz1,lk,zaa,za3]
  ·rw [c] at hI
   rw [← hI]; rfl
 ·intro hI
  simp (maxSteps:=4000000) only [go_sem,AV.one,zae,zac,zad,zan,zaq,zaa,czb,cza,↓reduceIte,zaL,za6,zaI,zeZ,zab,onz]
  rw [← hI]; simp [zbt]
def P126 (g:FuncId):=(zas 164 (zbF (fun (l:List Sea) (f:FnD) => l.length ≤ 4096 ∧ ∀ s ∈ l,YS f.y s) (fun l f => zbt (zpK f.y) l l.length 0)) (P125):zaJ) g
theorem zil:zaz Tryz.prog P126:=zah (zaM askI_call) (P125_ok)
theorem zov (d:Option Nat):zaF P126 d = none:=(zag (by decide) d).trans (zow d)
attribute [go_sem] P126 zov
theorem zg8 {α:Type} [Inhabited α] (p:α → Bool) (l:List α):∀ f n,f + n = l.length → (zbt p l f n = -1 ∧ ∀ k,n ≤ k → k < l.length → p (at_ l k) = false) ∨ ∃ k:Nat,zbt p l f n = k ∧ n ≤ k ∧ k < l.length ∧ p (at_ l k) = true ∧ ∀ j,n ≤ j → j < k → p (at_ l j) = false
 | 0,n,h => .inl ⟨rfl,fun k h1 h2 => by omega⟩
 | f + 1,n,h => by
  unfold zbt
  cases c:p (at_ l n)
  ·rw [if_neg (by simp)]
   rcases zg8 p l f (n + 1) (by omega) with ⟨h1,h2⟩ | ⟨k,h1,h2,h3,h4,h5⟩
   ·refine .inl ⟨h1,fun k g1 g2 => ?_⟩
    by_cases e:k = n
    ·subst e; exact c
    ·exact h2 k (by omega) g2
   ·refine .inr ⟨k,h1,by omega,h3,h4,fun j g1 g2 => ?_⟩
    by_cases e:j = n
    ·subst e; exact c
    ·exact h5 j (by omega) g2
  ·rw [if_pos rfl]
   exact .inr ⟨n,rfl,czf _,by omega,c,fun j h1 h2 => by omega⟩
theorem zd2:∀ (l r:List AObj),zak l (l ++ r)
 | [],_ => trivial
 | _ :: l,r => ⟨rfl,zd2 l r⟩
def zoV:List AV:=[.sl [] .full,.sl [] .full]
theorem zk8 {α:Type} {p:α → Bool} {l:List α} (h:∀ x ∈ l,p x = true):l.filter p = l:=List.filter_eq_self.2 h
theorem at_of_mem {α:Type} [Inhabited α] {l:List α} {p:α → Bool} (h:∀ k,k < l.length → p (at_ l k) = true):∀ x ∈ l,p x = true:=fun x hx => by
 obtain ⟨k,hk,e⟩:=List.mem_iff_getElem.1 hx
 rw [← e,← zdk hk]
 exact h k hk
section
variable {mem:List AObj} {v s b:Nat}
theorem zeT (y:Yd) (l:List Sea) (hys:∀ x ∈ l,YS y x) (h4:l.length ≤ 4096) (h:zaa mem v = .vec (l.map EncE.cs) 2 s) (hb:zaa mem b = .cells (ydC y)) (hm:∀ o ∈ mem,zb6 mem.length o) :
  zeK Tryz.prog 137 [.vec v s 0 l.length 2,.fn (.func 138) [] [.ptr b 0]] mem
   (fun r m => r = .vec v s 0 (l.filter fun x => zcr y x []).length 2 ∧ m = mem.set v (.vec ((l.filter fun x => zcr y x []).map EncE.cs ++ List.replicate (l.length - (l.filter fun x => zcr y x []).length) zoV) 2 s)):=by
 have hvl:=zbf h (by simp)
 have hbl:=zbf hb (by simp)
 have hvb:b ≠ v:=fun e => by rw [e,h] at hb; cases hb
 obtain ⟨n0,hn0⟩:∃ n0,mem.length = n0:=⟨_,rfl⟩
 rw [hn0] at hm hvl hbl
 unfold ydC at hb
 have hd:=za6 y
 have hdr:=zaL y
 have hvt:(l.map EncE.cs).take l.length = l.map (EncE.cs (α:=Sea)):=cze (by simp)
 refine zbU (Φ:=P126) Tryz.func137 rfl (by rfl) (by rw [Tryz.ntmps137]; simp) zaB zil ?_
 rw [Tryz.ntmps137]
 simp only [Tryz.f137,zai,zam]
 rcases zg8 (zpK y) l l.length 0 (by omega) with ⟨h1,h2⟩ | ⟨i0,h1,_,h3,h4',h5⟩
 ·have hk:(l.filter fun x => zcr y x []) = l:=zk8 (at_of_mem fun k hk => by
   have:=h2 k (Nat.zero_le _) hk
   unfold zpK at this
   simpa using this)
  rw [hk]
  simp (maxSteps:=4000000) only [go_sem,zae,zac,zad,zan,zaq,czb,cza,↓reduceIte,zaL,za6,zaI,zeZ,zab,onz,h,hb,hd,hvt,h1,decide_true]
  all_goals (repeat' first | (with_reducible first | rfl | apply And.intro | assumption) | ((with_reducible show zaj _ _ = true); rfl)) <;> try first | omega | (simp only [InR]; omega)
  refine ⟨n0,by omega,by omega,?_,by simp [AV.bare,zal,zaN,zaR,zak,zar,zaf,tokz1,lk,zaa,za3]; omega,?_⟩
  ·rw [cze (by omega),Nat.sub_self,List.replicate_zero,List.append_nil,zlA h]
  ·rw [cze (by omega)]; exact hm
 ·obtain ⟨K,hK⟩:∃ K:Nat → List Sea,∀ j,K j = (l.take j).filter fun x => zcr y x []:=⟨_,fun _ => rfl⟩
  have hKs:∀ j,j < l.length → K (j + 1) = if zcr y (at_ l j) [] = true then K j ++ [at_ l j] else K j:=fun j hj => by
   rw [hK,hK,zaV hj,List.filter_append]
   cases c:zcr y (at_ l j) [] <;> simp [c]
  have hKle:∀ j,j ≤ l.length → (K j).length ≤ j:=fun j hj => by
   rw [hK]
   have:=List.length_filter_le (fun x => zcr y x []) (l.take j)
   rw [czO] at this
   omega
  have hKf:K l.length = l.filter fun x => zcr y x []:=by rw [hK,czm]
  have hK0:K (i0 + 1) = l.take i0:=by
   have hr0:zcr y (at_ l i0) [] = false:=by unfold zpK at h4'; simpa using h4'
   rw [hKs i0 h3,hr0,if_neg (by simp),hK]
   refine zk8 fun x hx => ?_
   obtain ⟨k,hk,e⟩:=List.mem_iff_getElem.1 hx
   rw [czO] at hk
   rw [List.getElem_take] at e
   have:=h5 k (Nat.zero_le _) (by omega)
   rw [zdk (by omega),e] at this
   unfold zpK at this
   simpa using this
  rw [← hKf]
  have hms:=fun o => zd4 (mem:=mem) (v:=v) (by omega) o
  have hss:=fun o o' => zmG (mem:=mem) (v:=v) o o'
  have hbs:∀ o,zaa (mem.set v o) b = zaa mem b:=fun o => by rw [zaD _ _ _ _ (by omega),if_neg hvb]
  have hokv:∀ (E:List (List AV)),(∀ e ∈ E,∀ c ∈ e,bel n0 9 c) → ∀ o ∈ mem.set v (.vec E 2 s),zb6 n0 o:=fun E hE o ho => by
   rcases List.mem_or_eq_of_mem_set ho with q | q
   ·exact hm o q
   ·subst q; exact hE
  have hseab:∀ (L:List Sea) (k:Nat),∀ e ∈ L.map EncE.cs,∀ c ∈ e,bel k 9 c:=fun L k e he c hc => by
   obtain ⟨x,_,rfl⟩:=czx.1 he
   exact zcR _ _ _ (EncE.ok x c hc) (by rw [zfA]; omega)
  simp (maxSteps:=4000000) only [go_sem,zae,zac,zad,zan,zaq,czb,cza,↓reduceIte,zaL,za6,zaI,zeZ,zab,onz,h,hb,hd,hvt,h1]
  all_goals (repeat' first | (with_reducible first | rfl | apply And.intro | assumption) | ((with_reducible show zaj _ _ = true); rfl)) <;> try first | omega | (simp only [InR]; omega)
  have hms2:=fun o r => (zaT (m:=mem.set v o) (r:=r) (k:=v) (by rw [czt]; omega)).trans (hms o)
  have hbs2:∀ o r,zaa (mem.set v o ++ r) b = .cells [.int .i64 y.t.last,.sl (y.t.heights.map EncE.cs) .no,.int .i64 y.t.step,.sl (y.t.levels.map EncE.cs) .no,.sl (y.t.marks.map EncE.cs) .no,.int .i64 y.hands,.sl (y.chairs.map EncE.cs) .no,.sl (y.order.map EncE.cs) .no,.sl (y.hires.map EncE.cs) .no]:=fun o r => by
   rw [zaT (by rw [czt]; omega),hbs,hb]
  have hn2:∀ o r,zaa (mem.set v o ++ r) n0 = zaa r 0:=fun o r => by
   have:=zaK (mem.set v o) r 0
   rw [czt,hn0] at this
   exact this
  have hs2:∀ o r o',(mem.set v o ++ r).set n0 o' = mem.set v o ++ r.set 0 o':=fun o r o' => by
   have:=zbN (mem.set v o) r 0 o'
   rw [czt,hn0] at this
   exact this
  have hss2:∀ o r o',(mem.set v o ++ r).set v o' = mem.set v o' ++ r:=fun o r o' => by
   rw [List.set_append_left _ _ (by rw [czt]; omega),hss]
  have hl2:∀ o,(mem.set v o).length = n0:=fun o => by rw [czt,hn0]
  refine zbG (l.length - (i0 + 1)) [] [0,1,4] (fun t => [(6,.int .i64 ((i0 + 1 + t:Nat):Int)),(5,.int .i64 ((K (i0 + 1 + t)).length:Int))]) (fun t _ => mem.set v (.vec ((K (i0 + 1 + t) ++ l.drop (K (i0 + 1 + t)).length).map EncE.cs) 2 s)) (fun _ => True) ?_ ?_ ?_ ?_
  ·trivial
  ·have hl0:(K (i0 + 1)).length = i0:=by rw [hK0,czO]; omega
   have hM0:mem.set v (.vec ((K (i0 + 1 + 0) ++ l.drop (K (i0 + 1 + 0)).length).map EncE.cs) 2 s) = mem:=by
    rw [Nat.add_zero,hl0,hK0,List.take_append_drop,zlA h]
   simp only [zaf,zcj]
   rw [hM0,Nat.add_zero,hl0]
   refine ⟨rfl,rfl,rfl,by dsimp only; omega,za0 _,?_,zby (by rw [hn0]; exact hm),trivial⟩
   dsimp only
   rw [hn0]
   simp [AV.bare,zal,zaN,zaR,zak,zar,zaf,tokz1,lk,zaa,za3]
   omega
  ·intro t ht _
   obtain ⟨j,hj⟩:∃ j,i0 + 1 + t = j:=⟨_,rfl⟩
   have hjl:j < l.length:=by omega
   have hj':=czH.2 hjl
   have hKj:=hKs j hjl
   have hle:=hKle j (by omega)
   have hj1:i0 + 1 + (t + 1) = j + 1:=by omega
   obtain ⟨D,hD⟩:∃ D,K j = D:=⟨_,rfl⟩
   rw [hD] at hKj hle
   obtain ⟨Z,hZ⟩:∃ Z,D ++ l.drop D.length = Z:=⟨_,rfl⟩
   have hZl:Z.length = l.length:=by rw [← hZ]; simp; omega
   have hZat:∀ k,D.length ≤ k → k < l.length → at_ Z k = at_ l k:=fun k h1 h2 => by
    rw [← hZ]
    simp only [at_,List.getD]
    rw [czj h1,czQ]
    congr 2; omega
   have hgj:(Z.map EncE.cs).getD j [] = EncE.cs (at_ l j):=by rw [zax (by omega),hZat j (by omega) hjl]
   have hgD:=zax (f:=EncE.cs) (l:=Z) (i:=D.length) (by omega)
   have hyj:=hys _ (zbv hjl)
   obtain ⟨X,hX⟩:∃ X,at_ l j = X:=⟨_,rfl⟩
   rw [hX] at hgj hyj hKj
   simp only [hj,hD,hZ]
   cases c:zcr y X []
   ·have hnr:zpK y X = true:=by unfold zpK; rw [c]; rfl
    rw [c,if_neg (by simp)] at hKj
    simp (maxSteps:=4000000) only [go_sem,zae,zac,zad,zan,zaq,czb,cza,↓reduceIte,zaL,za6,zaI,zeZ,zab,onz,hms,hms2,hbs2,hn2,hs2,hss,hss2,hl2,hn0,hj',hgj,hnr,hdr,czd,czc]
    all_goals (repeat' first | (with_reducible first | rfl | apply And.intro | assumption) | ((with_reducible show zaj _ _ = true); rfl)) <;> try first | omega | (simp only [InR]; omega)
    refine nxt ht trivial ?_
    simp only [hj1,hKj,hZ]
    refine ⟨rfl,rfl,rfl,by dsimp only [zaf]; rw [hl2]; exact czf _,zd2 _ _,?_,zby (by dsimp only [zaf]; rw [hl2]; exact hokv _ (hseab _ _)),trivial⟩
    dsimp only [zaf]
    rw [hl2]
    simp [AV.bare,zal,zaN,zaR,zak,zar,zaf,tokz1,lk,zaa,za3]
    omega
   ·have hnr:zpK y X = false:=by unfold zpK; rw [c]; rfl
    rw [c,if_pos rfl] at hKj
    have hset:(Z.map EncE.cs).set D.length [AV.sl (X.hs.map EncE.cs) .no,AV.sl (X.rows.map EncE.cs) .no] = (K (j + 1) ++ l.drop (K (j + 1)).length).map EncE.cs:=by
     have e:Z.set D.length X = K (j + 1) ++ l.drop (K (j + 1)).length:=by
      rw [hKj,← hZ,List.set_append_right _ _ (czf _),Nat.sub_self,zgl (show D.length < l.length by omega)]
      simp
     rw [← e,List.map_set]
     rfl
    have hlen1:(K (j + 1)).length = D.length + 1:=by rw [hKj]; simp
    simp (maxSteps:=4000000) only [go_sem,zae,zac,zad,zan,zaq,czb,cza,↓reduceIte,zaL,za6,zaI,zeZ,zab,onz,hms,hms2,hbs2,hn2,hs2,hss,hss2,hl2,hn0,hj',hgj,hgD,hnr,hdr,hset,czd,czc]
    all_goals (repeat' first | (with_reducible first | rfl | apply And.intro | assumption) | ((with_reducible show zaj _ _ = true); rfl)) <;> try first | omega | (simp only [InR]; omega)
    refine nxt ht trivial ?_
    simp only [hj1]
    refine ⟨rfl,rfl,rfl,by dsimp only [zaf]; rw [hl2]; exact czf _,zd2 _ _,?_,zby (by dsimp only [zaf]; rw [hl2]; exact hokv _ (hseab _ _)),trivial⟩
    dsimp only [zaf]
    rw [hl2,hlen1]
    simp [AV.bare,zal,zaN,zaR,zak,zar,zaf,tokz1,lk,zaa,za3]
    omega
  ·intro _
   have hjN:i0 + 1 + (l.length - (i0 + 1)) = l.length:=by omega
   simp only [hjN]
   have hle:=hKle l.length (czf _)
   obtain ⟨D,hD⟩:∃ D,K l.length = D:=⟨_,rfl⟩
   rw [hD] at hle
   rw [hD]
   have hsub:((l.length:Int) - (D.length:Int)).toNat = l.length - D.length:=by omega
   have hz0:((D.length:Int) - 0).toNat = D.length:=by omega
   have hce:zgo ((D ++ l.drop D.length).map EncE.cs) D.length (l.length - D.length) [.sl [] .full,.sl [] .full] = D.map EncE.cs ++ List.replicate (l.length - D.length) zoV:=by
    unfold zgo
    have e1:List.drop (D.length + (l.length - D.length)) ((D ++ l.drop D.length).map EncE.cs) = []:=czM (by simp <;> omega)
    have e2:List.take D.length ((D ++ l.drop D.length).map EncE.cs) = D.map EncE.cs:=by rw [← List.map_take,List.take_append_of_le_length (czf _),czm]
    rw [e1,e2,List.append_nil]; rfl
   simp (maxSteps:=4000000) only [go_sem,zae,zac,zad,zan,zaq,czb,cza,↓reduceIte,zaL,za6,zaI,zeZ,zab,onz,hms,hms2,hbs2,hn2,hs2,hss,hss2,hl2,hn0,hsub,hz0,hce,czA,decide_false,czd,czc,czz]
   all_goals (repeat' first | (with_reducible first | rfl | apply And.intro | assumption) | ((with_reducible show zaj _ _ = true); rfl)) <;> try first | omega | (simp only [InR]; omega)
   refine ⟨n0,czf _,czf _,cze (by rw [hl2]; exact czf _),by simp [AV.bare,zal,zaN,zaR,zak,zar,zaf,tokz1,lk,zaa,za3]; omega,?_⟩
   rw [cze (by rw [hl2]; exact czf _)]
   refine hokv _ fun e he c hc => ?_
   rcases czv.1 he with q | q
   ·exact hseab _ _ e q c hc
   ·rw [(czL.1 q).2] at hc
    simp only [zoV,czn,czk,or_false] at hc
    rcases hc with rfl | rfl <;> simp [bel]
end
end Go.Proofs
