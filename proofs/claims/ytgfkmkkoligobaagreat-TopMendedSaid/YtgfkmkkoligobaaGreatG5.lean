/- The texts A18, A19, A26, A27, A28, A29, joined. -/
import Derived.Test.YtgfkmkkoligobaaGreatG4
set_option linter.all false
namespace Go.Fs
open Go.RowKit (Below)
def resV (P:Program) (st:St):List ResultVar → Option (Prop × List AV)
 | [] => some (True,[])
 | .tmp t :: r =>
  match resV P st r with
  | some (p,vs) => some ((lk st.tm t).av ∧ p,(lk st.tm t).un :: vs)
  | none => none
 | .cell c t :: r =>
  match zhG P st.mem t (lk st.tm c).un,resV P st r with
  | some (q,v),some (p,vs) => some ((lk st.tm c).av ∧ q ∧ p,v :: vs)
  | _,_ => none
def zfh:List AV → AV
 | [v] => v
 | vs => .tup vs
def zgf (P:Program) (rs:List ResultVar) (K:List AV → St → Prop):List Nat → St → Prop
 | [],st =>
  match resV P st rs with
  | some (p,vs) => p ∧ K vs st
  | none => False
 | l :: ls,st => zaa st.mem l = .deferred ∧ zgf P rs K ls { st with mem:=st.mem.set l .dead,marks:=ls }
def retA (P:Program) (rs:List ResultVar) (K:List AV → St → Prop):QA
 | .normal,st => zgf P rs K st.marks st
 | .ret,st => zgf P rs K st.marks st
 | _,_ => False
def zao:Nat → List AV → List (Nat × AV)
 | _,[] => []
 | k,v :: r => (k,v) :: zao (k + 1) r
theorem zkZ:∀ (args:List AV) (k i:Nat),lk (zao k args) i = if k ≤ i ∧ i < k + args.length then args.getD (i - k) .undef else .undef
 | [],k,i => by simp only [zao,lk,czy,Nat.add_zero]; rw [if_neg (by omega)]
 | v :: r,k,i => by
  simp only [zao,lk,cza]
  split
  ·rename_i e
   subst e
   rw [if_pos (by omega)]
   simp
  ·rename_i e
   rw [zkZ r (k + 1) i]
   by_cases h:k + 1 ≤ i ∧ i < k + 1 + r.length
   ·rw [if_pos h,if_pos (by omega)]
    obtain ⟨d,rfl⟩:∃ d,i = k + 1 + d:=⟨i - (k + 1),by omega⟩
    rw [show k + 1 + d - (k + 1) = d by omega,show k + 1 + d - k = d + 1 by omega]
    simp
   ·rw [if_neg h,if_neg (by omega)]
section
variable {P:Program} {Φ:zay} {X:Nat → Prop} {w0:W0} {w w':World} {m0:Nat} {κ κ':Kn} {ρ:Lc} {τ:Tc} {st:St} {a:Act} {rd:Option Nat}
theorem zmM {fn:Func} {vs:List Value} (h:∀ (i:Nat) (hi:i < fn.results.toList.length),((match fn.results.toList[i] with
   | .tmp t => pure (a.tmps.getD t Go.undef)
   | .cell c t => do loadVar t (← asAddr (a.tmps.getD c Go.undef)):Sem Value)).run P w = .ok (vs.getD i Go.undef) w) (hl:vs.length = fn.results.toList.length) :
  (results fn a.tmps).run P w = .ok (if vs.length = 1 then vs.getD 0 Go.undef else .tuple vs.toArray) w:=by
 have key:∀ (g:ResultVar → Sem Value) (rs:List ResultVar) (us:List Value),us.length = rs.length → (∀ (i:Nat) (hi:i < rs.length),(g rs[i]).run P w = .ok (us.getD i Go.undef) w) →
   (rs.mapM g).run P w = .ok us w:=by
  intro g rs
  induction rs with
  | nil => intro us hu _; cases us with
   | nil => simp
   | cons => simp at hu
  | cons r rs ih =>
   intro us hu hh
   cases us with
   | nil => simp at hu
   | cons u us =>
    have h0:=hh 0 (by simp)
    simp only [List.getElem_cons_zero,List.getD_cons_zero] at h0
    have h1:=ih us (by simpa using hu) (fun i hi => by
     have:=hh (i + 1) (by simpa using hi)
     simpa using this)
    rw [List.mapM_cons]
    simp only [Sem.run_bind,h0,Result.andThen_ok,h1,Sem.run_pure]
 unfold results
 rw [Array.mapM_eq_mapM_toList]
 simp only [Sem.run_bind,Sem.run_map]
 rw [key _ fn.results.toList vs hl (fun i hi => h i hi)]
 simp only [Result.andThen_ok,Sem.run_pure]
 congr 1
 by_cases h1:vs.length = 1
 ·have h1':vs.toArray.size = 1:=by simpa using h1
  rw [dif_pos h1',if_pos h1]
  simp [List.getD,h1]
 ·have h1':¬ vs.toArray.size = 1:=by simpa using h1
  rw [dif_neg h1',if_neg h1]
theorem zhh (h:Rel X w0 m0 κ ρ τ st a w):∀ (rs:List ResultVar) {p:Prop} {us:List AV},resV P st rs = some (p,us) → p →
  ∃ vs:List Value,vs.length = rs.length ∧ us.length = rs.length ∧ (∀ i,i < rs.length → Rep κ ρ (us.getD i .undef) (vs.getD i Go.undef) ∧ TokOK τ st.mem (us.getD i .undef) (vs.getD i Go.undef)) ∧
   ∀ (i:Nat) (hi:i < rs.length),((match rs[i] with
   | .tmp t => pure (a.tmps.getD t Go.undef)
   | .cell c t => do loadVar t (← asAddr (a.tmps.getD c Go.undef)):Sem Value)).run P w = .ok (vs.getD i Go.undef) w
 | [],p,us,hr,_ => by
  simp only [resV,czg,czh] at hr
  obtain ⟨_,rfl⟩:=hr
  exact ⟨[],rfl,rfl,fun i hi => by simp at hi,fun i hi => by simp at hi⟩
 | .tmp t :: r,p,us,hr,hp => by
  unfold resV at hr
  split at hr
  ·rename_i q vs hq
   obtain ⟨rfl,rfl⟩:=Prod.mk.inj (czK hr)
   obtain ⟨xs,h1,h2,h3,h4⟩:=zhh h r hq hp.2
   refine ⟨a.tmps.getD t Go.undef :: xs,by simp [h1],by simp [h2],fun i hi => ?_,fun i hi => ?_⟩
   ·cases i with
    | zero =>
     have h1:=(h.tm t).un hp.1
     have h2:=(h.tk t).un hp.1
     exact ⟨by simpa [St.get] using h1,by simpa [St.get] using h2⟩
    | succ i => simpa using h3 i (by simpa using hi)
   ·cases i with
    | zero => simp
    | succ i => simpa using h4 i (by simpa using hi)
  ·cases hr
 | .cell c t :: r,p,us,hr,hp => by
  unfold resV at hr
  split at hr
  ·rename_i q v q' vs hl hq
   obtain ⟨rfl,rfl⟩:=Prod.mk.inj (czK hr)
   obtain ⟨xs,h1,h2,h3,h4⟩:=zhh h r hq hp.2.2
   obtain ⟨y,hy,hv,hvt⟩:=zhF h.mem ((h.tm c).un hp.1) ((h.tk c).un hp.1) hl hp.2.1
   refine ⟨y :: xs,by simp [h1],by simp [h2],fun i hi => ?_,fun i hi => ?_⟩
   ·cases i with
    | zero => exact ⟨by simpa using hv,by simpa using hvt⟩
    | succ i => simpa using h3 i (by simpa using hi)
   ·cases i with
    | zero =>
     simp only [List.getElem_cons_zero,List.getD_cons_zero]
     unfold Instr.loadAt Instr.sureAddr at hy
     generalize a.tmps.getD c Go.undef = ptr at hy
     cases ptr <;> simp at hy
     rename_i ad
     cases ad with
     | none => simp at hy
     | some ad => simpa [asAddr] using hy
    | succ i => simpa using h4 i (by simpa using hi)
  ·cases hr
theorem Rel.kill (h:Rel X w0 m0 κ ρ τ st a w) {l:Nat} {ls:List Nat} (hm:st.marks = l :: ls) (hl:zaa st.mem l = .deferred) :
  ∃ b rest w',a.defers = { target:=.collected b,args:=#[] } :: rest ∧ (Instr.takeDeferred b).run P w = .ok [] w' ∧
   Rel X w0 m0 κ ρ τ { st with mem:=st.mem.set l .dead,marks:=ls } { a with defers:=rest } w' ∧ Ext m0 κ ρ τ st.mem κ ρ τ (st.mem.set l .dead):=by
 have hd:=h.defers
 rw [hm] at hd
 obtain ⟨b,rest,h1,h2,h3⟩:=hd
 have hlt:l < st.mem.length:=za9 hl (by simp)
 have ho:=h.mem.obj l
 rw [hl] at ho
 obtain ⟨b',g1,g2,g3⟩:=ho
 obtain rfl:b = b':=by rw [h1] at g1; exact czK g1
 have hheap:∀ b',b' ≠ b → ({ w with heap:=w.heap.setIfInBounds b (.deferred none) }:World).heap[b']? = w.heap[b']?:=fun b' hb' => by
  show (w.heap.setIfInBounds b _)[b']? = _
  rw [Array.getElem?_setIfInBounds_ne (fun e => hb' e.symm)]
 have htake:(Instr.takeDeferred b).run P w = .ok [] { w with heap:=w.heap.setIfInBounds b (.deferred none) }:=by
  simp [Instr.takeDeferred,getObj,setObj,Sem.run,g3]
 have hoth:∀ i b',i ≠ l → blk ρ τ i (zaa st.mem i) = some b' → b' ≠ b:=fun i b' hi hb' e => by
  subst e
  exact hi (h.mem.inj i l b' hb' (by rw [hl]; exact h1))
 have hst:TStep st.mem.length τ st.mem τ (st.mem.set l .dead):=TStep.set _ _ _ hlt ⟨fun n sz => by rw [hl]; simp,fun es sz s => by rw [hl]; simp⟩
 have htok:∀ v x,TokOK τ st.mem v x → TokOK τ (st.mem.set l .dead) v x:=fun v x hv => hv.move hst
 refine ⟨b,rest,{ w with heap:=w.heap.setIfInBounds b (.deferred none) },h2,htake,⟨h3,h.size,h.tm,fun i => htok _ _ (h.tk i),⟨fun i => ?_,fun i i' b' hi hi' => ?_,⟨fun b' o v hk => ?_,fun b' es hk => ?_⟩,fun i hi => h.mem.dom i (by simpa using hi),?_⟩,
  ⟨h.frm.os,h.frm.tape,h.frm.output,by show _ ≤ (w.heap.setIfInBounds b _).size; simpa using h.frm.size,fun b' hb' => by rw [hheap b' (fun e => by subst e; exact g2 hb')]; exact h.frm.block b' hb'⟩,h.xlt,by simpa using h.prot,h.prm,h.kx⟩,
  Kn.le_refl _,fun _ _ _ q => q,hst.le h.prot⟩
 ·rw [zap _ _ _ _ hlt]
  split
  ·trivial
  ·rename_i e
   exact RelObj.mono (h.mem.obj i) (Kn.le_refl _) (Lc.le_refl _) ⟨fun _ _ _ => rfl,fun _ _ _ _ => rfl⟩ (fun b' hb' => hheap b' (hoth i b' e hb')) (fun _ _ => ⟨fun _ => rfl,rfl⟩)
 ·rw [zap _ _ _ _ hlt] at hi hi'
  split at hi <;> split at hi'
  ·cases hi
  ·cases hi
  ·cases hi'
  ·exact h.mem.inj i i' b' hi hi'
 ·have hc1:=h.mem.know.c _ _ _ hk
  have hne:b' ≠ b:=fun e => by
   rw [e] at hc1
   unfold World.cell? at hc1
   rw [g3] at hc1
   cases hc1
  rw [← hc1]
  unfold World.cell?
  rw [hheap b' hne]
 ·have hc1:=h.mem.know.m _ _ hk
  rw [hheap b' (fun e => by rw [e,g3] at hc1; cases hc1)]
  exact hc1
 ·intro i cs b' us T' hi hb' hh' j hj
  rw [zap _ _ _ _ hlt] at hi
  split at hi
  ·cases hi
  ·rename_i e
   rw [hheap b' (hoth i b' e (by rw [hi]; exact hb'))] at hh'
   exact htok _ _ (h.mem.toks i cs b' us T' hi hb' hh' j hj)
def ResT (τ:Tc) (mem:List AObj) (us:List AV) (x:Value):Prop :=
 match us with
 | [u] => TokOK τ mem u x
 | us => ∃ xs,x = .tuple xs ∧ xs.size = us.length ∧ ∀ i,i < us.length → TokOK τ mem (us.getD i .undef) (xs.getD i Go.undef)
theorem zdc {fn:Func} {K:List AV → St → Prop} {R:Ending → World → Prop}
  (hR:∀ κ' st' a' w' us x,Rel X w0 m0 κ' ρ τ st' a' w' → Ext m0 κ ρ τ st.mem κ' ρ τ st'.mem → Rep κ' ρ (zfh us) x → ResT τ st'.mem us x → K us st' → R (.returned x) w') :
  ∀ (ls:List Nat) (st':St) (a':Act) (w':World),st'.marks = ls → Rel X w0 m0 κ ρ τ st' a' w' → Ext m0 κ ρ τ st.mem κ ρ τ st'.mem → zgf P fn.results.toList K ls st' →
   LeavesInM Fence.wide 0 P fn a'.tmps R a'.defers .returning w'
 | [],st',a',w',hm,h,he,hd => by
  have h0:=h.defers
  rw [hm] at h0
  have h0':a'.defers = []:=h0
  rw [h0']
  unfold zgf at hd
  split at hd
  ·rename_i p us hr
   obtain ⟨hp,hk⟩:=hd
   obtain ⟨vs,h1,h2,h3,h4⟩:=zhh h _ hr hp
   refine ⟨_,zmM h4 h1,?_⟩
   refine (fun (q:Rep κ ρ (zfh us) (if vs.length = 1 then vs.getD 0 Go.undef else .tuple vs.toArray) ∧ ResT τ st'.mem us (if vs.length = 1 then vs.getD 0 Go.undef else .tuple vs.toArray)) => hR κ st' a' w' us _ h he q.1 q.2 hk) ?_
   by_cases hone:vs.length = 1
   ·rw [if_pos hone]
    have:us.length = 1:=by omega
    match us,this with
    | [u],_ => exact ⟨by simpa [zfh] using (h3 0 (by omega)).1,by simpa [ResT] using (h3 0 (by omega)).2⟩
   ·rw [if_neg hone]
    have hne:us.length ≠ 1:=by omega
    have e:zfh us = .tup us:=by
     match us,hne with
     | [],_ => rfl
     | _ :: _ :: _,_ => rfl
     | [_],h => exact absurd rfl h
    have e2:ResT τ st'.mem us (.tuple vs.toArray) = ∃ xs,Value.tuple vs.toArray = .tuple xs ∧ xs.size = us.length ∧ ∀ i,i < us.length → TokOK τ st'.mem (us.getD i .undef) (xs.getD i Go.undef):=by
     match us,hne with
     | [],_ => rfl
     | _ :: _ :: _,_ => rfl
     | [_],h => exact absurd rfl h
    rw [e,e2]
    refine ⟨.tup us _ (by simp; omega) (fun i hi => ?_),_,rfl,by simp; omega,fun i hi => ?_⟩
    ·have:=(h3 i (by omega)).1
     simpa [List.getD,czo] using this
    ·have:=(h3 i (by omega)).2
     simpa [List.getD,czo] using this
  ·exact hd.elim
 | l :: ls,st',a',w',hm,h,he,hd => by
  obtain ⟨hl,hd⟩:=hd
  obtain ⟨b,rest,w'',h1,h2,h3,h4⟩:=h.kill (P:=P) hm hl
  rw [h1]
  refine ⟨by simp,.inl ⟨b,w'',rfl,h2,?_⟩⟩
  exact zdc hR ls _ _ w'' rfl h3 (he.trans h4) hd
end
end Go.Fs
namespace Go.Fs
open Go.RowKit (Below)
section
variable {P:Program} {Φ:zay}
def zaj (n:Nat) (args:List AV) (mem:List AObj):St:={ tm:=zao 0 args,mem:=mem,n:=n,marks:=[],pr:=mem.length }
theorem ziC {X:Nat → Prop} {κ:Kn} {ρ:Lc} {τ:Tc} {w:World} {args:List AV} {mem:List AObj} {vs:Array Value} {n:Nat} (hm:RelM κ ρ τ X mem w) (hX:∀ b,X b → b < w.heap.size)
  (hn:args.length ≤ n) (hs:vs.size = args.length) (hr:∀ i,i < args.length → Rep κ ρ (args.getD i .undef) (vs.getD i Go.undef)) (ht:∀ i,i < args.length → TokOK τ mem (args.getD i .undef) (vs.getD i Go.undef)) :
  Rel X ⟨w,κ⟩ mem.length κ ρ τ (zaj n args mem) { tmps:=vs ++ Array.replicate (n - vs.size) Go.undef,defers:=[] } w:=by
 have hv:∀ i,(vs ++ Array.replicate (n - vs.size) Go.undef).getD i Go.undef = if i < args.length then vs.getD i Go.undef else Go.undef:=by
  intro i
  rw [zcf,hs]
  split
  ·rfl
  ·rw [czo,Array.getElem?_replicate]
   split <;> rfl
 have hg:∀ i,(zaj n args mem).get i = if i < args.length then args.getD i .undef else .undef:=by
  intro i
  simp only [zaj,St.get,zkZ,Nat.zero_le,true_and,Nat.zero_add,Nat.sub_zero]
 refine ⟨rfl,by simp [zaj]; omega,fun i => ?_,fun i => ?_,hm,⟨rfl,rfl,rfl,czf _,fun _ _ => rfl⟩,hX,czf _,rfl,KeepX.refl _ _⟩
 ·rw [hg,hv]
  split
  ·exact hr i ‹_›
  ·exact .undef _
 ·rw [hg,hv]
  split
  ·exact ht i ‹_›
  ·exact zax rfl
theorem zfG {X:Nat → Prop} {κ:Kn} {ρ:Lc} {τ:Tc} {w:World} {args:List AV} {mem:List AObj} {vs:Array Value} {n:Nat} (hm:RelM κ ρ τ X mem w) (hX:∀ b,X b → b < w.heap.size)
  (hn:args.length ≤ n) (hs:vs.size = args.length) (hr:∀ i,i < args.length → Rep κ ρ (args.getD i .undef) (vs.getD i Go.undef)) (ht:∀ a ∈ args,a.strip = a) :
  Rel X ⟨w,κ⟩ mem.length κ ρ τ (zaj n args mem) { tmps:=vs ++ Array.replicate (n - vs.size) Go.undef,defers:=[] } w :=
 ziC hm hX hn hs hr fun i hi => by
  rw [← ht _ (za5 hi)]
  exact TokOK.strip _
def picR (mem:List AObj):List AV → AV
 | [v] => zcB 9 mem v
 | vs => .tup (vs.map (zcB 8 mem))
theorem picR_one (mem:List AObj) (v:AV):picR mem [v] = zcB 9 mem v:=rfl
theorem picR_nil (mem:List AObj):picR mem [] = .tup []:=rfl
theorem zou (mem:List AObj) (u v:AV) (r:List AV):picR mem (u :: v :: r) = .tup ((u :: v :: r).map (zcB 8 mem)):=rfl
theorem znM {f : FuncId} {fn : Func} {c : Code} {args : List AV} {K : AV → Prop} (hf : P.funcs[f]? = some fn) (hb : fn.body = some c) (hnm : (fn.name == "runtime.NumGoroutine") = false)
  (hn:args.length ≤ fn.ntmps) (hmx:P.follows .mixedOrders = true) (hΦ:zam P Φ) (ht:∀ a ∈ args,a.strip = a)
  (h:vc P Φ c (retA P fn.results.toList (fun vs st => K (picR st.mem vs))) (zaj fn.ntmps args [])):zaH P f args K:=by
 refine ⟨⟨fn,hf,hnm,by rw [hb]; rfl⟩,fun κ w vs hk hs hr => ?_⟩
 let X:Nat → Prop:=fun b => b < w.heap.size
 have hm:RelM κ noLc (fun _ => none) X [] w:=⟨fun l => trivial,fun l l' b hl => by simp [zaa,blk] at hl,hk,fun _ _ => rfl,fun l cs b vs T hl => by simp [zaa] at hl⟩
 have hrel:=zfG (n:=fn.ntmps) hm (fun b hb => hb) hn hs hr ht
 refine callsIn_of_wp_marks hf hb trivial ?_
 have hwp:c.wpIn Fence.wide 0 P _ _ w:=zbG hmx hΦ c _ _ h none (.inl rfl) X ⟨w,κ⟩ 0 κ noLc (fun _ => none) _ w hrel
 refine wpIn_mono hwp ?_
 rintro e a' w' ⟨κ',ρ',τ',st',g1,g2,g3⟩
 have hfin:zgf P fn.results.toList (fun vs st => K (picR st.mem vs)) st'.marks st' → LeavesInM Fence.wide 0 P fn a'.tmps (fun e w' => ∃ x κ' r,e = .returned x ∧ K r ∧ Rep κ' noLc r x ∧ Grow κ w κ' w') a'.defers .returning w':=by
  intro hd
  refine zdc (κ:=κ') (st:=st') (X:=X) (w0:=⟨w,κ⟩) (m0:=0) ?_ st'.marks st' a' w' rfl g1 (Ext.refl _ _ _ _ _) hd
  intro κ2 st2 a2 w2 us x q1 q2 q3 qt q4
  let κf:Kn:=⟨fun b o => if b < w.heap.size then κ b o else w2.cell? ⟨b,o,none⟩,fun b => if b < w.heap.size then κ.m b else (zdp w2).m b⟩
  have hle:κ2.le κf:=⟨fun b o u hu => by
   simp only [κf]
   split
   ·rename_i hlt
    rw [q1.kx.1 b o hlt] at hu
    exact hu
   ·exact q1.mem.know.c _ _ _ hu,fun b es hu => by
   simp only [κf]
   split
   ·rename_i hlt
    rw [q1.kx.2 b hlt] at hu
    exact hu
   ·exact (zjK q1.mem.know).m _ _ hu⟩
  have hcells:∀ l cs b,zaa st2.mem l = .cells cs → ρ' l = some b → ∃ vs:Array Value,vs.size = cs.length ∧ (∀ i,i < cs.length → Rep κ2 ρ' (cs.getD i .undef) (vs.getD i Go.undef) ∧ TokOK τ' st2.mem (cs.getD i .undef) (vs.getD i Go.undef)) ∧ ∀ o,o < vs.size → κf b o = some (vs.getD o Go.undef):=fun l cs b hl hb => by
   have ho:=q1.mem.obj l
   rw [hl] at ho
   obtain ⟨b',us,T,h1,h2,_,h4,h5,h6⟩:=ho
   obtain rfl:b = b':=by rw [hb] at h1; exact czK h1
   refine ⟨us,h5,fun i hi => ⟨h6 i hi,q1.mem.toks l cs b us T hl hb h4 i hi⟩,fun o ho => ?_⟩
   simp only [κf]
   rw [if_neg h2]
   exact zbC h4 ho
  have hvecs:VecKn κ2 κf ρ' τ' st2.mem:=fun l es sz s b c hl hb => by
   have ho:=q1.mem.obj l
   rw [hl] at ho
   obtain ⟨h0,h1⟩:=ho
   rcases h1 with ⟨h1,_⟩ | ⟨b',c',us,T,g1,g2,_,g4,g5,g6,g7⟩
   ·rw [hb] at h1; cases h1
   ·rw [hb] at g1
    cases g1
    refine ⟨h0,us,g5,g6,g7,fun o ho => ?_⟩
    simp only [κf]
    rw [if_neg g2]
    exact zbC g4 ho
  have hmaps:∀ l ks us b,zaa st2.mem l = .map ks us → ρ' l = some b → ∃ es,RepMap κ2 ρ' ks us es ∧ κf.m b = some es:=fun l ks us b hl hb => by
   have ho:=q1.mem.obj l
   rw [hl] at ho
   obtain ⟨b',es,h1,h2,_,h4,h5⟩:=ho
   obtain rfl:b = b':=by rw [hb] at h1; exact czK h1
   refine ⟨es,h5,?_⟩
   simp only [κf]
   rw [if_neg h2]
   simp only [zdp,h4,if_true]
  have hsnap:∀ (n:Nat) {v:AV} {y:Value},Rep κ2 ρ' v y → Rep κf noLc (zbk n st2.mem v) y:=fun n _ _ hv => zjn (fun _ _ _ _ h => h) hle hcells hvecs hmaps n hv
  have hpic:Rep κf noLc (picR st2.mem us) x:=by
   have hF:∀ (n:Nat) {v:AV} {y:Value},Rep κ2 ρ' v y → TokOK τ' st2.mem v y → Rep κf noLc (zcB n st2.mem v) y:=fun n _ _ hv ht => zkx (fun _ _ _ _ h => h) hvecs (fun n _ _ h => hsnap n h) hv ht
   match us,q3,qt with
   | [v],q3,qt => exact hF 9 q3 qt
   | [],q3,qt =>
    have q3':Rep κ2 ρ' (.tup []) x:=q3
    exact hsnap 9 q3'
   | u :: v :: r,q3,qt =>
    have q3':Rep κ2 ρ' (.tup (u :: v :: r)) x:=q3
    obtain ⟨xs,e1,e2,e3⟩:=qt
    subst e1
    cases q3' with
    | tup _ _ hs hrs =>
     rw [zou]
     exact .tup _ _ (by rw [hs]; simp) (fun i hi => by
      have hi':i < (u :: v :: r).length:=by simpa using hi
      rw [zaQ _ _ _ hi']
      exact hF 8 (hrs i hi') (e3 i hi'))
  refine ⟨x,κf,_,rfl,q4,hpic,⟨fun b o u hu => ?_,fun b es hu => ?_⟩,⟨fun b o u hu => ?_,fun b es hu => ?_⟩,⟨q1.frm.os,q1.frm.tape,q1.frm.output,q1.frm.size,q1.frm.block⟩,fun b o hb => by simp only [κf,if_pos hb],fun b hb => by simp only [κf,if_pos hb]⟩
  ·simp only [κf]
   rw [if_pos (zeh (hk.c b o u hu))]
   exact hu
  ·simp only [κf]
   rw [if_pos (zcG (hk.m b es hu))]
   exact hu
  ·simp only [κf] at hu
   split at hu
   ·rename_i hlt
    have:=q1.kx.1 b o hlt
    exact q1.mem.know.c _ _ _ (by rw [this]; exact hu)
   ·exact hu
  ·simp only [κf] at hu
   split at hu
   ·rename_i hlt
    have:=q1.kx.2 b hlt
    exact q1.mem.know.m _ _ (by rw [this]; exact hu)
   ·exact (zdo w2).m _ _ hu
 cases e with
 | normal => exact hfin g3
 | ret => exact hfin g3
 | _ => exact g3.elim
theorem cpz {P:Program} {Φ:zay} {f:FuncId} {fn:Func} {c:Code} {args:List AV} {K:AV → Prop} (hΦ:zam P Φ) (hf:P.funcs[f]? = some fn) (hmx:P.follows .mixedOrders = true)
  (h : vc P Φ c (retA P fn.results.toList (fun vs st => K (picR st.mem vs))) (zaj fn.ntmps args [])) (hb : fn.body = some c := by rfl) (hnm : (fn.name == "runtime.NumGoroutine") = false := by rfl) (hn : Nat.ble args.length fn.ntmps = true := by rfl) (ht : ∀ a ∈ args, a.strip = a := by simp [AV.strip, AV.strip1, Tk.strip]) : zaH P f args K :=
 znM hf hb hnm (Nat.le_of_ble_eq_true hn) hmx hΦ ht h
theorem zbW {f:FuncId} {fn:Func} {c:Code} {args:List AV} {mem:List AObj} {R:AV → List AObj → Prop} (hf:P.funcs[f]? = some fn) (hb:fn.body = some c)
  (hnm : (fn.name == "runtime.NumGoroutine") = false) (hn : args.length ≤ fn.ntmps) (hmx : P.follows .mixedOrders = true) (hΦ : zam P Φ) (ht : ∀ a ∈ args, a.strip = a)
  (h:vc P Φ c (retA P fn.results.toList (fun vs st => R (zfh vs) (st.mem.take mem.length) ∧ bel mem.length 9 (zfh vs) ∧ ∀ o ∈ st.mem.take mem.length,zcK mem.length o)) (zaj fn.ntmps args mem)) :
  zet P f args mem R:=by
 refine ⟨⟨fn,hf,hnm,by rw [hb]; rfl⟩,fun X κ ρ τ w vs hm hX hs hr => ?_⟩
 have hrel:=zfG (n:=fn.ntmps) hm hX hn hs hr ht
 refine callsIn_of_wp_marks hf hb trivial ?_
 have hwp:c.wpIn Fence.wide 0 P _ _ w:=zbG hmx hΦ c _ _ h none (.inl rfl) X ⟨w,κ⟩ mem.length κ ρ τ _ w hrel
 refine wpIn_mono hwp ?_
 rintro e a' w' ⟨κ',ρ',τ',st',g1,g2,g3⟩
 have hfin:zgf P fn.results.toList (fun vs st => R (zfh vs) (st.mem.take mem.length) ∧ bel mem.length 9 (zfh vs) ∧ ∀ o ∈ st.mem.take mem.length,zcK mem.length o) st'.marks st' →
   LeavesInM Fence.wide 0 P fn a'.tmps (fun e w' => ∃ x κ' ρ' τ' mem' r,e = .returned x ∧ RelM κ' ρ' τ' X mem' w' ∧ Frm X w w' ∧ Rep κ' ρ' r x ∧
   Ext mem.length κ ρ τ mem κ' ρ' τ' mem' ∧ mem'.length = mem.length ∧ KeepX X κ κ' ∧ R r mem') a'.defers .returning w':=by
  intro hd
  refine zdc (κ:=κ') (st:=st') (X:=X) (w0:=⟨w,κ⟩) (m0:=mem.length) ?_ st'.marks st' a' w' rfl g1 (Ext.refl _ _ _ _ _) hd
  intro κ2 st2 a2 w2 us x q1 q2 q3 _ ⟨q4,q5,q6⟩
  have hlen:(st2.mem.take mem.length).length = mem.length:=by
   have:=q1.prot
   simp; omega
  have q7:Rel X ⟨w,κ⟩ mem.length κ2 ρ' τ' { st2 with tm:=[],marks:=[] } { a2 with defers:=[] } w2 :=
   ⟨rfl,q1.size,fun i => .undef _,fun i => zax rfl,q1.mem,q1.frm,q1.xlt,q1.prot,q1.prm,q1.kx⟩
  have hweak:zrn { st2 with tm:=[],marks:=[] } { tm:=[],mem:=st2.mem.take mem.length,n:=st2.n,marks:=[],pr:=st2.pr }:=by
   refine ⟨rfl,rfl,rfl,by rw [hlen]; exact Nat.le_of_eq q1.prm,⟨st2.mem.drop mem.length,(List.take_append_drop _ _).symm⟩,fun q hq => (by cases hq),fun o ho => (by dsimp only at ho ⊢; rw [hlen]; exact q6 o ho),fun l hl => (by cases hl)⟩
  obtain ⟨k1,k2⟩:=q7.weak hweak
  simp only [hlen] at k1 k2
  exact ⟨x,κ2,_,τ',st2.mem.take mem.length,zfh us,rfl,k1.mem,k1.frm,zej (fun l b hl hb => by unfold cutL; rw [if_pos hl]; exact hb) 9 q5 q3,(g2.trans q2).trans k2,hlen,q1.kx,q4⟩
 cases e with
 | normal => exact hfin g3
 | ret => exact hfin g3
 | _ => exact g3.elim
theorem za6 {f:FuncId} {args:List AV} {mem:List AObj} {R:AV → List AObj → Prop} (h:zet P f args mem R) :
  zfi P f args mem (fun r m => ∃ r0,r = r0.strip ∧ R r0 m ∧ m.length = mem.length):=by
 refine ⟨h.1,fun X κ ρ τ w vs hm hX hs hr _ => (h.2 X κ ρ τ w vs hm hX hs hr).mono ?_⟩
 rintro e w' ⟨x,κ',ρ',τ',mem',r,rfl,h1,h2,h3,h4,h5,h6,h7⟩
 exact ⟨x,κ',ρ',τ',mem',r.strip,rfl,h1,h2,h3.strip,TokOK.strip _,h4,by omega,h6,r,rfl,h7,h5⟩
theorem zbc {f:FuncId} {fn:Func} {c:Code} {args:List AV} {mem:List AObj} {R:AV → List AObj → Prop} (hf:P.funcs[f]? = some fn) (hb:fn.body = some c)
  (hnm : (fn.name == "runtime.NumGoroutine") = false) (hn : args.length ≤ fn.ntmps) (hmx : P.follows .mixedOrders = true) (hΦ : zam P Φ)
  (h:vc P Φ c (retA P fn.results.toList (fun vs st => ∃ k,mem.length ≤ k ∧ k ≤ st.mem.length ∧ R (zfh vs) (st.mem.take k) ∧ bel k 9 (zfh vs) ∧ ∀ o ∈ st.mem.take k,zcK k o)) (zaj fn.ntmps args mem)) :
  zfi P f args mem R:=by
 refine ⟨⟨fn,hf,hnm,by rw [hb]; rfl⟩,fun X κ ρ τ w vs hm hX hs hr ht => ?_⟩
 have hrel:=ziC (n:=fn.ntmps) hm hX hn hs hr ht
 refine callsIn_of_wp_marks hf hb trivial ?_
 have hwp:c.wpIn Fence.wide 0 P _ _ w:=zbG hmx hΦ c _ _ h none (.inl rfl) X ⟨w,κ⟩ mem.length κ ρ τ _ w hrel
 refine wpIn_mono hwp ?_
 rintro e a' w' ⟨κ',ρ',τ',st',g1,g2,g3⟩
 have hfin:zgf P fn.results.toList (fun vs st => ∃ k,mem.length ≤ k ∧ k ≤ st.mem.length ∧ R (zfh vs) (st.mem.take k) ∧ bel k 9 (zfh vs) ∧ ∀ o ∈ st.mem.take k,zcK k o) st'.marks st' →
   LeavesInM Fence.wide 0 P fn a'.tmps (fun e w' => ∃ x κ' ρ' τ' mem' r,e = .returned x ∧ RelM κ' ρ' τ' X mem' w' ∧ Frm X w w' ∧ Rep κ' ρ' r x ∧ TokOK τ' mem' r x ∧
   Ext mem.length κ ρ τ mem κ' ρ' τ' mem' ∧ mem.length ≤ mem'.length ∧ KeepX X κ κ' ∧ R r mem') a'.defers .returning w':=by
  intro hd
  refine zdc (κ:=κ') (st:=st') (X:=X) (w0:=⟨w,κ⟩) (m0:=mem.length) ?_ st'.marks st' a' w' rfl g1 (Ext.refl _ _ _ _ _) hd
  intro κ2 st2 a2 w2 us x q1 q2 q3 qt ⟨k,q0,q0',q4,q5,q6⟩
  have hlen:(st2.mem.take k).length = k:=by
   simp; omega
  have hone:TokOK τ' st2.mem (zfh us) x:=by
   match us,qt with
   | [u],qt => exact qt
   | [],_ => exact zax rfl
   | _ :: _ :: _,_ => exact zax rfl
  have q7:Rel X ⟨w,κ⟩ mem.length κ2 ρ' τ' { st2 with tm:=[(0,zfh us)],n:=1,marks:=[] } { tmps:=#[x],defers:=[] } w2 :=
   ⟨rfl,rfl,fun i => by
    show Rep κ2 ρ' (lk [(0,zfh us)] i) _
    unfold lk
    split
    ·rename_i e; subst e; exact q3
    ·exact .undef _,fun i => by
    show TokOK τ' st2.mem (lk [(0,zfh us)] i) _
    unfold lk
    split
    ·rename_i e; subst e; exact hone
    ·exact zax rfl,q1.mem,q1.frm,q1.xlt,q1.prot,q1.prm,q1.kx⟩
  have hweak:zrn { st2 with tm:=[(0,zfh us)],n:=1,marks:=[] } { tm:=[(0,zfh us)],mem:=st2.mem.take k,n:=1,marks:=[],pr:=st2.pr }:=by
   refine ⟨rfl,rfl,rfl,by rw [hlen]; have:=q1.prm; show st2.pr ≤ k; omega,⟨st2.mem.drop k,(List.take_append_drop _ _).symm⟩,fun q hq => ?_,fun o ho => (by dsimp only at ho ⊢; rw [hlen]; exact q6 o ho),fun l hl => (by cases hl)⟩
   simp only [czC] at hq
   subst hq
   exact ⟨.inl rfl,by dsimp only; rw [hlen]; exact q5⟩
  obtain ⟨k1,k2⟩:=q7.weak hweak
  have r1:Rep κ2 _ (lk [(0,zfh us)] 0) _:=k1.tm 0
  have r2:TokOK τ' _ (lk [(0,zfh us)] 0) _:=k1.tk 0
  have e0:lk [(0,zfh us)] 0 = zfh us:=rfl
  rw [e0] at r1 r2
  exact ⟨x,κ2,_,τ',st2.mem.take k,zfh us,rfl,k1.mem,k1.frm,by simpa using r1,by simpa using r2,(g2.trans q2).trans k2,by rw [hlen]; exact q0,q1.kx,q4⟩
 cases e with
 | normal => exact hfin g3
 | ret => exact hfin g3
 | _ => exact g3.elim
end
end Go.Fs
namespace Go.Fs
open Go.RowKit (Below)
section
variable {P:Program} {Φ:zay} {X:Nat → Prop} {w0:W0} {w w':World} {m0:Nat} {κ κ':Kn} {ρ:Lc} {τ:Tc} {st:St} {a:Act}
theorem Rel.setLoop (h:Rel X w0 m0 κ ρ τ st a w) {l:Nat} {s:LoopState} {pend:Option Code} {tm:List (Nat × AV)} {n:Nat} {ps:Array Tmp} {asg body:Code}
  (hl:zaa st.mem l = .loop s pend tm n ps asg body) (s':LoopState) (pend':Option Code) :
  ∃ b lp,ρ l = some b ∧ w.heap[b]? = some (.loop lp) ∧ lp.state = s ∧ lp.pending = pend ∧
   Rel X w0 m0 κ ρ τ { st with mem:=st.mem.set l (.loop s' pend' tm n ps asg body) } a { w with heap:=w.heap.setIfInBounds b (.loop { lp with state:=s',pending:=pend' }) } ∧
   Ext m0 κ ρ τ st.mem κ ρ τ (st.mem.set l (.loop s' pend' tm n ps asg body)):=by
 have hlp:=h.mem.obj l
 rw [hl] at hlp
 obtain ⟨b,lp,t1,t2,t3,t4,t5⟩:=hlp
 have hold:blk ρ τ l (zaa st.mem l) = some b:=by rw [hl]; exact t1
 have hkc:∀ off,κ b off = none:=fun off => by
  cases hk:κ b off with
  | none => rfl
  | some v =>
   have:=h.mem.know.c _ _ _ hk
   unfold World.cell? at this
   rw [t3] at this
   cases this
 have hkm:κ.m b = none:=by
  cases hk:κ.m b with
  | none => rfl
  | some v =>
   have:=h.mem.know.m _ _ hk
   rw [t3] at this
   cases this
 obtain ⟨u1,u2⟩:=h.setO (l:=l) (b:=b) (ob:=.loop s' pend' tm n ps asg body) (o:=.loop { lp with state:=s',pending:=pend' }) (za9 hl (by simp)) hold t1 ⟨by rw [hl]; simp,by rw [hl]; simp⟩ (by simp) hkm hkc t2
  ⟨_,_,t1,t2,zcp t3,⟨rfl,rfl,t4.2.2.1,t4.2.2.2.1,t4.2.2.2.2.1,t4.2.2.2.2.2⟩,t5⟩
 exact ⟨b,lp,t1,t3,t4.1,t4.2.1,u1,u2⟩
def zcE:List Tmp → List AV → List (Nat × AV) → List (Nat × AV)
 | t :: ts,v :: vs,tm => zcE ts vs ((t,v) :: tm)
 | _,_,tm => tm
def endB (l k:Nat) (R:AV → List AObj → Prop) (s':LoopState) (pend':Option Code) (r:Bool) (st:St):Prop :=
 match zaa st.mem l with
 | .loop _ _ tm n ps asg body => R (.bool r) ((st.mem.set l (AObj.loop s' pend' tm n ps asg body)).take k) ∧ ∀ o ∈ (st.mem.set l (AObj.loop s' pend' tm n ps asg body)).take k,zcK k o
 | _ => False
def roundA (l k:Nat) (R:AV → List AObj → Prop):QA
 | .normal,st => endB l k R .ready none true st
 | .ret,st => endB l k R .done (some .ret) false st
 | .exit id,st => endB l k R .done (some (.exit id)) false st
 | _,_ => False
def zly (P:Program) (Φ:zay) (l k:Nat) (R:AV → List AObj → Prop) (bd:Code) (st:St):Prop :=
 match zaa st.mem l with
 | .loop s pend tm n ps asg body => s = .ready ∧ vc P Φ bd (roundA l k R) { st with mem:=st.mem.set l (AObj.loop .busy pend tm n ps asg body) }
 | _ => False
theorem zlD:∀ (ts:List Tmp) (as:List AV) (vs:List Value) (tm:List (Nat × AV)) (tmps:Array Value),vs.length = as.length → (∀ i,i < as.length → Rep κ ρ (as.getD i .undef) (vs.getD i Go.undef)) →
  (∀ t ∈ ts,t < tmps.size) → (∀ i,Rep κ ρ (lk tm i) (tmps.getD i Go.undef)) →
  ((ts.zip vs).foldl (fun (tmps:Array Value) q => tmps.setIfInBounds q.1 q.2) tmps).size = tmps.size ∧
    ∀ i,Rep κ ρ (lk (zcE ts as tm) i) (((ts.zip vs).foldl (fun (tmps:Array Value) q => tmps.setIfInBounds q.1 q.2) tmps).getD i Go.undef)
 | [],as,vs,tm,tmps,_,_,_,h => by simp [zcE]; simpa using h
 | t :: ts,[],vs,tm,tmps,hl,_,_,h => by
  have:vs = []:=by simpa using hl
  subst this
  simp [zcE]; simpa using h
 | t :: ts,a :: as,[],tm,tmps,hl,_,_,_ => by simp at hl
 | t :: ts,a :: as,v :: vs,tm,tmps,hl,hr,ht,h => by
  simp only [List.zip_cons_cons,List.foldl_cons,zcE]
  have ih:=zlD ts as vs ((t,a) :: tm) (tmps.setIfInBounds t v) (by simpa using hl) (fun i hi => by simpa using hr (i + 1) (by simpa using hi)) (fun q hq => by simpa using ht q (by simp [hq])) (fun i => by
   simp only [lk]
   have hlt:=ht t (by simp)
   split
   ·rename_i e
    subst e
    have:=hr 0 (by simp)
    simpa [czo,hlt] using this
   ·rename_i e
    simp only [czo]
    rw [Array.getElem?_setIfInBounds_ne (fun e' => e e'.symm)]
    simpa [czo] using h i)
  exact ⟨by simpa using ih.1,ih.2⟩
theorem zfM:∀ (ts:List Tmp) (as:List AV) (tm:List (Nat × AV)),(∀ a ∈ as,a.strip = a) → (∀ q ∈ tm,q.2.strip = q.2) → ∀ q ∈ zcE ts as tm,q.2.strip = q.2
 | [],_,tm,_,h => by unfold zcE; exact h
 | _ :: _,[],tm,_,h => by unfold zcE; exact h
 | t :: ts,a :: as,tm,ha,h => by
  unfold zcE
  refine zfM ts as _ (fun x hx => ha x (by simp [hx])) (fun q hq => ?_)
  rcases czn.1 hq with rfl | hq
  ·exact ha _ (by simp)
  ·exact h q hq
theorem lk_strip {tm:List (Nat × AV)} (h:∀ q ∈ tm,q.2.strip = q.2) (i:Nat):(lk tm i).strip = lk tm i:=by
 rcases zk0 tm i with hq | ⟨q,h1,_,h3⟩
 ·rw [hq]; rfl
 ·rw [← h3,h q h1]
theorem zki {l n:Nat} {args:List AV} {mem:List AObj} {R:AV → List AObj → Prop} {pend:Option Code} {tm:List (Nat × AV)} {ps:Array Tmp} {asg body:Code}
  (hl:zaa mem l = .loop .ready pend tm n ps asg body) (hlen:args.length = ps.size) (hps:∀ t ∈ ps.toList,t < n) (hna:noRF asg = true) (hnb:noRF body = true) (hmx:P.follows .mixedOrders = true) (hΦ:zam P Φ)
  (ht:∀ a ∈ args,a.strip = a) (htm:∀ q ∈ tm,q.2.strip = q.2)
  (h:vc P Φ asg (zaO (zly P Φ l mem.length R body) (fun _ _ => False)) { tm:=zcE ps.toList args tm,mem:=mem,n:=n,marks:=[],pr:=mem.length }):zjd P l args mem R:=by
 intro X κ ρ τ w vs hm hX hs hr
 have ho:=hm.obj l
 rw [hl] at ho
 obtain ⟨b,lp,t1,t2,t3,⟨t4,t5,t6,t7,t8,t9⟩,t10⟩:=ho
 obtain ⟨f1,f2⟩:=zlD (κ:=κ) (ρ:=ρ) ps.toList args vs.toList tm lp.tmps (by simpa using hs) (fun i hi => by simpa [List.getD,czo] using hr i hi) (fun t ht' => by rw [t9]; exact hps t ht') t10
 have hfold:(ps.zip vs).foldl (fun (tmps:Array Value) (q:Tmp × Value) => tmps.setIfInBounds q.1 q.2) lp.tmps = (ps.toList.zip vs.toList).foldl (fun (tmps:Array Value) q => tmps.setIfInBounds q.1 q.2) lp.tmps:=by
  rw [← Array.foldl_toList,Array.toList_zip]
 rw [← hfold] at f1 f2
 refine ⟨b,lp.fn,(ps.zip vs).foldl (fun (tmps:Array Value) (q:Tmp × Value) => tmps.setIfInBounds q.1 q.2) lp.tmps,asg,body,t1,?_,?_⟩
 ·simp [Instr.yield,Instr.getLoop,getObj,Sem.run,t3,t6,t7,t8,hs,hlen]
 refine roundIn_of_wpIn trivial ?_
 have hrel:Rel X ⟨w,κ⟩ mem.length κ ρ τ { tm:=zcE ps.toList args tm,mem:=mem,n:=n,marks:=[],pr:=mem.length }
   { tmps:=(ps.zip vs).foldl (fun (tmps:Array Value) (q:Tmp × Value) => tmps.setIfInBounds q.1 q.2) lp.tmps,defers:=[] } w :=
  ⟨rfl,by rw [f1]; exact t9,f2,fun i => by
   show TokOK τ mem (lk (zcE ps.toList args tm) i) _
   rw [← lk_strip (zfM _ _ _ ht htm) i]
   exact TokOK.strip _,hm,⟨rfl,rfl,rfl,czf _,fun _ _ => rfl⟩,hX,czf _,rfl,KeepX.refl _ _⟩
 have hwp:asg.wpIn (Fence.wide.inRound b) 0 P _ _ w:=zbG hmx hΦ asg _ _ h (some b) (.inr hna) X ⟨w,κ⟩ mem.length κ ρ τ _ w hrel
 refine wpIn_mono hwp ?_
 rintro e a' w' ⟨κ',ρ',τ',st',g1,g2,g3⟩
 cases e with
 | normal =>
  show ∃ w₂,(Instr.beginRound b).run P w' = .ok () w₂ ∧ body.wpIn (Fence.wide.inRound b) 0 P _ a' w₂
  have g3':zly P Φ l mem.length R body st':=g3
  unfold zly at g3'
  split at g3'
  ·rename_i s1 pend1 tm1 n1 ps1 asg1 body1 hl1
   obtain ⟨rfl,hv⟩:=g3'
   obtain ⟨b1,lp1,k1,k2,k3,k4,k5,k6⟩:=g1.setLoop hl1 .busy pend1
   obtain rfl:b1 = b:=by
    have:=g2.agree l b (za9 hl (by simp)) t1
    rw [k1] at this
    exact czK this
   refine ⟨{ w' with heap:=w'.heap.setIfInBounds b1 (.loop { lp1 with state:=.busy,pending:=pend1 }) },?_,?_⟩
   ·simp [Instr.beginRound,Instr.getLoop,getObj,setObj,Sem.run,k2,k3,← k4]
   have hwb:body.wpIn (Fence.wide.inRound b1) 0 P _ a' _:=zbG hmx hΦ body _ _ hv (some b1) (.inr hnb) X ⟨w,κ⟩ mem.length κ' ρ' τ' a' _ k5
   refine wpIn_mono hwb ?_
   rintro e a2 w2 ⟨κ2,ρ2,τ2,st2,q1,q2,q3⟩
   have hfin:∀ (s':LoopState) (j:Option Code) (r:Bool),(s' = if j.isNone then .ready else .done) → r = j.isNone → endB l mem.length R s' j r st2 →
     ∃ v w3,(Instr.endRound b1 j).run P w2 = .ok v w3 ∧ ∃ x κ' ρ' τ' mem' r,Ending.returned v = .returned x ∧ RelM κ' ρ' τ' X mem' w3 ∧ Frm X w w3 ∧ Rep κ' ρ' r x ∧
      Ext mem.length κ ρ τ mem κ' ρ' τ' mem' ∧ mem'.length = mem.length ∧ KeepX X κ κ' ∧ R r mem':=by
    intro s' j r hs' hr' he
    unfold endB at he
    split at he
    ·rename_i s3 pend3 tm3 n3 ps3 asg3 body3 hl3
     obtain ⟨hR,hbel⟩:=he
     obtain ⟨b3,lp3,u1,u2,u3,u4,u5,u6⟩:=q1.setLoop hl3 s' j
     obtain rfl:b3 = b1:=by
      have:=(g2.trans (k6.trans q2)).agree l b1 (za9 hl (by simp)) t1
      rw [u1] at this
      exact czK this
     have hext:=((g2.trans k6).trans q2).trans u6
     have hlen':((st2.mem.set l (AObj.loop s' j tm3 n3 ps3 asg3 body3)).take mem.length).length = mem.length:=by
      have:=q1.prot
      simp; omega
     have q7:Rel X ⟨w,κ⟩ mem.length κ2 ρ2 τ2 { tm:=[],mem:=st2.mem.set l (AObj.loop s' j tm3 n3 ps3 asg3 body3),n:=st2.n,marks:=[],pr:=st2.pr } { a2 with defers:=[] } _ :=
      ⟨rfl,q1.size,fun i => .undef _,fun i => zax rfl,u5.mem,u5.frm,u5.xlt,u5.prot,u5.prm,u5.kx⟩
     have hweak:zrn { tm:=[],mem:=st2.mem.set l (AObj.loop s' j tm3 n3 ps3 asg3 body3),n:=st2.n,marks:=[],pr:=st2.pr }
       { tm:=[],mem:=(st2.mem.set l (AObj.loop s' j tm3 n3 ps3 asg3 body3)).take mem.length,n:=st2.n,marks:=[],pr:=st2.pr }:=by
      refine ⟨rfl,rfl,rfl,by rw [hlen']; exact Nat.le_of_eq q1.prm,⟨(st2.mem.set l (AObj.loop s' j tm3 n3 ps3 asg3 body3)).drop mem.length,(List.take_append_drop _ _).symm⟩,fun q hq => (by cases hq),fun o ho => (by dsimp only at ho ⊢; rw [hlen']; exact hbel o ho),fun l hl => (by cases hl)⟩
     obtain ⟨v1,v2⟩:=q7.weak hweak
     simp only [hlen'] at v1 v2
     refine ⟨.bool r,{ w2 with heap:=w2.heap.setIfInBounds b3 (.loop { lp3 with state:=s',pending:=j }) },?_,.bool r,κ2,_,τ2,_,.bool r,rfl,v1.mem,v1.frm,.bool r,hext.trans v2,hlen',q1.kx,hR⟩
     have hnone:(j.isNone = true) ∨ (j.isNone = false):=by cases j <;> simp
     rcases hnone with hj | hj <;> simp [Instr.endRound,Instr.getLoop,getObj,setObj,Sem.run,u2,hr',hs',hj]
    ·exact he.elim
   cases e with
   | normal => exact hfin .ready none true rfl rfl q3
   | ret => exact hfin .done (some .ret) false rfl rfl q3
   | exit id => exact hfin .done (some (.exit id)) false rfl rfl q3
   | _ => exact q3.elim
  ·exact g3'.elim
 | _ => exact g3.elim
end
end Go.Fs
namespace Go.Fs
section
variable {P:Program}
theorem zdS (a:List Int):zab (a.map (AV.int .i64)) = some a:=by
 induction a with
 | nil => rfl
 | cons x a ih => simp [zab,ih]
theorem zgv {e:TypeId} {q:IntKind} (h:P.underlying e = some (.int q)) (em:Bool) (m:Nat) (w:World) (k:IntKind) (z:Int):(Instr.checkKey em (m + 1) e (.int k z)).run P w = .ok () w:=by
 simp [Instr.checkKey,run_underlying h]
/-! Keys that are structs of integers and of arrays of integers. -/
theorem zli (em:Bool) (m:Nat) (w:World) {t e:TypeId} {n:Nat} {q:IntKind} (hu:P.underlying t = some (.array n e)) (h1:zbu P e = some 1) (hue:P.underlying e = some (.int q)) {vs:Array Value}
  (hv:∀ j,j < vs.size → ∃ z,vs.getD j Go.undef = .int .i64 z) (hn:n ≤ vs.size):(Instr.checkKey em (m + 2) t (.agg vs)).run P w = .ok PUnit.unit w:=by
 rw [Instr.checkKey]
 simp only [Sem.run_bind,run_underlying hu,Result.andThen_ok]
 simp only [Std.Legacy.Range.forIn_eq_forIn_range',Std.Legacy.Range.size,Nat.sub_zero,Nat.add_one_sub_one,Nat.div_one]
 have key:∀ (is:List Nat),(∀ i ∈ is,i < vs.size) → (forIn is PUnit.unit (fun i _ => do
   Instr.checkKey em (m + 1) e (← part e vs (i * (← sizeOf e)))
   pure (ForInStep.yield PUnit.unit)):Sem PUnit).run P w = .ok PUnit.unit w:=by
  intro is
  induction is with
  | nil => intro _; simp
  | cons i is ih =>
   intro hlt
   have hi:=hlt i (by simp)
   obtain ⟨z,hz⟩:=hv i hi
   have e1:(part e vs i).run P w = .ok (.int .i64 z) w:=by
    rw [zbE hue hi,hz]
   simp only [List.forIn_cons,Sem.run_bind,zaR h1,Nat.mul_one,Result.andThen_ok,e1,zgv hue,Sem.run_pure]
   exact ih (fun j hj => hlt j (by simp [hj]))
 have hr:=key (List.range' 0 n) (fun i hi => by have:=List.mem_range'_1.1 hi; omega)
 rw [hr]
 rfl
def zhp (P:Program) (fs:List Field):Bool:=fs.all fun f => match P.underlying f.type with
 | some (.struct _) => false
 | _ => true
theorem zen (em:Bool) (m:Nat) (w:World) {vs:Array Value} (hv:∀ j,j < vs.size → ∃ z,vs.getD j Go.undef = .int .i64 z):∀ (fs:List Field) (i n:Nat),zch P i fs = some n → n ≤ vs.size → zhp P fs = true → i ≤ n ∧
  (forIn fs PUnit.unit (fun f _ =>
   if f.name ≠ "_" then do
    let x ← part f.type vs f.offset
    Instr.checkKey em (m + 2) f.type x
    pure (ForInStep.yield PUnit.unit)
   else pure (ForInStep.yield PUnit.unit)):Sem PUnit).run P w = .ok PUnit.unit w
 | [],i,n,hf,_,_ => by
  simp [zch] at hf
  exact ⟨by omega,by simp⟩
 | f :: r,i,n,hf,hn,hns => by
  unfold zch at hf
  unfold zhp at hns
  rw [List.all_cons,czl] at hns
  obtain ⟨hns1,hns2⟩:=hns
  split at hf
  ·rename_i hfo
   obtain ⟨hnm,rfl⟩:=hfo
   split at hf
   ·rename_i k hm
    obtain ⟨hle,ih⟩:=zen em m w hv r (f.offset + k) n hf hn hns2
    refine ⟨by omega,?_⟩
    have hq:∃ x,(part f.type vs f.offset).run P w = .ok x w ∧ (Instr.checkKey em (m + 2) f.type x).run P w = .ok PUnit.unit w:=by
     rcases zi0 hm with ⟨rfl,q,hk⟩ | ⟨_,fs',hu,_⟩ | ⟨e,q,i',hu,hsz,hue,hi,hc⟩
     ·obtain ⟨z,hz⟩:=hv f.offset (by omega)
      exact ⟨_,by rw [zbE hk (by omega),hz],zgv hk em (m + 1) w .i64 z⟩
     ·rw [hu] at hns1; cases hns1
     ·have hagg:zaT P f.type = some true:=by simp [zaT,hu,aggD]
      have h1:zbu P e = some 1:=by
       unfold zbu
       rw [hi]
       simp [Program.cellsOf,hi] at hc
       simp [hc]
      refine ⟨_,zcn hagg hsz (by omega),zli em m w hu h1 hue (fun j hj => ?_) (by simp; omega)⟩
      have hj':j < k:=by simp at hj; omega
      rw [zeS _ _ _ _ (by omega) hj']
      exact hv _ (by omega)
    obtain ⟨x,g1,g2⟩:=hq
    simp only [List.forIn_cons,Sem.run_bind,hnm,ne_eq,not_false_eq_true,if_true,Result.andThen_ok,g1,g2,Sem.run_pure]
    exact ih
   ·cases hf
  ·cases hf
theorem zqE {k:TypeId} {n:Nat} (h:zaC P k = some n) (w:World) (a b:List Int) (ha:a.length = n) (hb:b.length = n) :
  (Op.equal k (zer a) (zer b)).run P w = .ok (decide (a = b)) w:=by
 have h1:eqA P k (a.map (AV.int .i64)) (b.map (AV.int .i64)) = some (a.length = n ∧ b.length = n,decide (a = b)):=by
  unfold eqA
  rw [h,zdS,zdS]
 have ra:=zgP (κ:=⟨fun _ _ => none,fun _ => none⟩) (ρ:=noLc) a
 have rb:=zgP (κ:=⟨fun _ _ => none,fun _ => none⟩) (ρ:=noLc) b
 obtain ⟨va,e1,e2,e3⟩:=Rep.agg_inv ra
 obtain ⟨vb,g1,g2,g3⟩:=Rep.agg_inv rb
 rw [e1,g1]
 exact (zhP (w:=w) h1 ⟨ha,hb⟩ e2 e3 g2 g3).2
theorem zeU {k:TypeId} {n:Nat} (h:zaC P k = some n) (w:World) (a:List Int) (ha:a.length = n):∀ (es:List MapEntry) (i:Nat),
  (∀ e ∈ es,∃ b:List Int,b.length = n ∧ e.key = zer b) →
  (Instr.findAsking k (zer a) es i).run P w = .ok ((es.findIdx? fun e => decide (znE e.key = a)).map fun j => (i + j,(es.getD j default).val)) w
 | [],i,_ => by simp [Instr.findAsking]
 | e :: es,i,hes => by
  obtain ⟨b,hb,hk⟩:=hes e (by simp)
  have ih:=zeU h w a ha es (i + 1) (fun e' he' => hes e' (by simp [he']))
  simp only [Instr.findAsking,Sem.run_bind,hk,zqE h w a b ha hb,Result.andThen_ok,List.findIdx?_cons,zi3]
  by_cases e':a = b
  ·subst e'
   simp
  ·have e2:¬ b = a:=fun q => e' q.symm
   simp only [e',e2,decide_false,czp,if_false,ih]
   cases es.findIdx? (fun e => decide (znE e.key = a)) with
   | none => rfl
   | some j => simp; omega
theorem zqq {k:TypeId} {n:Nat} {fs:Array Field} (hu0:P.underlying k = some (.struct fs)) (h:zg0 P k = some n) (h':zaC P k = some n) (hns:zhp P fs.toList = true):zrg P k n:=by
 refine ⟨fun w em a ha => ?_,fun w a es ha hes => ?_,fun w a ha => ?_⟩
 ·unfold zg0 at h
  split at h
  ·rw [hu0] at h
   simp only at h
   show (Instr.checkKey em (9999 + 1) k (.agg (a.map (Value.int .i64)).toArray)).run P w = _
   rw [Instr.checkKey]
   simp only [Sem.run_bind,run_underlying hu0,Result.andThen_ok]
   rw [← Array.forIn_toList]
   have hj:∀ j,j < (a.map (Value.int .i64)).toArray.size → ∃ z,(a.map (Value.int .i64)).toArray.getD j Go.undef = .int .i64 z:=fun j hj => by
    have hj':j < a.length:=by simpa using hj
    exact ⟨a[j],by simp [Array.getD,hj']⟩
   have hr:=(zen em 9997 w (vs:=(a.map (Value.int .i64)).toArray) hj fs.toList 0 n h (by simp [ha]) hns).2
   rw [hr]
   rfl
  ·cases h
 ·have hfa:=zeU h' w a ha es 0 hes
  simp only [Nat.zero_add] at hfa
  unfold Instr.findKey
  simp only [Sem.run_bind,run_underlying hu0,Result.andThen_ok]
  cases es with
  | nil => simp [Instr.findNow]
  | cons e es =>
   have:Instr.findNow (.struct fs) (zer a) (e :: es) 0 = none:=by simp [Instr.findNow,Instr.sameNow]
   rw [this]
   exact hfa
 ·have hs:Instr.sameBits 10000 (zer a) (zer a) = true:=by
   show Instr.sameBits (9999 + 1) (.agg _) (.agg _) = true
   simp only [Instr.sameBits,beq_self_eq_true,Bool.true_and,czG]
   intro q hq
   have:∀ (l:List Int) (q:Value × Value),q ∈ ((l.map (Value.int .i64)).zip (l.map (Value.int .i64))) → Instr.sameBits 9999 q.1 q.2 = true:=by
    intro l
    induction l with
    | nil => intro q hq; simp at hq
    | cons x l ih =>
     intro q hq
     simp only [czb,List.zip_cons_cons,czn] at hq
     rcases hq with rfl | hq
     ·show Instr.sameBits (9998 + 1) (.int .i64 x) (.int .i64 x) = true
      simp [Instr.sameBits]
     ·exact ih q hq
   exact this a q (by simpa [zer] using hq)
  simp [Instr.keyThatStays,hs]
end
end Go.Fs
namespace Go.Fs
/-! Values that hold no reference to a mutable object. -/
def za8:Nat → AV → Prop
 | 0,_ => False
 | n + 1,.agg cs => ∀ c ∈ cs,za8 n c
 | n + 1,.tup cs => ∀ c ∈ cs,za8 n c
 | n + 1,.sl es tk => tk = .no ∧ ∀ e ∈ es,∀ c ∈ e,za8 n c
 | n + 1,.ref es _ => ∀ c ∈ es,za8 n c
 | n + 1,.mpr _ vs => ∀ c ∈ vs,za8 n c
 | n + 1,.fn _ a b => (∀ c ∈ a,za8 n c) ∧ ∀ c ∈ b,za8 n c
 | _,.int _ _ => True
 | _,.bool _ => True
 | _,.nilp => True
 | _,.nilf => True
 | _,.undef => True
 | _,_ => False
theorem zbO {α:Type} {f:α → α} {l:List α} (h:∀ x ∈ l,f x = x):l.map f = l:=by
 conv => rhs; rw [← List.map_id l]
 exact List.map_congr_left h
theorem zhk {mem:List AObj}:∀ (n m:Nat) (v:AV),za8 n v → n ≤ m → zbk m mem v = v
 | 0,_,_,h,_ => by simp [za8] at h
 | n + 1,0,_,_,h => by omega
 | n + 1,m + 1,v,h,hm => by
  have ih:∀ c,za8 n c → zbk m mem c = c:=fun c hc => zhk n m c hc (by omega)
  cases v <;> simp only [za8] at h <;> simp only [zbk]
  ·rw [zbO fun c hc => ih c (h c hc)]
  ·rw [zbO fun c hc => ih c (h c hc)]
  ·rw [h.1,zbO fun e he => zbO fun c hc => ih c (h.2 e he c hc)]
  ·rw [zbO fun c hc => ih c (h c hc)]
  ·rw [zbO fun c hc => ih c (h.1 c hc),zbO fun c hc => ih c (h.2 c hc)]
  ·rw [zbO fun c hc => ih c (h c hc)]
theorem zgS:∀ (n m:Nat) (v:AV),za8 n v → n ≤ m → imm m v
 | 0,_,_,h,_ => by simp [za8] at h
 | n + 1,0,_,_,h => by omega
 | n + 1,m + 1,v,h,hm => by
  have ih:∀ c,za8 n c → imm m c:=fun c hc => zgS n m c hc (by omega)
  cases v <;> simp only [za8] at h <;> simp only [imm]
  ·exact fun c hc => ih c (h c hc)
  ·exact fun c hc => ih c (h c hc)
  ·exact fun e he c hc => ih c (h.2 e he c hc)
  ·exact fun c hc => ih c (h c hc)
  ·exact ⟨fun c hc => ih c (h.1 c hc),fun c hc => ih c (h.2 c hc)⟩
  ·exact fun c hc => ih c (h c hc)
theorem ze3 {k:Nat}:∀ (n m:Nat) (v:AV),za8 n v → n ≤ m → bel k m v
 | 0,_,_,h,_ => by simp [za8] at h
 | n + 1,0,_,_,h => by omega
 | n + 1,m + 1,v,h,hm => by
  have ih:∀ c,za8 n c → bel k m c:=fun c hc => ze3 n m c hc (by omega)
  cases v <;> simp only [za8] at h <;> simp only [bel]
  ·exact fun c hc => ih c (h c hc)
  ·exact fun c hc => ih c (h c hc)
  ·rw [h.1]; exact ⟨fun e he c hc => ih c (h.2 e he c hc),trivial⟩
  ·exact fun c hc => ih c (h c hc)
  ·exact ⟨fun c hc => ih c (h.1 c hc),fun c hc => ih c (h.2 c hc)⟩
  ·exact fun c hc => ih c (h c hc)
/-! Typed data. -/
class Enc (α:Type) where
 enc:α → AV
 dec:AV → Option α
 law:∀ v x,dec v = some x → v = enc x
 dep:Nat
 ok:∀ x,za8 dep (enc x)
class EncE (α:Type) where
 cs:α → List AV
 dcs:List AV → Option α
 law:∀ v x,dcs v = some x → v = cs x
 inv:∀ x,dcs (cs x) = some x
 dep:Nat
 sz:Nat
 len:∀ x,(cs x).length = sz
 ok:∀ x,∀ c ∈ cs x,za8 dep c
def zfm {α:Type} [EncE α]:List (List AV) → Option (List α)
 | [] => some []
 | e :: es => match EncE.dcs e,zfm es with
  | some x,some l => some (x :: l)
  | _,_ => none
theorem zoJ {α:Type} [EncE α] (l:List α):zfm (l.map EncE.cs) = some l:=by
 induction l with
 | nil => rfl
 | cons x l ih => simp only [czb,zfm,EncE.inv,ih]
theorem zcJ {α:Type} [EncE α]:∀ (es:List (List AV)) (l:List α),zfm es = some l → es = l.map EncE.cs
 | [],l,h => by simp only [zfm,czg] at h; subst h; rfl
 | e :: es,l,h => by
  unfold zfm at h
  split at h
  ·rename_i x r h1 h2
   cases h
   rw [EncE.law e x h1,zcJ es r h2]
   rfl
  ·cases h
theorem znD {α:Type} [EncE α] (l:List α) (es:List (List AV)):zfm (l.map EncE.cs ++ es) = (zfm es).map (l ++ ·):=by
 induction l with
 | nil => simp only [List.map_nil,List.nil_append]; cases zfm (α:=α) es <;> rfl
 | cons x l ih =>
  simp only [czb,czs,zfm,EncE.inv,ih]
  cases zfm (α:=α) es <;> rfl
instance {α:Type} [EncE α]:Enc (List α) where
 enc l:=.sl (l.map EncE.cs) .no
 dec
  | .sl es .no => zfm es
  | _ => none
 law v x h:=by
  split at h
  ·rw [zcJ _ _ h]
  ·cases h
 dep:=EncE.dep α + 1
 ok x:=by
  refine ⟨rfl,fun e he c hc => ?_⟩
  obtain ⟨y,_,rfl⟩:=czx.1 he
  exact EncE.ok y c hc
instance {α:Type} [EncE α]:EncE (List α) where
 cs l:=[.sl (l.map EncE.cs) .no]
 dcs
  | [.sl es .no] => zfm es
  | _ => none
 law v x h:=by
  split at h
  ·rw [zcJ _ _ h]
  ·cases h
 inv x:=zoJ x
 dep:=EncE.dep α + 1
 sz:=1
 len _:=rfl
 ok x c hc:=by
  simp only [czn,czk,or_false] at hc
  subst hc
  refine ⟨rfl,fun e he c hc => ?_⟩
  obtain ⟨y,_,rfl⟩:=czx.1 he
  exact EncE.ok y c hc
instance:Enc Int where
 enc n:=.int .i64 n
 dec
  | .int .i64 n => some n
  | _ => none
 law v x h:=by
  split at h
  ·cases h; rfl
  ·cases h
 dep:=1
 ok _:=trivial
instance:EncE Int where
 cs n:=[.int .i64 n]
 dcs
  | [.int .i64 n] => some n
  | _ => none
 law v x h:=by
  split at h
  ·cases h; rfl
  ·cases h
 inv _:=rfl
 dep:=1
 sz:=1
 len _:=rfl
 ok x c hc:=by simp only [czn,czk,or_false] at hc; subst hc; trivial
instance:Enc Bool where
 enc b:=.bool b
 dec
  | .bool b => some b
  | _ => none
 law v x h:=by
  split at h
  ·cases h; rfl
  ·cases h
 dep:=1
 ok _:=trivial
instance:EncE Bool where
 cs n:=[.bool n]
 dcs
  | [.bool n] => some n
  | _ => none
 law v x h:=by
  split at h
  ·cases h; rfl
  ·cases h
 inv _:=rfl
 dep:=1
 sz:=1
 len _:=rfl
 ok x c hc:=by simp only [czn,czk,or_false] at hc; subst hc; trivial
theorem zjT {α:Type} [EncE α] (l:List α):Enc.enc l = .sl (l.map EncE.cs) .no:=rfl
theorem zhR (n:Int):Enc.enc n = .int .i64 n:=rfl
theorem zjU (n:Bool):Enc.enc n = .bool n:=rfl
theorem dec_list {α:Type} [EncE α] (es:List (List AV)):(Enc.dec (.sl es .no):Option (List α)) = zfm es:=rfl
theorem dec_int (n:Int):(Enc.dec (.int .i64 n):Option Int) = some n:=rfl
theorem dec_bool (n:Bool):(Enc.dec (.bool n):Option Bool) = some n:=rfl
theorem zlf (n:Int):EncE.cs n = [.int .i64 n]:=rfl
theorem znH (n:Bool):EncE.cs n = [.bool n]:=rfl
theorem znG {α:Type} [EncE α] (l:List α):EncE.cs l = [.sl (l.map EncE.cs) .no]:=rfl
theorem dcs_int (n:Int):(EncE.dcs [.int .i64 n]:Option Int) = some n:=rfl
theorem dcs_list {α:Type} [EncE α] (es:List (List AV)):(EncE.dcs [.sl es .no]:Option (List α)) = zfm es:=rfl
theorem znB:EncE.dep Int = 1:=rfl
theorem zjY:EncE.dep Bool = 1:=rfl
theorem zjX {α:Type} [EncE α]:EncE.dep (List α) = EncE.dep α + 1:=rfl
theorem sz_int:EncE.sz Int = 1:=rfl
theorem sz_bool:EncE.sz Bool = 1:=rfl
theorem sz_list {α:Type} [EncE α]:EncE.sz (List α) = 1:=rfl
theorem decL_nil {α:Type} [EncE α]:(zfm []:Option (List α)) = some []:=rfl
theorem decL_cons {α:Type} [EncE α] (e:List AV) (es:List (List AV)):(zfm (e :: es):Option (List α)) = match (EncE.dcs e:Option α),(zfm es:Option (List α)) with
  | some x,some l => some (x :: l)
  | _,_ => none:=rfl
section
variable {α:Type} [EncE α] {mem:List AObj} {n k:Nat}
theorem zjo (l:List α) (tk:Tk) (h:EncE.dep α ≤ n):zbk (n + 1) mem (.sl (l.map EncE.cs) tk) = .sl (l.map EncE.cs) .no:=by
 simp only [zbk]
 congr 1
 exact zbO fun e he => zbO fun c hc => by
  obtain ⟨y,_,rfl⟩:=czx.1 he
  exact zhk _ _ _ (EncE.ok y c hc) h
theorem imm_map (l:List α) (tk:Tk) (h:EncE.dep α ≤ n):imm (n + 1) (.sl (l.map EncE.cs) tk) = True:=by
 simp only [imm,eq_iff_iff,iff_true]
 exact fun e he c hc => by
  obtain ⟨y,_,rfl⟩:=czx.1 he
  exact zgS _ _ _ (EncE.ok y c hc) h
theorem bel_map (l:List α) (h:EncE.dep α ≤ n):bel k (n + 1) (.sl (l.map EncE.cs) .no) = True:=by
 simp only [bel,eq_iff_iff,iff_true]
 exact ⟨fun e he c hc => by
  obtain ⟨y,_,rfl⟩:=czx.1 he
  exact ze3 _ _ _ (EncE.ok y c hc) h,trivial⟩
theorem zoW (l:List α) (h:EncE.dep α ≤ n):bel k (n + 1) (.sl (l.map EncE.cs) .full) = True:=by
 simp only [bel,eq_iff_iff,iff_true]
 exact ⟨fun e he c hc => by
  obtain ⟨y,_,rfl⟩:=czx.1 he
  exact ze3 _ _ _ (EncE.ok y c hc) h,trivial⟩
theorem zfg (l:List α) (j:Nat) (h:EncE.dep α ≤ n):bel k (n + 1) (.sl (l.map EncE.cs) (.own j)) = (j < k):=by
 simp only [bel,eq_iff_iff]
 exact ⟨fun q => q.2,fun q => ⟨fun e he c hc => by
  obtain ⟨y,_,rfl⟩:=czx.1 he
  exact ze3 _ _ _ (EncE.ok y c hc) h,q⟩⟩
theorem len_map (l:List α):(∀ x ∈ l.map EncE.cs,x.length = n) = (l = [] ∨ EncE.sz α = n):=by
 simp only [czx,forall_exists_index,and_imp,forall_apply_eq_imp_iff₂,EncE.len,eq_iff_iff]
 cases l with
 | nil => simp
 | cons x l => simp; intro h _ _; exact h
end
section
variable {k n j o:Nat} {mem:List AObj}
theorem zlp:bel k (n + 1) .undef = True:=rfl
theorem bel_int (a:IntKind) (b:Int):bel k (n + 1) (.int a b) = True:=rfl
theorem zlr (b:Bool):bel k (n + 1) (.bool b) = True:=rfl
theorem zoU:bel k (n + 1) .nilp = True:=rfl
theorem zoV:bel k (n + 1) .nilf = True:=rfl
theorem znW:bel k (n + 1) (.ptr j o) = (j < k):=rfl
theorem znX (a b:Nat):bel k (n + 1) (.arr j o a b) = (j < k):=rfl
theorem bel_mp:bel k (n + 1) (.mp j) = (j < k):=rfl
theorem znT:bel k (n + 1) (.yld j) = (j < k):=rfl
theorem bel_agg (cs:List AV):bel k (n + 1) (.agg cs) = ∀ c ∈ cs,bel k n c:=rfl
theorem znU (cs:List AV):bel k (n + 1) (.tup cs) = ∀ c ∈ cs,bel k n c:=rfl
theorem znV (cs:List AV):bel k (n + 1) (.ref cs o) = ∀ c ∈ cs,bel k n c:=rfl
theorem zoT (g:Bool) (v:AV):bel k (n + 1) (.onlyIf g v) = bel k n v:=rfl
theorem bel_mpr (a:List (List Int)) (cs:List AV):bel k (n + 1) (.mpr a cs) = ∀ c ∈ cs,bel k n c:=rfl
theorem bel_fn (f:Fn) (a b:List AV):bel k (n + 1) (.fn f a b) = ((∀ c ∈ a,bel k n c) ∧ ∀ c ∈ b,bel k n c):=rfl
theorem zi9:bel k (n + 1) (.sl [] .no) = True:=by simp [bel]
theorem zh1:bel k (n + 1) (.sl [] .full) = True:=by simp [bel]
theorem zh0:bel k (n + 1) (.sl [] (.own j)) = (j < k):=by simp [bel]
theorem zh2 (e:List AV) (es:List (List AV)) (tk:Tk):bel k (n + 1) (.sl (e :: es) tk) = ((∀ c ∈ e,bel k n c) ∧ bel k (n + 1) (.sl es tk)):=by
 simp only [bel,czn,forall_eq_or_imp,and_assoc]
theorem zja (a b:List (List AV)) (tk:Tk):bel k (n + 1) (.sl (a ++ b) tk) = (bel k (n + 1) (.sl a tk) ∧ bel k (n + 1) (.sl b tk)):=by
 simp only [bel,czv,eq_iff_iff]
 constructor
 ·rintro ⟨h,h2⟩; exact ⟨⟨fun e he => h e (.inl he),h2⟩,fun e he => h e (.inr he),h2⟩
 ·rintro ⟨⟨h,h2⟩,h3,_⟩; exact ⟨fun e he => he.elim (h e) (h3 e),h2⟩
theorem zmE (a b:List (List AV)) (tk:Tk):zbk (n + 1) mem (.sl (a ++ b) tk) = match zbk (n + 1) mem (.sl a tk),zbk (n + 1) mem (.sl b tk) with
  | .sl x _,.sl y _ => .sl (x ++ y) .no
  | _,_ => .undef:=by simp only [zbk,List.map_append]
theorem zqv (a b:List (List AV)) (tk:Tk):imm (n + 1) (.sl (a ++ b) tk) = (imm (n + 1) (.sl a tk) ∧ imm (n + 1) (.sl b tk)):=by
 simp only [imm,czv,eq_iff_iff]
 exact ⟨fun h => ⟨fun e he => h e (.inl he),fun e he => h e (.inr he)⟩,fun h e he => he.elim (h.1 e) (h.2 e)⟩
theorem zdd (cs:List AV):zcK k (.cells cs) = ∀ c ∈ cs,bel k 9 c:=rfl
theorem zoY (a b:Nat):zcK k (.tok a b) = True:=rfl
theorem zlv:zcK k .dead = True:=rfl
theorem zf0:zcK k .deferred = True:=rfl
theorem zj3 (a:List (List Int)) (cs:List AV):zcK k (.map a cs) = ∀ c ∈ cs,bel k 9 c:=rfl
theorem zlu (src:AV) (a:Nat) (b:List Nat):zcK k (.iter src a b) = bel k 9 src:=rfl
theorem zlt (a b c d e f g):zcK k (.loop a b c d e f g) = ∀ q ∈ c,bel k 9 q.2:=rfl
theorem zpU:zbk (n + 1) mem .undef = .undef:=rfl
theorem snap_int (a:IntKind) (b:Int):zbk (n + 1) mem (.int a b) = .int a b:=rfl
theorem zpV (b:Bool):zbk (n + 1) mem (.bool b) = .bool b:=rfl
theorem snap_nilp:zbk (n + 1) mem .nilp = .nilp:=rfl
theorem snap_nilf:zbk (n + 1) mem .nilf = .nilf:=rfl
theorem snap_agg (cs:List AV):zbk (n + 1) mem (.agg cs) = .agg (cs.map (zbk n mem)):=rfl
theorem snap_tup (cs:List AV):zbk (n + 1) mem (.tup cs) = .tup (cs.map (zbk n mem)):=rfl
theorem snap_ref (cs:List AV):zbk (n + 1) mem (.ref cs o) = .ref (cs.map (zbk n mem)) o:=rfl
theorem snap_fn (f:Fn) (a b:List AV):zbk (n + 1) mem (.fn f a b) = .fn f (a.map (zbk n mem)) (b.map (zbk n mem)):=rfl
theorem snap_mpr (a:List (List Int)) (cs:List AV):zbk (n + 1) mem (.mpr a cs) = .mpr a (cs.map (zbk n mem)):=rfl
theorem zmD (tk:Tk):zbk (n + 1) mem (.sl [] tk) = .sl [] .no:=rfl
theorem zkw (e:List AV) (es:List (List AV)) (tk:Tk):zbk (n + 1) mem (.sl (e :: es) tk) = match zbk (n + 1) mem (.sl es tk) with
  | .sl fs _ => .sl (e.map (zbk n mem) :: fs) .no
  | v => v:=rfl
theorem snap_ptr (l:Nat):zbk (n + 1) mem (.ptr l o) = match zaa mem l with
  | .cells cs => .ref (cs.map (zbb (zbk n mem) mem)) o
  | _ => .undef:=rfl
theorem snap_arr (l a b:Nat):zbk (n + 1) mem (.arr l o a b) = match zaa mem l with
  | .cells cs => if o + a * b ≤ cs.length then .sl (zb7 b a ((cs.drop o).map (zbb (zbk n mem) mem))) .no else .undef
  | _ => .undef:=rfl
theorem snap_mp (l:Nat):zbk (n + 1) mem (.mp l) = match zaa mem l with
  | .map ks vs => .mpr ks (vs.map (zbk n mem))
  | _ => .undef:=rfl
theorem snap_vec (l a b c d:Nat):zbk (n + 1) mem (.vec l a b c d) = .undef:=rfl
theorem snap_vp (l a b c:Nat):zbk (n + 1) mem (.vp l a b c) = .undef:=rfl
section
variable {f:AV → AV}
theorem zmH:zbb f mem .undef = f .undef:=rfl
theorem snapF_int (a:IntKind) (b:Int):zbb f mem (.int a b) = f (.int a b):=rfl
theorem zmI (b:Bool):zbb f mem (.bool b) = f (.bool b):=rfl
theorem zpY:zbb f mem .nilp = f .nilp:=rfl
theorem zpZ:zbb f mem .nilf = f .nilf:=rfl
theorem snapF_agg (cs:List AV):zbb f mem (.agg cs) = f (.agg cs):=rfl
theorem snapF_tup (cs:List AV):zbb f mem (.tup cs) = f (.tup cs):=rfl
theorem snapF_ref (cs:List AV):zbb f mem (.ref cs o) = f (.ref cs o):=rfl
theorem snapF_fn (g:Fn) (a b:List AV):zbb f mem (.fn g a b) = f (.fn g a b):=rfl
theorem snapF_mpr (a:List (List Int)) (cs:List AV):zbb f mem (.mpr a cs) = f (.mpr a cs):=rfl
theorem snapF_sl (es:List (List AV)) (tk:Tk):zbb f mem (.sl es tk) = f (.sl es tk):=rfl
theorem snapF_ptr (l:Nat):zbb f mem (.ptr l o) = f (.ptr l o):=rfl
theorem snapF_arr (l a b:Nat):zbb f mem (.arr l o a b) = f (.arr l o a b):=rfl
theorem snapF_mp (l:Nat):zbb f mem (.mp l) = f (.mp l):=rfl
theorem snapF_yld (l:Nat):zbb f mem (.yld l) = f (.yld l):=rfl
theorem snapF_vec (l s off len sz:Nat):zbb f mem (.vec l s off len sz) = match zaa mem l with
  | .vec es _ s' => if s = s' then .sl (((es.drop off).take len).map fun e => e.map f) .no else .undef
  | _ => .undef:=rfl
theorem snapF_vp (l s i off:Nat):zbb f mem (.vp l s i off) = match zaa mem l with
  | .vec es _ s' => if s = s' then .ref ((es.getD i []).map f) off else .undef
  | _ => .undef:=rfl
end
theorem snapG_agg (cs:List AV):zcB (n + 1) mem (.agg cs) = .agg (cs.map (zbb (zbk n mem) mem)):=rfl
theorem zmF:zcB n mem (.undef) = zbb (zbk n mem) mem (.undef):=rfl
theorem snapG_int (a:IntKind) (b:Int):zcB n mem (.int a b) = zbb (zbk n mem) mem (.int a b):=rfl
theorem zmG (b:Bool):zcB n mem (.bool b) = zbb (zbk n mem) mem (.bool b):=rfl
theorem zpW:zcB n mem (.nilp) = zbb (zbk n mem) mem (.nilp):=rfl
theorem zpX:zcB n mem (.nilf) = zbb (zbk n mem) mem (.nilf):=rfl
theorem snapG_tup (cs:List AV):zcB n mem (.tup cs) = zbb (zbk n mem) mem (.tup cs):=rfl
theorem snapG_ref (cs:List AV):zcB n mem (.ref cs o) = zbb (zbk n mem) mem (.ref cs o):=rfl
theorem snapG_fn (g:Fn) (a b:List AV):zcB n mem (.fn g a b) = zbb (zbk n mem) mem (.fn g a b):=rfl
theorem snapG_mpr (a:List (List Int)) (cs:List AV):zcB n mem (.mpr a cs) = zbb (zbk n mem) mem (.mpr a cs):=rfl
theorem snapG_sl (es:List (List AV)) (tk:Tk):zcB n mem (.sl es tk) = zbb (zbk n mem) mem (.sl es tk):=rfl
theorem snapG_ptr (l:Nat):zcB n mem (.ptr l o) = zbb (zbk n mem) mem (.ptr l o):=rfl
theorem snapG_arr (l a b:Nat):zcB n mem (.arr l o a b) = zbb (zbk n mem) mem (.arr l o a b):=rfl
theorem snapG_mp (l:Nat):zcB n mem (.mp l) = zbb (zbk n mem) mem (.mp l):=rfl
theorem snapG_yld (l:Nat):zcB n mem (.yld l) = zbb (zbk n mem) mem (.yld l):=rfl
theorem snapG_vec (l s off len sz:Nat):zcB n mem (.vec l s off len sz) = zbb (zbk n mem) mem (.vec l s off len sz):=rfl
theorem snapG_vp (l s i off:Nat):zcB n mem (.vp l s i off) = zbb (zbk n mem) mem (.vp l s i off):=rfl
theorem all_map {α:Type} [EncE α] (l:List α) (h:EncE.dep α ≤ n):(l.map EncE.cs).map (fun e => e.map (zbk n mem)) = l.map EncE.cs :=
 zbO fun e he => zbO fun c hc => by
  obtain ⟨y,_,rfl⟩:=czx.1 he
  exact zhk _ _ _ (EncE.ok y c hc) h
theorem bel_vec (a b c d:Nat):bel k (n + 1) (.vec j a b c d) = (j < k):=rfl
theorem bel_vp (a b c:Nat):bel k (n + 1) (.vp j a b c) = (j < k):=rfl
theorem zls {α:Type} [EncE α] (l:List α) (sz s:Nat) (h:EncE.dep α ≤ 9):zcK k (.vec (l.map EncE.cs) sz s) = True:=by
 simp only [zcK,eq_iff_iff,iff_true]
 exact fun e he c hc => by
  obtain ⟨y,_,rfl⟩:=czx.1 he
  exact ze3 _ _ _ (EncE.ok y c hc) h
theorem zoX (es:List (List AV)) (sz s:Nat):zcK k (.vec es sz s) = ∀ e ∈ es,∀ c ∈ e,bel k 9 c:=rfl
theorem imm_vec (l a b c d:Nat):imm (n + 1) (.vec l a b c d) = False:=rfl
theorem imm_vp (l a b c:Nat):imm (n + 1) (.vp l a b c) = False:=rfl
theorem imm_undef:imm (n + 1) .undef = True:=rfl
theorem imm_int (a:IntKind) (b:Int):imm (n + 1) (.int a b) = True:=rfl
theorem imm_boolv (b:Bool):imm (n + 1) (.bool b) = True:=rfl
theorem imm_nilp:imm (n + 1) .nilp = True:=rfl
theorem imm_nilf:imm (n + 1) .nilf = True:=rfl
theorem imm_agg (cs:List AV):imm (n + 1) (.agg cs) = ∀ c ∈ cs,imm n c:=rfl
theorem imm_tup (cs:List AV):imm (n + 1) (.tup cs) = ∀ c ∈ cs,imm n c:=rfl
theorem imm_ref (cs:List AV):imm (n + 1) (.ref cs o) = ∀ c ∈ cs,imm n c:=rfl
theorem imm_fn (f:Fn) (a b:List AV):imm (n + 1) (.fn f a b) = ((∀ c ∈ a,imm n c) ∧ ∀ c ∈ b,imm n c):=rfl
theorem imm_mpr (a:List (List Int)) (cs:List AV):imm (n + 1) (.mpr a cs) = ∀ c ∈ cs,imm n c:=rfl
theorem zqu (tk:Tk):imm (n + 1) (.sl [] tk) = True:=by simp [imm]
theorem znj (e:List AV) (es:List (List AV)) (tk:Tk):imm (n + 1) (.sl (e :: es) tk) = ((∀ c ∈ e,imm n c) ∧ imm (n + 1) (.sl es tk)):=by
 simp only [imm,czn,forall_eq_or_imp]
theorem imm_ptr (l:Nat):imm (n + 1) (.ptr l o) = False:=rfl
theorem imm_arr (l a b:Nat):imm (n + 1) (.arr l o a b) = False:=rfl
theorem imm_mp (l:Nat):imm (n + 1) (.mp l) = False:=rfl
end
/-! Contracts at hand, on typed data. -/
def zat (g:FuncId) (s:List AV → Option (Prop × AV)) (Φ:zay):zay:=fun g' => if g' = g then some s else Φ g'
theorem zah {P:Program} {g:FuncId} {s:List AV → Option (Prop × AV)} {Φ:zay} (hs:∀ args p r,s args = some (p,r) → p → zie P g args r) (hΦ:zam P Φ):zam P (zat g s Φ):=by
 intro g' s' args p r h h2 hp
 unfold zat at h
 split at h
 ·rename_i e
  subst e
  cases h
  exact hs args p r h2 hp
 ·exact hΦ g' s' args p r h h2 hp
theorem zn1 (g:FuncId) (s:List AV → Option (Prop × AV)) (Φ:zay) (g':FuncId):zat g s Φ g' = if g' = g then some s else Φ g':=rfl
def zmY:zay:=fun _ => none
theorem zqf (P:Program):zam P zmY:=by intro g s args p r h; cases h
def zif (ds:List Nat) (Φ:zay):zay:=fun g =>
 if g = 4000000000 then some (fun args => match args with
  | [.int _ n] => if n.toNat ∈ ds then some (False,.undef) else none
  | _ => none) else Φ g
theorem zfo {P:Program} {ds:List Nat} {Φ:zay} (h:zam P Φ):zam P (zif ds Φ):=by
 intro g s args p r hg hs hp
 unfold zif at hg
 split at hg
 ·cases hg
  dsimp only at hs
  split at hs
  ·split at hs
   ·cases hs; exact hp.elim
   ·cases hs
  ·cases hs
 ·exact h g s args p r hg hs hp
theorem zno (Φ:zay):zaw Φ none = none:=rfl
theorem ziq (d:Option Nat):zaw zmY d = none:=by cases d <;> rfl
theorem zbK (ds:List Nat) (Φ:zay) (d:Nat):zaw (zif ds Φ) (some d) = if d ∈ ds then some d else none:=by
 unfold zaw zif
 simp only [if_true,czF]
 split <;> simp
theorem zag {g:FuncId} {s:List AV → Option (Prop × AV)} {Φ:zay} (h:g ≠ 4000000000) (d:Option Nat):zaw (zat g s Φ) d = zaw Φ d:=by
 cases d with
 | none => rfl
 | some d =>
  unfold zaw zat
  rw [if_neg (fun e => h e.symm)]
def zjV (g:FuncId) (Φ:zay):zay:=fun g' => if g' = g then none else Φ g'
theorem znp {g:FuncId} {Φ:zay} (h:g ≠ 4000000000) (d:Option Nat):zaw (zjV g Φ) d = zaw Φ d:=by
 cases d with
 | none => rfl
 | some d =>
  unfold zaw zjV
  rw [if_neg (fun e => h e.symm)]
def spec0 {ρ:Type} [Enc ρ] (f:ρ):List AV → Option (Prop × AV)
 | [] => some (True,Enc.enc f)
 | _ => none
def zbN {α ρ:Type} [Enc α] [Enc ρ] (pre:α → Prop) (f:α → ρ):List AV → Option (Prop × AV)
 | [a] => match (Enc.dec a:Option α) with
  | some a => some (pre a,Enc.enc (f a))
  | _ => none
 | _ => none
def zbD {α β ρ:Type} [Enc α] [Enc β] [Enc ρ] (pre:α → β → Prop) (f:α → β → ρ):List AV → Option (Prop × AV)
 | [a,b] => match (Enc.dec a:Option α),(Enc.dec b:Option β) with
  | some a,some b => some (pre a b,Enc.enc (f a b))
  | _,_ => none
 | _ => none
def zgE {α β γ ρ:Type} [Enc α] [Enc β] [Enc γ] [Enc ρ] (pre:α → β → γ → Prop) (f:α → β → γ → ρ):List AV → Option (Prop × AV)
 | [a,b,c] => match (Enc.dec a:Option α),(Enc.dec b:Option β),(Enc.dec c:Option γ) with
  | some a,some b,some c => some (pre a b c,Enc.enc (f a b c))
  | _,_,_ => none
 | _ => none
def zpS {α β γ δ ρ:Type} [Enc α] [Enc β] [Enc γ] [Enc δ] [Enc ρ] (pre:α → β → γ → δ → Prop) (f:α → β → γ → δ → ρ):List AV → Option (Prop × AV)
 | [a,b,c,d] => match (Enc.dec a:Option α),(Enc.dec b:Option β),(Enc.dec c:Option γ),(Enc.dec d:Option δ) with
  | some a,some b,some c,some d => some (pre a b c d,Enc.enc (f a b c d))
  | _,_,_,_ => none
 | _ => none
def spec5 {α β γ δ ε ρ:Type} [Enc α] [Enc β] [Enc γ] [Enc δ] [Enc ε] [Enc ρ] (pre:α → β → γ → δ → ε → Prop) (f:α → β → γ → δ → ε → ρ):List AV → Option (Prop × AV)
 | [a,b,c,d,e] => match (Enc.dec a:Option α),(Enc.dec b:Option β),(Enc.dec c:Option γ),(Enc.dec d:Option δ),(Enc.dec e:Option ε) with
  | some a,some b,some c,some d,some e => some (pre a b c d e,Enc.enc (f a b c d e))
  | _,_,_,_,_ => none
 | _ => none
theorem pure_frsh:∀ {n:Nat} {v:AV},za8 n v → v.frsh = none
 | 0,v,h => by simp [za8] at h
 | n + 1,v,h => by
  cases v <;> simp only [AV.frsh]
  rename_i es tk
  have:=h.1
  subst this
  rfl
theorem zeY {P:Program} {g:FuncId} {args:List AV} {ρ:Type} [Enc ρ] {x:ρ} (h:zaH P g args (· = Enc.enc x)):zie P g args (Enc.enc x) :=
 ⟨h,fun es sz e => by rw [pure_frsh (Enc.ok x)] at e; cases e⟩
def zku {α β:Type} [Enc α] [EncE β] (pre:α → Prop) (f:α → List β):List AV → Option (Prop × AV)
 | [a] => match (Enc.dec a:Option α) with
  | some a => some (pre a,.sl ((f a).map EncE.cs) (.own (EncE.sz β)))
  | _ => none
 | _ => none
theorem callF_P {P:Program} {g:FuncId} {args:List AV} {sz:Nat} {es:List (List AV)} (h:zfD P g args sz es):zie P g args (.sl es (.own sz)):=by
 refine ⟨⟨h.1,fun κ w vs hk hs hr => (h.2 κ w vs hk hs hr).mono ?_⟩,fun es' sz' e => ?_⟩
 ·rintro e w' ⟨x,κ',rfl,h1,h2,_⟩
  exact ⟨x,κ',_,rfl,rfl,h1.sl_tk,h2⟩
 ·simp only [AV.frsh,czg,czh] at e
  obtain ⟨rfl,rfl⟩:=e
  exact h
theorem zkt {P:Program} {g:FuncId} {α β:Type} [Enc α] [EncE β] {pre:α → Prop} {f:α → List β} (h:∀ a,pre a → zfD P g [Enc.enc a] (EncE.sz β) ((f a).map EncE.cs)):∀ args p r,zku pre f args = some (p,r) → p → zie P g args r:=by
 intro args p r hs hp
 unfold zku at hs
 split at hs
 ·split at hs
  ·rename_i a' h1
   cases hs
   rw [Enc.law _ _ h1]; exact callF_P (h _ hp)
  ·cases hs
 ·cases hs
section
variable {P:Program} {g:FuncId} {α β γ δ ε ρ:Type} [Enc α] [Enc β] [Enc γ] [Enc δ] [Enc ε] [Enc ρ]
theorem spec0_ok {f:ρ} (h:zaH P g [] (· = Enc.enc f)):∀ args p r,spec0 f args = some (p,r) → p → zie P g args r:=by
 intro args p r hs hp
 unfold spec0 at hs
 split at hs
 ·cases hs; exact zeY h
 ·cases hs
theorem zaN {pre:α → Prop} {f:α → ρ} (h:∀ a,pre a → zaH P g [Enc.enc a] (· = Enc.enc (f a))):∀ args p r,zbN pre f args = some (p,r) → p → zie P g args r:=by
 intro args p r hs hp
 unfold zbN at hs
 split at hs
 ·split at hs
  ·rename_i a' h1
   cases hs
   rw [Enc.law _ _ h1]; exact zeY (h _ hp)
  ·cases hs
 ·cases hs
theorem zaK {pre:α → β → Prop} {f:α → β → ρ} (h:∀ a b,pre a b → zaH P g [Enc.enc a,Enc.enc b] (· = Enc.enc (f a b))):∀ args p r,zbD pre f args = some (p,r) → p → zie P g args r:=by
 intro args p r hs hp
 unfold zbD at hs
 split at hs
 ·split at hs
  ·rename_i h1 h2
   cases hs
   rw [Enc.law _ _ h1,Enc.law _ _ h2]; exact zeY (h _ _ hp)
  ·cases hs
 ·cases hs
theorem zcY {pre:α → β → γ → Prop} {f:α → β → γ → ρ} (h:∀ a b c,pre a b c → zaH P g [Enc.enc a,Enc.enc b,Enc.enc c] (· = Enc.enc (f a b c))):∀ args p r,zgE pre f args = some (p,r) → p → zie P g args r:=by
 intro args p r hs hp
 unfold zgE at hs
 split at hs
 ·split at hs
  ·rename_i h1 h2 h3
   cases hs
   rw [Enc.law _ _ h1,Enc.law _ _ h2,Enc.law _ _ h3]; exact zeY (h _ _ _ hp)
  ·cases hs
 ·cases hs
theorem zjk {pre:α → β → γ → δ → Prop} {f:α → β → γ → δ → ρ} (h:∀ a b c d,pre a b c d → zaH P g [Enc.enc a,Enc.enc b,Enc.enc c,Enc.enc d] (· = Enc.enc (f a b c d))):∀ args p r,zpS pre f args = some (p,r) → p → zie P g args r:=by
 intro args p r hs hp
 unfold zpS at hs
 split at hs
 ·split at hs
  ·rename_i h1 h2 h3 h4
   cases hs
   rw [Enc.law _ _ h1,Enc.law _ _ h2,Enc.law _ _ h3,Enc.law _ _ h4]; exact zeY (h _ _ _ _ hp)
  ·cases hs
 ·cases hs
end
/-! How vc is computed; a loop's body is left alone. -/
def LoopB (P:Program) (Φ:zay) (c:Code) (Q:QA) (st:St):Prop:=LoopV (vc P Φ c) Q st
section
variable {P:Program} {Φ:zay} {Q:QA} {st:St}
theorem vc_skip:vc P Φ .skip Q st = Q .normal st:=rfl
theorem vc_label (l:Nat):vc P Φ (.label l) Q st = Q .normal st:=rfl
theorem vc_seq (a b:Code):vc P Φ (.seq a b) Q st = vc P Φ a (zaO (vc P Φ b Q) Q) st:=rfl
theorem if_prop (b:Bool) (X Y:Prop):(if b = true then X else Y) = ((b = true → X) ∧ (b = false → Y)):=by
 cases b <;> simp
theorem if_tr (b:Bool) (X:Prop):(if b = true then X else True) = (b = true → X):=by
 cases b <;> simp
theorem if_prop' (b:Bool) (X Y:Prop):(if b = false then X else Y) = ((b = false → X) ∧ (b = true → Y)):=by
 cases b <;> simp
theorem if_tr' (b:Bool) (X:Prop):(if b = false then X else True) = (b = false → X):=by
 cases b <;> simp
theorem vc_cond (c:Operand) (x y:Code):vc P Φ (.cond c x y) Q st = (match (evT st.tm c).un with
  | .bool b => (evT st.tm c).av ∧ (if b = true then vc P Φ x Q st else vc P Φ y Q st)
  | _ => False):=by
 rw [show vc P Φ (.cond c x y) Q st = (match (evT st.tm c).un with
  | .bool b => (evT st.tm c).av ∧ (b = true → vc P Φ x Q st) ∧ (b = false → vc P Φ y Q st)
  | _ => False) from rfl]
 simp only [if_prop]
theorem vcOps_nil (ds:List (Option Tmp)) (K:St → Prop):zcj P Φ ds [] K st = K st:=rfl
theorem zpH (ds:List (Option Tmp)) (o:Oper) (os:List Oper) (K:St → Prop):zcj P Φ ds (o :: os) K st =
  match zcy ds st.tm o with
  | none => False
  | some none => stepA P Φ o (zcj P Φ ds os K) st
  | some (some g) =>
   match zp2 P Φ st o.op with
   | some (p,v) => zbv st.n o.dst ∧ (if g = true then p else True) ∧ zcj P Φ ds os K (st.put o.dst (.onlyIf g v))
   | none => if g = true then zdJ P o (zcj P Φ ds os K) st else (zbv st.n o.dst ∧ zcj P Φ ds os K (st.put o.dst .undef)):=by
 cases hg:zcy ds st.tm o with
 | none => simp only [zcj,hg]
 | some g =>
  cases g with
  | none => simp only [zcj,hg]
  | some g =>
   cases hs:zp2 P Φ st o.op with
   | none => cases g <;> simp [zcj,hg,hs]
   | some q => cases g <;> simp [zcj,hg,hs]
theorem zod (id:Nat) (c:Code):vc P Φ (.block id c) Q st = vc P Φ c (blkA id Q) st:=rfl
theorem vc_scope (c:Code):vc P Φ (.scope c) Q st = vc P Φ c (scpA Q) st:=rfl
theorem vc_loop (c:Code):vc P Φ (.loop c) Q st = LoopB P Φ c Q st:=rfl
theorem vc_exit (id:Nat):vc P Φ (.exit id) Q st = Q (.exit id) st:=rfl
theorem vc_ret:vc P Φ .ret Q st = Q .ret st:=rfl
theorem zg3 (id:Nat) (ops:Array Oper):vc P Φ (.region id ops false) Q st = zcj P Φ (ops.toList.map (·.dst)) ops.toList (Q .normal) st:=rfl
theorem vc_draw (id:Nat) (ops:Array Oper):vc P Φ (.region id ops true) Q st = (match zaw Φ (some (3000000 + id)) with
  | none => (match zaw Φ (some (1000000 + id)) with
   | none => zad 0 ops.toList = true ∧ zae P Φ ops.toList (Q .normal) st
   | some _ => ∃ fl:Nat,zad fl ops.toList = true ∧ zjW P Φ fl ops.toList (Q .normal) st)
  | some _ => ∃ π:List Nat,drawP P Φ π ops.toList (Q .normal) st):=rfl
def zai (st:St) (ks:List Nat) (ov:List (Nat × AV)) (mm:List AObj):St :=
 { tm:=ov ++ ks.map (fun k => (k,lk st.tm k)),mem:=mm,n:=st.n,marks:=st.marks,pr:=st.pr }
def zaF (tm:List (Nat × AV)) (k:Nat):List (Nat × AV) → Prop
 | [] => True
 | (i,v) :: r => ((lk tm i = v ∨ (lk tm i).bare = v) ∧ bel k 9 v) ∧ zaF tm k r
theorem zop {tm:List (Nat × AV)} {k:Nat}:∀ {l:List (Nat × AV)},zaF tm k l → ∀ q ∈ l,(lk tm q.1 = q.2 ∨ (lk tm q.1).bare = q.2) ∧ bel k 9 q.2
 | [],_,q,hq => by cases hq
 | (i,v) :: r,h,q,hq => by
  rcases czn.1 hq with rfl | hq
  ·exact h.1
  ·exact zop h.2 q hq
def zaI (k:Nat):List AObj → Prop
 | [] => True
 | o :: r => zcK k o ∧ zaI k r
theorem zc7 {k:Nat}:∀ {l:List AObj},zaI k l → ∀ o ∈ l,zcK k o
 | [],_,o,ho => by cases ho
 | x :: r,h,o,ho => by
  rcases czn.1 ho with rfl | ho
  ·exact h.1
  ·exact zc7 h.2 o ho
def zas (k:Nat):List Nat → Prop
 | [] => True
 | l :: r => l < k ∧ zas k r
theorem zkV {k:Nat}:∀ {l:List Nat},zas k l → ∀ o ∈ l,o < k
 | [],_,o,ho => by cases ho
 | x :: r,h,o,ho => by
  rcases czn.1 ho with rfl | ho
  ·exact h.1
  ·exact zkV h.2 o ho
def zak:List AObj → List AObj → Prop
 | [],_ => True
 | _ :: _,[] => False
 | a :: l,b :: m => a = b ∧ zak l m
theorem zlw:∀ {l m:List AObj},zak l m → ∃ r,m = l ++ r
 | [],m,_ => ⟨m,rfl⟩
 | _ :: _,[],h => h.elim
 | a :: l,b :: m,h => by
  obtain ⟨r,hr⟩:=zlw h.2
  exact ⟨r,by rw [hr,h.1]; rfl⟩
def zal (s:St) (st':St):Prop :=
 s.n = st'.n ∧ s.marks = st'.marks ∧ s.pr = st'.pr ∧ s.pr ≤ st'.mem.length ∧ zak st'.mem s.mem ∧ zaF s.tm st'.mem.length st'.tm ∧ zaI st'.mem.length st'.mem ∧ zas st'.mem.length st'.marks
theorem zbj {s st':St} (h:zal s st'):zrn s st' :=
 ⟨h.1.symm,h.2.1.symm,h.2.2.1.symm,h.2.2.2.1,zlw h.2.2.2.2.1,zop h.2.2.2.2.2.1,zc7 h.2.2.2.2.2.2.1,zkV h.2.2.2.2.2.2.2⟩
def Nxt (N:Nat) (Iv:Nat → Prop) (S:Nat → St) (i:Nat) (s:St):Prop:=∃ b',(b' ≤ N ∧ Iv b') ∧ N - b' < N - i ∧ zrn s (S b')
theorem nxt {N:Nat} {Iv:Nat → Prop} {S:Nat → St} {i:Nat} {s:St} (h:i < N) (hI:Iv (i + 1)) (hs:zal s (S (i + 1))):Nxt N Iv S i s :=
 ⟨i + 1,⟨by omega,hI⟩,by omega,zbj hs⟩
theorem zbg (N:Nat) (ts:List TZ) (ks:List Nat) (ov:Nat → List (Nat × AV)) (mm:Nat → List AObj → List AObj) (Iv:Nat → Prop) {c:Code} (h0:Iv 0)
  (hw:zal (tokz ts st) (zai (tokz ts st) ks (ov 0) (mm 0 (tokz ts st).mem)))
  (hstep:∀ i,i < N → Iv i → vc P Φ c (zaO (Nxt N Iv (fun i => zai (tokz ts st) ks (ov i) (mm i (tokz ts st).mem)) i) Q) (zai (tokz ts st) ks (ov i) (mm i (tokz ts st).mem)))
  (hlast:Iv N → vc P Φ c (zaO (Nxt N Iv (fun i => zai (tokz ts st) ks (ov i) (mm i (tokz ts st).mem)) N) Q) (zai (tokz ts st) ks (ov N) (mm N (tokz ts st).mem))):LoopB P Φ c Q st:=by
 refine ⟨ts,Nat,fun i => zai (tokz ts st) ks (ov i) (mm i (tokz ts st).mem),fun i => i ≤ N ∧ Iv i,fun i => N - i,0,⟨Nat.zero_le _,h0⟩,zbj hw,fun i ⟨hi,hI⟩ => ?_⟩
 by_cases e:i < N
 ·exact hstep i e hI
 ·obtain rfl:i = N:=by omega
  exact hlast hI
theorem zqn {β:Type} (ts:List TZ) (ks:List Nat) (ov:β → List (Nat × AV)) (mm:β → List AObj → List AObj) (Iv:β → Prop) (μ:β → Nat) (b0:β) {c:Code} (h0:Iv b0)
  (hw:zal (tokz ts st) (zai (tokz ts st) ks (ov b0) (mm b0 (tokz ts st).mem)))
  (h:∀ b,Iv b → vc P Φ c (zaO (fun s => ∃ b',Iv b' ∧ μ b' < μ b ∧ zrn s (zai (tokz ts st) ks (ov b') (mm b' (tokz ts st).mem))) Q) (zai (tokz ts st) ks (ov b) (mm b (tokz ts st).mem))):LoopB P Φ c Q st :=
 ⟨ts,β,fun b => zai (tokz ts st) ks (ov b) (mm b (tokz ts st).mem),Iv,μ,b0,h0,zbj hw,h⟩
end
theorem zcX (st:St):tokz [] st = st:=rfl
theorem zfE (t:TZ) (ts:List TZ) (st:St):tokz (t :: ts) st = tokz ts (tokz1 t st):=rfl
theorem cast0:((0:Nat):Int) = 0:=rfl
theorem cast1:((1:Nat):Int) = 1:=rfl
theorem ite_or (b c:Bool):(if b = true then true else c) = (b || c):=by cases b <;> rfl
theorem ite_and (b c:Bool):(if b = true then c else false) = (b && c):=by cases b <;> rfl
def at_ {α:Type} [Inhabited α] (l:List α) (i:Nat):α:=l.getD i default
theorem zar {α:Type} [Inhabited α] {f:α → List AV} {l:List α} {i:Nat} (h:i < l.length):(l.map f).getD i [] = f (at_ l i):=by
 simp [at_,List.getD,h]
theorem zfn {α:Type} [Inhabited α] {l r:List α} {i:Nat} (h:i < l.length):at_ (l ++ r) i = at_ l i:=by
 simp [at_,List.getD,czi h]
theorem zcW {α:Type} [Inhabited α] {l:List α} {i:Nat} (h:i < l.length):at_ l i = l[i]:=by simp [at_,List.getD,h]
theorem zaM {α:Type} [Inhabited α] {l:List α} {i:Nat} (h:i < l.length):l.take (i + 1) = l.take i ++ [at_ l i]:=by
 rw [List.take_add_one,zcW h]
 simp [h]
end Go.Fs
namespace Go.Fs
structure FnL (g:Nat) where
structure FnB (g:Nat) (α:Type) where
 x:α
structure FnC (g:Nat) (α:Type) where
 x:α
structure RefC (α:Type) where
 x:α
instance {g:Nat}:Enc (FnL g) where
 enc _:=.fn (.func g) [] []
 dec
  | .fn (.func h) [] [] => if h = g then some ⟨⟩ else none
  | _ => none
 law v x h:=by
  split at h
  ·split at h
   ·rename_i e; rw [e]
   ·cases h
  ·cases h
 dep:=1
 ok x:=by simp [za8]
instance {g:Nat} {α:Type} [Enc α]:Enc (FnB g α) where
 enc f:=.fn (.func g) [Enc.enc f.x] []
 dec
  | .fn (.func h) [a] [] => if h = g then (Enc.dec a:Option α).map FnB.mk else none
  | _ => none
 law v x h:=by
  split at h
  ·split at h
   ·rename_i e
    simp only [czr] at h
    obtain ⟨y,h1,rfl⟩:=h
    rw [e,Enc.law _ _ h1]
   ·cases h
  ·cases h
 dep:=Enc.dep α + 1
 ok x:=by simp only [za8,czn,czk,or_false,forall_eq]; exact ⟨Enc.ok x.x,fun _ h => h.elim⟩
instance {α:Type} [Enc α]:Enc (RefC α) where
 enc f:=.ref [Enc.enc f.x] 0
 dec
  | .ref [a] 0 => (Enc.dec a:Option α).map RefC.mk
  | _ => none
 law v x h:=by
  split at h
  ·simp only [czr] at h
   obtain ⟨y,h1,rfl⟩:=h
   rw [Enc.law _ _ h1]
  ·cases h
 dep:=Enc.dep α + 1
 ok x:=by simp only [za8,czn,czk,or_false,forall_eq]; exact Enc.ok x.x
instance {g:Nat} {α:Type} [Enc α]:Enc (FnC g α) where
 enc f:=.fn (.func g) [] [.ref [Enc.enc f.x] 0]
 dec
  | .fn (.func h) [] [.ref [a] 0] => if h = g then (Enc.dec a:Option α).map FnC.mk else none
  | _ => none
 law v x h:=by
  split at h
  ·split at h
   ·rename_i e
    simp only [czr] at h
    obtain ⟨y,h1,rfl⟩:=h
    rw [e,Enc.law _ _ h1]
   ·cases h
  ·cases h
 dep:=Enc.dep α + 2
 ok x:=by simp only [za8,czn,czk,or_false,forall_eq]; exact ⟨fun _ h => h.elim,Enc.ok x.x⟩
theorem znv {g:Nat} (f:FnL g):Enc.enc f = .fn (.func g) [] []:=rfl
theorem znx {g:Nat} {α:Type} [Enc α] (f:FnB g α):Enc.enc f = .fn (.func g) [Enc.enc f.x] []:=rfl
theorem znw {g:Nat} {α:Type} [Enc α] (f:FnC g α):Enc.enc f = .fn (.func g) [] [.ref [Enc.enc f.x] 0]:=rfl
theorem zjS {α:Type} [Enc α] (f:RefC α):Enc.enc f = .ref [Enc.enc f.x] 0:=rfl
theorem dec_fnl {g:Nat}:(Enc.dec (.fn (.func g) [] []):Option (FnL g)) = some ⟨⟩:=by simp [Enc.dec]
theorem dec_fnb {g:Nat} {α:Type} [Enc α] (a:AV):(Enc.dec (.fn (.func g) [a] []):Option (FnB g α)) = (Enc.dec a:Option α).map FnB.mk:=by simp [Enc.dec]
theorem dec_fnc {g:Nat} {α:Type} [Enc α] (a:AV):(Enc.dec (.fn (.func g) [] [.ref [a] 0]):Option (FnC g α)) = (Enc.dec a:Option α).map FnC.mk:=by simp [Enc.dec]
theorem dec_refc {α:Type} [Enc α] (a:AV):(Enc.dec (.ref [a] 0):Option (RefC α)) = (Enc.dec a:Option α).map RefC.mk:=by simp [Enc.dec]
structure Arr (n:Nat) where
 l:List Int
 h:l.length = n
theorem Arr.ext {n:Nat} {a b:Arr n} (h:a.l = b.l):a = b:=by cases a; cases b; simp_all
instance {n:Nat}:Inhabited (Arr n):=⟨⟨List.replicate n 0,by simp⟩⟩
theorem ziV:∀ (cs:List AV) (l:List Int),zab cs = some l → cs = l.map (AV.int .i64)
 | [],l,h => by simp only [zab,czg] at h; subst h; rfl
 | c :: cs,l,h => by
  unfold zab at h
  split at h
  ·cases h; simp_all
  ·rename_i n r heq
   cases heq
   simp only [czr] at h
   obtain ⟨y,h1,rfl⟩:=h
   rw [ziV _ _ h1]
   rfl
  ·cases h
def zem (n:Nat) (cs:List AV):Option (Arr n) :=
 match zab cs with
 | some l => if h:l.length = n then some ⟨l,h⟩ else none
 | none => none
theorem zfc {n:Nat} {cs:List AV} {x:Arr n} (h:zem n cs = some x):cs = x.l.map (AV.int .i64):=by
 unfold zem at h
 split at h
 ·rename_i l hl
  split at h
  ·cases h; exact ziV _ _ hl
  ·cases h
 ·cases h
theorem zgg {n:Nat} (x:Arr n):zem n (x.l.map (AV.int .i64)) = some x:=by
 unfold zem
 rw [zdS]
 simp [x.h]
instance {n:Nat}:Enc (Arr n) where
 enc x:=.agg (x.l.map (AV.int .i64))
 dec
  | .agg cs => zem n cs
  | _ => none
 law v x h:=by
  split at h
  ·rw [zfc h]
  ·cases h
 dep:=2
 ok x:=by simp [za8]
instance {n:Nat}:EncE (Arr n) where
 cs x:=x.l.map (AV.int .i64)
 dcs cs:=zem n cs
 law v x h:=zfc h
 inv x:=zgg x
 dep:=1
 sz:=n
 len x:=by simp [x.h]
 ok x:=by simp [za8]
section
variable {n k:Nat} {mem:List AObj}
theorem zmV {α:Type} (x:α):(some x).toArray.toList = [x]:=rfl
theorem zmW {α:Type}:(none:Option α).toArray.toList = []:=rfl
theorem zny (x:Arr n):Enc.enc x = .agg (x.l.map (AV.int .i64)):=rfl
theorem cs_arr (x:Arr n):EncE.cs x = x.l.map (AV.int .i64):=rfl
theorem dec_arr (cs:List AV):(Enc.dec (.agg cs):Option (Arr n)) = zem n cs:=rfl
theorem dcs_arr (cs:List AV):(EncE.dcs cs:Option (Arr n)) = zem n cs:=rfl
theorem znC:EncE.dep (Arr n) = 1:=rfl
theorem sz_arr:EncE.sz (Arr n) = n:=rfl
theorem zdA (x:Arr n):(x.l.map (AV.int .i64)).take n = x.l.map (AV.int .i64):=cze (by simp [x.h])
theorem zpP (l:List Int):(l.map (AV.int .i64)).map AV.strip = l.map (AV.int .i64):=by simp [AV.strip]
theorem zmz (l:List Int):(l.map (AV.int .i64)).map AV.strip1 = l.map (AV.int .i64):=by simp [AV.strip1]
theorem zkv (l:List Int):(l.map (AV.int .i64)).map AV.soft = l.map (AV.int .i64):=by simp [AV.soft]
theorem snap_ints (l:List Int):(l.map (AV.int .i64)).map (zbk (k + 1) mem) = l.map (AV.int .i64):=by simp [zbk]
theorem zp0 (l:List Int):(l.map (AV.int .i64)).map (zbb (zbk (k + 1) mem) mem) = l.map (AV.int .i64):=by simp [zbk,zbb]
theorem imm_ints (l:List Int):(∀ c ∈ l.map (AV.int .i64),imm (k + 1) c) = True:=by simp [imm]
theorem scal_ints (l:List Int):(∀ c ∈ l.map (AV.int .i64),zgN (k + 1) c) = True:=by simp [zgN]
theorem zj2 (l:List Int):(∀ c ∈ l.map (AV.int .i64),bel n (k + 1) c) = True:=by simp [bel]
theorem zfP (l:List Int):(∀ c ∈ l.map (AV.int .i64),c.one = true) = True:=by simp [AV.one]
theorem drop_ints (l:List Int) (i:Nat):(l.map (AV.int .i64)).drop i = (l.drop i).map (AV.int .i64):=by simp
theorem zeJ {l:List Int} {i:Nat} (h:i < l.length) (v:Int):zan (l.map (AV.int .i64)) i [.int .i64 v] = (l.set i v).map (AV.int .i64):=by
 simp only [zan,cza,czy,Nat.zero_add]
 rw [List.set_eq_take_append_cons_drop,if_pos h]
 simp
theorem zeg (l:List Int):∀ (len:Nat),len ≤ l.length → zb7 1 len (l.map (AV.int .i64)) = (l.take len).map EncE.cs:=by
 intro len
 induction len generalizing l with
 | zero => intro _; simp [zb7]
 | succ len ih =>
  intro h
  cases l with
  | nil => simp at h
  | cons x l =>
   simp only [czb,zb7,List.take_succ_cons,List.take_zero,List.drop_succ_cons,List.drop_zero]
   rw [ih l (by simpa using h)]
   rfl
end
theorem picS_sl (mem:List AObj) (es:List (List AV)) (tk:Tk):picS mem (.sl es tk) = .sl es tk:=rfl
theorem picS_arr (mem:List AObj) (l off len sz:Nat):picS mem (.arr l off len sz) = match zbb (zbk 9 mem) mem (.arr l off len sz) with
  | .sl fs _ => if (fs.all fun e => e.all AV.flatV) = true then .sl fs .no else .undef
  | _ => .undef:=rfl
theorem picS_vec (mem:List AObj) (l s off len sz:Nat):picS mem (.vec l s off len sz) = match zbb (zbk 9 mem) mem (.vec l s off len sz) with
  | .sl fs _ => if (fs.all fun e => e.all AV.flatV) = true then .sl fs .no else .undef
  | _ => .undef:=rfl
theorem zlH (l:List Int):((l.map EncE.cs).all fun e => e.all AV.flatV) = true:=by
 rw [List.all_map,czG]
 intro x _
 rfl
end Go.Fs
