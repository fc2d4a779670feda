/- The texts A31, A32, A33, A34, A35, joined. -/
import Derived.Test.YtilbconikmpadaaGreatG5
import Derived.ProofKit
import Derived.SizedLaws
import Derived.Lib.SmallJoins
set_option linter.all false
namespace Go.Fs
open Go.RowKit (Below)
section
variable {P:Program} {Φ:zaJ}
def frR (es0:List (List AV)) (sz:Nat) (v:AV) (mem:List AObj):Prop :=
 match v with
 | .sl es (.own k) => es = es0 ∧ zaa mem k = .tok es.length sz
 | .sl es .full => es = es0
 | _ => False
theorem zqu {f : FuncId} {fn : Func} {c : Code} {args : List AV} {β : Type} [EncE β] {l : List β} {sz : Nat} (hf : P.funcs[f]? = some fn) (hb : fn.body = some c) (hnm : (fn.name == "runtime.NumGoroutine") = false)
  (hn:args.length ≤ fn.ntmps) (hmx:P.follows .mixedOrders = true) (hΦ:zaz P Φ) (ht:∀ a ∈ args,a.strip = a) (hdep:EncE.dep β ≤ 8)
  (h:vc P Φ c (retA P fn.results.toList (fun vs st => frR (l.map EncE.cs) sz (zeN vs) st.mem)) (zai fn.ntmps args [])):zuW P f args sz (l.map EncE.cs):=by
 refine ⟨⟨fn,hf,hnm,by rw [hb]; rfl⟩,fun κ w vs hk hs hr => ?_⟩
 let X:Nat → Prop:=fun b => b < w.heap.size
 have hm:RelM κ noLc (fun _ => none) X [] w:=⟨fun l => trivial,fun l l' b hl => by simp [zaa,blk] at hl,hk,fun _ _ => rfl,fun l cs b vs T hl => by simp [zaa] at hl⟩
 have hrel:=zjm (n:=fn.ntmps) hm (fun b hb => hb) hn hs hr ht
 refine callsIn_of_wp_marks hf hb trivial ?_
 have hwp:c.wpIn Fence.wide 0 P _ _ w:=zcO hmx hΦ c _ _ h none (.inl rfl) X ⟨w,κ⟩ 0 κ noLc (fun _ => none) _ w hrel
 refine wpIn_mono hwp ?_
 rintro e a' w' ⟨κ',ρ',τ',st',g1,g2,g3⟩
 have hpure:∀ e ∈ l.map EncE.cs,∀ c ∈ e,zbr (EncE.dep β) c:=fun e he c hc => by
  obtain ⟨y,_,rfl⟩:=czx.1 he
  exact EncE.ok y c hc
 have hfin:zgM P fn.results.toList (fun vs st => frR (l.map EncE.cs) sz (zeN vs) st.mem) st'.marks st' → LeavesInM Fence.wide 0 P fn a'.tmps (fun e w' => ∃ x κ',e = .returned x ∧ Rep κ' noLc (.sl (l.map EncE.cs) .no) x ∧ Grow κ w κ' w' ∧ Room κ' w w' (l.map EncE.cs).length sz x) a'.defers .returning w':=by
  intro hd
  refine zeq (κ:=κ') (st:=st') (X:=X) (w0:=⟨w,κ⟩) (m0:=0) ?_ st'.marks st' a' w' rfl g1 (Ext.refl _ _ _ _ _) hd
  intro κ2 st2 a2 w2 us x q1 q2 q3 qt0 q4
  have qt:OwnOK τ' st2.mem (zeN us) x:=by
   match us,qt0 with
   | [u],qt => exact qt.own
   | [],_ => exact (zaO rfl:TokOK τ' st2.mem (AV.tup []) x).own
   | u :: v :: r,_ => exact (zaO rfl:TokOK τ' st2.mem (AV.tup (u :: v :: r)) x).own
  generalize zeN us = v at q3 qt q4
  have hgrow:Grow κ w κ2 w2:=⟨Kn.le_trans g2.le q2.le,q1.mem.know,⟨q1.frm.os,q1.frm.tape,q1.frm.output,q1.frm.size,q1.frm.block⟩,fun b o hb => q1.kx.1 b o hb,fun b hb => q1.kx.2 b hb⟩
  have himm:∀ tk,imm 9 (.sl (l.map EncE.cs) tk):=fun tk e he c hc => zlI _ _ _ (hpure e he c hc) (by omega)
  have hsn:∀ tk,zb5 9 ([]:List AObj) (.sl (l.map EncE.cs) tk) = .sl (l.map EncE.cs) .no:=fun tk => zrp l tk (by omega)
  unfold frR at q4
  split at q4
  ·rename_i es k
   obtain ⟨rfl,hk'⟩:=q4
   have hrep:=zhl (mem:=([]:List AObj)) 9 (himm _) q3
   rw [hsn] at hrep
   refine ⟨x,κ2,rfl,hrep,hgrow,?_⟩
   obtain ⟨n,s,h1,_,h3⟩:=qt _ k rfl trivial
   rw [hk'] at h1
   cases h1
   obtain ⟨ad,len,cap,hx,hc⟩:=h3 rfl
   rcases hc with hc | ⟨b,c,hb1,hb2,hb3⟩
   ·exact .inl ⟨ad,len,by rw [hx,hc]⟩
   ·have ho:=q1.mem.obj k
    rw [hk'] at ho
    have hlen:len = (l.map EncE.cs).length:=by
     rw [hx] at q3
     have key:∀ (es:List (List AV)) (tk:Tk),Rep κ2 ρ' (.sl es tk) (.slice ad len cap) → (∃ b,ad = some b) → len = es.length:=by
      intro es tk hh he
      cases hh with
      | slnil => obtain ⟨_,he⟩:=he; cases he
      | sl => rfl
     exact key _ _ q3 ⟨_,hb1⟩
    rcases ho with ho | ⟨b',c',us,T,o1,o2,o3,o4,o5⟩
    ·rw [hb2] at ho; cases ho
    ·rw [hb2] at o1
     cases o1
     refine .inr ⟨b,cap,us,T,by rw [hx,hb1,hlen],?_,o3,o4,by omega⟩
     by_cases hlt:b < w.heap.size
     ·exact absurd hlt o2
     ·omega
  ·rename_i es
   subst q4
   have hrep:=zhl (mem:=([]:List AObj)) 9 (himm _) q3
   rw [hsn] at hrep
   refine ⟨x,κ2,rfl,hrep,hgrow,.inl ?_⟩
   have key:∀ (es:List (List AV)) (y:Value),Rep κ2 ρ' (.sl es .full) y → ∃ a len,y = .slice a len len:=by
    intro es y hh
    cases hh with
    | slnil => exact ⟨none,0,rfl⟩
    | sl _ _ b o cap sz' val _ _ _ hfull _ => exact ⟨_,_,by rw [hfull rfl]⟩
   exact key _ _ q3
  ·exact q4.elim
 cases e with
 | normal => exact hfin g3
 | ret => exact hfin g3
 | _ => exact g3.elim
end
end Go.Fs
namespace Go.Fs
open Go.RowKit (Below)
open Go.ChangeShapes Go.WideShapes Go.ChangeAt
structure RdE (P:Program) (T:TypeId) (α:Type) [EncE α] (ok:α → Prop):Prop where
 sz:P.cellsOf T = EncE.sz α
 rd:∀ {H:Type} (enc:TypeId × Value → H) (w:World) (base:Nat) (spare:Nat → Bool) (held:Bool) (fuel:Nat) (cs:List Value) (x:DataW H × List MemPlace),
  DataW.trod enc P w base spare held fuel T cs = some x → ∃ y:α,ok y ∧ RepL (zfc w) noLc (EncE.cs y) cs.toArray
section
variable {P:Program}
theorem ztI {H:Type} {enc:TypeId × Value → H} {C:Checked} {os:Os} {f:FuncId} {fn:Func} {s:ChangeSpec} {conds:List PathCond} {tb:TypeId}
  (own:ownKnob C.prog.godebug = none) (started:os.Started) (noInit:C.prog.inits.idxOf? f = none) (hfn:C.prog.funcs[f]? = some fn)
  (witness:∃ (w:World) (tape:Tape) (i:Input),w.os = os ∧ (w.forCall tape i).Shaped C.prog ∧ i.vars = [] ∧ Input.okWide C.prog (w.forCall tape i) .any w.heap.size f i ∧
   s.pre6 enc C.prog fn conds false (w.forCall tape i).memory i.args ∧ ({}:Assume).holds C.prog (lone (Frame.enter C.prog f i.args .normal) [] (w.forCall tape i)))
  (hvars:s.vars = []) (laid:laidOutB C.prog = true) (hps:fn.params.toList.all (fun t => C.prog.readableRec t && decide (t < C.prog.types.size)) = true)
  (hres:fn.resultTypes = #[tb]) (htb:C.prog.underlying tb = some .bool)
  (hspec:∀ ds:List (DataW H),ds.length = fn.params.size → (s.fn H ds).results = [.lit (.bool true)] ∧ (s.fn H ds).args = ds ∧ (s.fn H ds).vars = [])
  (hcall:∀ (W:World) (base:Nat) (args:Array Value) (ds:List (DataW H)) (ps:List MemPlace),(∀ (j:Nat) t v,fn.params[j]? = some t → args[j]? = some v → Value.okWide C.prog W .any base t v) →
   DataW.TrodAll enc C.prog W 0 (fun _ => true) true fn.params.toList args.toList ds ps → (DataW.weightsEach C.prog fn.params.toList ds).all (· ≤ reachBytes) = true →
   ∃ avs:List AV,RepL (zfc W) noLc avs args ∧ zaP C.prog f avs (· = .bool true)) :
  ReturnsInHanded {} C os f .any (s.pre6 enc C.prog fn conds false) (s.post enc C.prog fn false true false false):=by
 refine returnsInHanded_of_change_sized own started noInit hfn witness ?_
 intro W base args ds gs before hval hW _ hsz _
 have hW':=hW
 obtain ⟨p,q,hA,hV,rfl,_,_⟩:=hW
 rw [hvars] at hV
 obtain ⟨rfl,rfl⟩:=trodVars_none hV
 have hvt:s.plain.varTypes C.prog = []:=by
  unfold DataSpec.varTypes ChangeSpec.plain
  simp [hvars]
 rw [hvt,List.append_nil,List.append_nil] at hsz
 obtain ⟨avs,hr,hc⟩:=hcall W base args ds p hval hA hsz
 have hlt:∀ x ∈ p,x.block < W.heap.size:=fun x hx => hW'.lt x (by simp [hx])
 have hall:∀ (W':World),Below W.heap.size W W' → ∀ (ts:List TypeId) (vs:List Value) (ds:List (DataW H)) (p:List MemPlace),ts.all (fun t => C.prog.readableRec t && decide (t < C.prog.types.size)) = true → (∀ x ∈ p,x.block < W.heap.size) →
   DataW.TrodAll enc C.prog W 0 (fun _ => true) true ts vs ds p → DataW.TrodAll enc C.prog W' 0 (fun b => decide (b < W.heap.size)) true ts vs ds p:=by
  intro W' hb ts
  induction ts with
  | nil =>
   intro vs ds p _ _ h
   obtain ⟨rfl,rfl,rfl⟩:=trodAll_nil h
   exact rfl
  | cons t ts ih =>
   intro vs ds p hps hlt h
   obtain ⟨v,vs',d,ds',a,b,rfl,rfl,rfl,h1,h2⟩:=trodAll_cons h
   simp only [List.all_cons,czl] at hps
   exact ⟨a,b,Below.trod laid hps.1.1 (of_decide_eq_true hps.1.2) h1 hb (fun x hx => hlt x (by simp [hx])),ih vs' ds' b hps.2 (fun x hx => hlt x (by simp [hx])) h2,rfl⟩
 have hlen:ds.length = fn.params.size:=by
  have key:∀ (ts:List TypeId) (vs:List Value) (ds:List (DataW H)) (p:List MemPlace),DataW.TrodAll enc C.prog W 0 (fun _ => true) true ts vs ds p → ds.length = ts.length:=by
   intro ts
   induction ts with
   | nil => intro vs ds p h; obtain ⟨_,rfl,_⟩:=trodAll_nil h; rfl
   | cons t ts ih =>
    intro vs ds p h
    obtain ⟨v,vs',d,ds',a,b,rfl,rfl,rfl,h1,h2⟩:=trodAll_cons h
    simp [ih vs' ds' b h2]
  rw [key _ _ _ _ hA]; simp
 obtain ⟨e1,e2,e3⟩:=hspec ds hlen
 have hcalls:=callsIn_wide.1 (hc.2 (zfc W) W args (zeB W) hr.1 hr.2)
 refine hcalls.mono fun e W' ⟨x,κ',r,he,hrt,hrep,hg⟩ => ?_
 subst hrt
 have hx:=hrep.bool_inv
 subst hx
 refine ⟨_,he,ds,[],p ++ [],[],p,[],hW',?_,?_,?_,hg.below.frame _,fun h => by cases h⟩
 ·rw [List.append_nil,e1,hres]
  exact trodAll_mk1 (Go.RowKit.shut_bool htb true)
 ·rw [List.append_nil,e2]
  exact hall W' hg.below _ _ _ _ hps hlt hA
 ·rw [List.append_nil,e3,hvars]
  exact rfl
end
end Go.Fs
namespace Go.Fs
theorem zmv {P:Program} {Φ:zaJ} {ds:List (Option Tmp)} {K:St → Prop}:∀ (n:Nat) (os:List Oper),zdB P Φ ds os K = zdB P Φ ds (os.take n) (zdB P Φ ds (os.drop n) K)
 | 0,os => by simp only [List.take_zero,List.drop_zero]; funext st; rfl
 | n + 1,[] => by simp only [List.take_nil,List.drop_nil]; funext st; rfl
 | n + 1,o :: os => by
  simp only [List.take_succ_cons,List.drop_succ_cons]
  funext st
  simp only [zdB]
  rw [← zmv n os]
theorem zcw {P:Program} {Φ:zaJ} {ds:List (Option Tmp)} {K:St → Prop} (n:Nat) {os:List Oper} {st:St}
  (h:∀ K',K' = zdB P Φ ds (os.drop n) K → zdB P Φ ds (os.take n) K' st):zdB P Φ ds os K st:=by
 rw [zmv n os]; exact h _ rfl
theorem zcA {P:Program} {Φ:zaJ} {ds:List (Option Tmp)} {os:List Oper} {K:St → Prop} {st:St} (ks:List Nat)
  (h:∀ tm',(∀ k ∈ ks,lk tm' k = lk st.tm k) → zdB P Φ ds os K { st with tm:=tm' }):zdB P Φ ds os K st:=h st.tm fun _ _ => rfl
theorem vcOps_ds {P:Program} {Φ:zaJ} {ops:List Oper} {K:St → Prop} {st:St} (h:∀ ds,ds = ops.map (·.dst) → zdB P Φ ds ops K st):zdB P Φ (ops.map (·.dst)) ops K st:=h _ rfl
theorem zaC {P:Program} {Φ:zaJ} {a b:Code} {Q:QA} {st:St} (h:∀ Q',Q' = zaW (vc P Φ b Q) Q → vc P Φ a Q' st):vc P Φ (.seq a b) Q st:=h _ rfl
end Go.Fs
namespace Go.Fs
open Go.RowKit (Below)
open Go.ChangeShapes Go.WideShapes Go.ChangeAt
def RdL (P:Program) (ts:List TypeId) (R:List AV → Prop):Prop :=
 ∀ {H:Type} (enc:TypeId × Value → H) (w:World) (base:Nat) (vs:List Value) (ds:List (DataW H)) (ps:List MemPlace),
  (∀ (j:Nat) t v,ts[j]? = some t → vs[j]? = some v → Value.okWide P w .any base t v) → DataW.TrodAll enc P w 0 (fun _ => true) true ts vs ds ps →
  (DataW.weightsEach P ts ds).all (· ≤ reachBytes) = true → ∃ avs,R avs ∧ RepL (zfc w) noLc avs vs.toArray
theorem rdL_nil {P:Program}:RdL P [] (· = []):=fun enc w base vs ds ps _ h _ => by
 obtain ⟨rfl,_,_⟩:=trodAll_nil h
 exact ⟨[],rfl,rfl,fun i hi => absurd hi (by simp)⟩
theorem law_read {H:Type} {enc:TypeId × Value → H} {C:Checked} {os:Os} {f:FuncId} {fn:Func} {s:ChangeSpec} {conds:List PathCond} {tb:TypeId} {R:List AV → Prop}
  (own:ownKnob C.prog.godebug = none) (started:os.Started) (noInit:C.prog.inits.idxOf? f = none) (hfn:C.prog.funcs[f]? = some fn)
  (witness:∃ (w:World) (tape:Tape) (i:Input),w.os = os ∧ (w.forCall tape i).Shaped C.prog ∧ i.vars = [] ∧ Input.okWide C.prog (w.forCall tape i) .any w.heap.size f i ∧
   s.pre6 enc C.prog fn conds false (w.forCall tape i).memory i.args ∧ ({}:Assume).holds C.prog (lone (Frame.enter C.prog f i.args .normal) [] (w.forCall tape i)))
  (hvars:s.vars = []) (laid:laidOutB C.prog = true) (hps:fn.params.toList.all (fun t => C.prog.readableRec t && decide (t < C.prog.types.size)) = true)
  (hres:fn.resultTypes = #[tb]) (htb:C.prog.underlying tb = some .bool)
  (hspec:∀ ds:List (DataW H),ds.length = fn.params.size → (s.fn H ds).results = [.lit (.bool true)] ∧ (s.fn H ds).args = ds ∧ (s.fn H ds).vars = [])
  (hrd:RdL C.prog fn.params.toList R) (hcall:∀ avs,R avs → zaP C.prog f avs (· = .bool true)) :
  ReturnsInHanded {} C os f .any (s.pre6 enc C.prog fn conds false) (s.post enc C.prog fn false true false false) :=
 ztI own started noInit hfn witness hvars laid hps hres htb hspec fun W base args ds ps hv hA hw => by
  obtain ⟨avs,hR,hrep⟩:=hrd enc W base args.toList ds ps (fun j t v h1 h2 => hv j t v (by simpa using h1) (by simpa using h2)) hA hw
  exact ⟨avs,by simpa using hrep,hcall avs hR⟩
end Go.Fs
namespace Go.Fs
open Go.ChangeShapes Go.WideShapes Go.ChangeAt
structure Uk (k:IntKind) where
 n:Int
instance {k:IntKind}:Inhabited (Uk k):=⟨⟨0⟩⟩
instance {k:IntKind}:Enc (Uk k) where
 enc u:=.int k u.n
 dec
  | .int j n => if j = k then some ⟨n⟩ else none
  | _ => none
 law v x h:=by
  split at h
  ·rename_i j n
   by_cases e:j = k
   ·rw [if_pos e] at h
    cases h
    rw [e]
   ·rw [if_neg e] at h; cases h
  ·cases h
 dep:=1
 ok _:=trivial
instance {k:IntKind}:EncE (Uk k) where
 cs u:=[.int k u.n]
 dcs
  | [.int j n] => if j = k then some ⟨n⟩ else none
  | _ => none
 law v x h:=by
  split at h
  ·rename_i j n
   by_cases e:j = k
   ·rw [if_pos e] at h
    cases h
    rw [e]
   ·rw [if_neg e] at h; cases h
  ·cases h
 inv x:=by simp
 dep:=1
 sz:=1
 len _:=rfl
 ok x c hc:=by
  simp only [czC] at hc
  subst hc
  exact trivial
theorem enc_uk {k:IntKind} (u:Uk k):Enc.enc u = AV.int k u.n:=rfl
theorem zbH {k:IntKind}:EncE.dep (Uk k) = 1:=rfl
end Go.Fs
