/- The texts A31, A32, A33, A34, A35, A36, joined. -/
import Derived.Test.YtgfkmkkoligobaaGreatG5
import Derived.ProofKit
import Derived.SizedLaws
import Derived.Lib.SmallJoins
set_option linter.all false
namespace Go.Fs
open Go.RowKit (Below)
section
variable {P:Program} {Φ:zay}
def frR (es0:List (List AV)) (sz:Nat) (v:AV) (mem:List AObj):Prop :=
 match v with
 | .sl es (.own k) => es = es0 ∧ zaa mem k = .tok es.length sz
 | .sl es .full => es = es0
 | _ => False
theorem zhU {f : FuncId} {fn : Func} {c : Code} {args : List AV} {β : Type} [EncE β] {l : List β} {sz : Nat} (hf : P.funcs[f]? = some fn) (hb : fn.body = some c) (hnm : (fn.name == "runtime.NumGoroutine") = false)
  (hn:args.length ≤ fn.ntmps) (hmx:P.follows .mixedOrders = true) (hΦ:zam P Φ) (ht:∀ a ∈ args,a.strip = a) (hdep:EncE.dep β ≤ 8)
  (h:vc P Φ c (retA P fn.results.toList (fun vs st => frR (l.map EncE.cs) sz (zfh vs) st.mem)) (zaj fn.ntmps args [])):zfD P f args sz (l.map EncE.cs):=by
 refine ⟨⟨fn,hf,hnm,by rw [hb]; rfl⟩,fun κ w vs hk hs hr => ?_⟩
 let X:Nat → Prop:=fun b => b < w.heap.size
 have hm:RelM κ noLc (fun _ => none) X [] w:=⟨fun l => trivial,fun l l' b hl => by simp [zaa,blk] at hl,hk,fun _ _ => rfl,fun l cs b vs T hl => by simp [zaa] at hl⟩
 have hrel:=zfG (n:=fn.ntmps) hm (fun b hb => hb) hn hs hr ht
 refine callsIn_of_wp_marks hf hb trivial ?_
 have hwp:c.wpIn Fence.wide 0 P _ _ w:=zbG hmx hΦ c _ _ h none (.inl rfl) X ⟨w,κ⟩ 0 κ noLc (fun _ => none) _ w hrel
 refine wpIn_mono hwp ?_
 rintro e a' w' ⟨κ',ρ',τ',st',g1,g2,g3⟩
 have hpure:∀ e ∈ l.map EncE.cs,∀ c ∈ e,za8 (EncE.dep β) c:=fun e he c hc => by
  obtain ⟨y,_,rfl⟩:=czx.1 he
  exact EncE.ok y c hc
 have hfin:zgf P fn.results.toList (fun vs st => frR (l.map EncE.cs) sz (zfh vs) st.mem) st'.marks st' → LeavesInM Fence.wide 0 P fn a'.tmps (fun e w' => ∃ x κ',e = .returned x ∧ Rep κ' noLc (.sl (l.map EncE.cs) .no) x ∧ Grow κ w κ' w' ∧ Room κ' w w' (l.map EncE.cs).length sz x) a'.defers .returning w':=by
  intro hd
  refine zdc (κ:=κ') (st:=st') (X:=X) (w0:=⟨w,κ⟩) (m0:=0) ?_ st'.marks st' a' w' rfl g1 (Ext.refl _ _ _ _ _) hd
  intro κ2 st2 a2 w2 us x q1 q2 q3 qt0 q4
  have qt:OwnOK τ' st2.mem (zfh us) x:=by
   match us,qt0 with
   | [u],qt => exact qt.own
   | [],_ => exact (zax rfl:TokOK τ' st2.mem (AV.tup []) x).own
   | u :: v :: r,_ => exact (zax rfl:TokOK τ' st2.mem (AV.tup (u :: v :: r)) x).own
  generalize zfh us = v at q3 qt q4
  have hgrow:Grow κ w κ2 w2:=⟨Kn.le_trans g2.le q2.le,q1.mem.know,⟨q1.frm.os,q1.frm.tape,q1.frm.output,q1.frm.size,q1.frm.block⟩,fun b o hb => q1.kx.1 b o hb,fun b hb => q1.kx.2 b hb⟩
  have himm:∀ tk,imm 9 (.sl (l.map EncE.cs) tk):=fun tk e he c hc => zgS _ _ _ (hpure e he c hc) (by omega)
  have hsn:∀ tk,zbk 9 ([]:List AObj) (.sl (l.map EncE.cs) tk) = .sl (l.map EncE.cs) .no:=fun tk => zjo l tk (by omega)
  unfold frR at q4
  split at q4
  ·rename_i es k
   obtain ⟨rfl,hk'⟩:=q4
   have hrep:=zd4 (mem:=([]:List AObj)) 9 (himm _) q3
   rw [hsn] at hrep
   refine ⟨x,κ2,rfl,hrep,hgrow,?_⟩
   obtain ⟨n,s,h1,_,h3⟩:=qt _ k rfl trivial
   rw [hk'] at h1
   cases h1
   obtain ⟨ad,len,cap,hx,hc⟩:=h3 rfl
   rcases hc with hc | ⟨b,c,hb1,hb2,hb3⟩
   ·exact .inl ⟨ad,len,by rw [hx,hc]⟩
   ·have ho:=q1.mem.obj k
    rw [hk'] at ho
    have hlen:len = (l.map EncE.cs).length:=by
     rw [hx] at q3
     have key:∀ (es:List (List AV)) (tk:Tk),Rep κ2 ρ' (.sl es tk) (.slice ad len cap) → (∃ b,ad = some b) → len = es.length:=by
      intro es tk hh he
      cases hh with
      | slnil => obtain ⟨_,he⟩:=he; cases he
      | sl => rfl
     exact key _ _ q3 ⟨_,hb1⟩
    rcases ho with ho | ⟨b',c',us,T,o1,o2,o3,o4,o5⟩
    ·rw [hb2] at ho; cases ho
    ·rw [hb2] at o1
     cases o1
     refine .inr ⟨b,cap,us,T,by rw [hx,hb1,hlen],?_,o3,o4,by omega⟩
     by_cases hlt:b < w.heap.size
     ·exact absurd hlt o2
     ·omega
  ·rename_i es
   subst q4
   have hrep:=zd4 (mem:=([]:List AObj)) 9 (himm _) q3
   rw [hsn] at hrep
   refine ⟨x,κ2,rfl,hrep,hgrow,.inl ?_⟩
   have key:∀ (es:List (List AV)) (y:Value),Rep κ2 ρ' (.sl es .full) y → ∃ a len,y = .slice a len len:=by
    intro es y hh
    cases hh with
    | slnil => exact ⟨none,0,rfl⟩
    | sl _ _ b o cap sz' val _ _ _ hfull _ => exact ⟨_,_,by rw [hfull rfl]⟩
   exact key _ _ q3
  ·exact q4.elim
 cases e with
 | normal => exact hfin g3
 | ret => exact hfin g3
 | _ => exact g3.elim
end
end Go.Fs
namespace Go.Fs
open Go.RowKit (Below)
open Go.ChangeShapes Go.WideShapes Go.ChangeAt
theorem zk5 {k:IntKind} {n:Int} (h:(Lit.int k n).wf = true):InR k n:=by
 cases k <;> simp [Lit.wf,IntKind.min,IntKind.max,IntKind.bits,IntKind.signed] at h <;> simp only [InR] <;> omega
structure RdE (P:Program) (T:TypeId) (α:Type) [EncE α] (ok:α → Prop):Prop where
 sz:P.cellsOf T = EncE.sz α
 rd:∀ {H:Type} (enc:TypeId × Value → H) (w:World) (base:Nat) (spare:Nat → Bool) (held:Bool) (fuel:Nat) (cs:List Value) (x:DataW H × List MemPlace),
  DataW.trod enc P w base spare held fuel T cs = some x → ∃ y:α,ok y ∧ RepL (zdp w) noLc (EncE.cs y) cs.toArray
def RdV (P:Program) (T:TypeId) (α:Type) [Enc α] (ok:α → Prop):Prop :=
 ∀ {H:Type} (enc:TypeId × Value → H) (w:World) (base:Nat) (v:Value) (d:DataW H) (ps:List MemPlace),
  Value.okWide P w .any base T v → DataW.Trod enc P w 0 (fun _ => true) true T v d ps → (d.weights P T).all (· ≤ reachBytes) = true → ∃ y:α,ok y ∧ Rep (zdp w) noLc (Enc.enc y) v
section
variable {P:Program}
theorem ze2 {H:Type} {enc:TypeId × Value → H} {w:World} {base:Nat} {spare:Nat → Bool} {held:Bool} {fuel:Nat} {T:TypeId} {fs:Array Field} {cs:List Value} {x:DataW H × List MemPlace} (ht:P.underlying T = some (.struct fs))
  (h:DataW.trod enc P w base spare held fuel T cs = some x):cs.length = P.cellsOf T ∧ ∃ xs:List (DataW H × List MemPlace),x.1 = .agg (xs.map (·.1)) ∧ xs.length = fs.size ∧ ∀ (i:Nat) (f:Field),fs[i]? = some f →
   ∃ n y,xs[i]? = some y ∧ DataW.trod enc P w base spare held n f.type ((cs.drop f.offset).take (P.cellsOf f.type)) = some y:=by
 obtain ⟨xs,n,_,rfl,hl,hlen,hf⟩:=DataW.trod_struct ht h
 refine ⟨hl,xs,rfl,by simpa using hlen,fun i f hi => ?_⟩
 have:=hf i f (by simpa using hi)
 have hlt:i < xs.length:=by
  have h1:i < fs.size:=by
   by_cases hl:i < fs.size
   ·exact hl
   ·rw [Array.getElem?_eq_none (czE hl)] at hi; cases hi
  have h2:xs.length = fs.size:=by simpa using hlen
  omega
 exact ⟨n,xs[i],czw hlt,by rw [this,czw hlt]⟩
theorem znK {α:Type} (n:Nat) (Q:Nat → α → Prop) (h:∀ i,i < n → ∃ y,Q i y):∃ l:List α,l.length = n ∧ ∀ i y,l[i]? = some y → Q i y:=by
 induction n with
 | zero => exact ⟨[],rfl,fun i y h => by simp at h⟩
 | succ n ih =>
  obtain ⟨l,hl,hq⟩:=ih fun i hi => h i (by omega)
  obtain ⟨y,hy⟩:=h n (by omega)
  refine ⟨l ++ [y],by simp [hl],fun i z hz => ?_⟩
  by_cases hi:i < n
  ·rw [czi (by omega)] at hz
   exact hq i z hz
  ·have:i < (l ++ [y]).length:=(List.getElem?_eq_some_iff.1 hz).1
   simp at this
   obtain rfl:i = n:=by omega
   rw [czj (by omega)] at hz
   simp [hl] at hz
   subst hz; exact hy
theorem zju {α:Type} [EncE α] {ok:α → Prop} {H:Type} {enc:TypeId × Value → H} {w:World} {base:Nat} {spare:Nat → Bool} {held:Bool} {fuel:Nat} {T E:TypeId} {v:Value} {x:DataW H × List MemPlace}
  (hE:RdE P E α ok) (ht:P.underlying T = some (.slice E)) (h:DataW.trod enc P w base spare held fuel T [v] = some x) (hs:∀ a l c,v = .slice (some a) l c → a.spot = none) :
  ∃ l:List α,(∀ y ∈ l,ok y) ∧ Rep (zdp w) noLc (.sl (l.map EncE.cs) .no) v ∧ (∀ B,(x.1.weights P T).all (· ≤ B) = true → l.length * P.bytesOf E ≤ B):=by
 rcases DataW.trod_slice ht h with ⟨hc,hx⟩ | ⟨a,len,cap,elems,rest,n,_,hc,hx,hb,hl,hm,hlen,hel,_,_⟩
 ·simp only [List.cons.injEq,and_true] at hc
  subst hc
  exact ⟨[],by simp,.slnil _,fun B _ => by simp⟩
 ·simp only [List.cons.injEq,and_true] at hc
  subst hc
  have hsp:=hs a len cap rfl
  obtain ⟨l,h1,h2⟩:=znK len (fun i (y:α) => ok y ∧ ∀ j,j < EncE.sz α → ∃ u,w.cell? ⟨a.block,a.off + i * EncE.sz α + j,none⟩ = some u ∧ Rep (zdp w) noLc ((EncE.cs y).getD j .undef) u) (fun i hi => by
   have he:=hel i hi
   rw [czw (by omega),Option.bind_eq_some_iff] at he
   obtain ⟨cs,hcs,hy⟩:=he
   obtain ⟨y,hy1,hy2⟩:=hE.rd enc w base spare held n cs _ hy
   obtain ⟨g1,g2,g3⟩:=World.cells?_some hcs
   refine ⟨y,hy1,fun j hj => ?_⟩
   have hjl:j < cs.length:=by
    rw [hE.sz] at g2; omega
   have hj':=g3 j (by rw [hE.sz]; exact hj)
   refine ⟨cs[j],?_,?_⟩
   ·rw [czw hjl] at hj'
    rw [← hj']
    congr 1
    have ea:a = ⟨a.block,a.off,none⟩:=by cases a; simp_all
    conv => rhs; rw [ea]
    rw [zbl,zbl,hE.sz]
   ·have:=hy2.2 j (by rw [EncE.len]; exact hj)
    have e:cs.toArray.getD j Go.undef = cs[j]:=by simp [hjl]
    rwa [e] at this)
  have hat:∀ i,i < len → ∃ y,l[i]? = some y ∧ (l.map EncE.cs).getD i [] = EncE.cs y:=fun i hi => by
   have hi':i < l.length:=by omega
   exact ⟨l[i],czw hi',by simp [List.getD,hi']⟩
  refine ⟨l,fun y hy => ?_,?_,fun B hB => ?_⟩
  ·obtain ⟨i,hi,rfl⟩:=List.getElem_of_mem hy
   exact (h2 i _ (czw hi)).1
  ·have ea:a = ⟨a.block,a.off,none⟩:=by cases a; simp_all
   have hll:len = (l.map (EncE.cs (α:=α))).length:=by simp [h1]
   rw [ea,hll]
   refine .sl _ .no a.block a.off cap (EncE.sz α) (fun i j => (w.cell? ⟨a.block,a.off + i * EncE.sz α + j,none⟩).getD Go.undef) (fun i hi => ?_) (fun i j hi hj => ?_) (fun i j hi hj => ?_) (fun e => by cases e) (by omega)
   ·obtain ⟨y,_,e⟩:=hat i (by omega)
    rw [e,EncE.len]
   ·obtain ⟨y,hy,_⟩:=hat i (by omega)
    obtain ⟨u,hu,_⟩:=(h2 i y hy).2 j hj
    show w.cell? _ = _
    rw [hu]; rfl
   ·obtain ⟨y,hy,e⟩:=hat i (by omega)
    obtain ⟨u,hu,hr⟩:=(h2 i y hy).2 j hj
    rw [e,hu]
    exact hr
  ·have:=czG.1 hB ((elems.length + rest.length) * P.bytesOf E) (by rw [hx]; simp [DataW.weights,ht])
   have h3:(elems.length + rest.length) * P.bytesOf E ≤ B:=by simpa using this
   have h4:l.length * P.bytesOf E ≤ (elems.length + rest.length) * P.bytesOf E:=czq _ (by omega)
   omega
theorem zf8 {w:World} {r:Reach} {base:Nat} {T:TypeId} {cs:Array Value} (h:Row.okWide P w r base T cs) {i:Nat} {a:Addr} {l c:Nat} (hi:cs[i]? = some (.slice (some a) l c)):a.spot = none:=by
 obtain ⟨ts,_,_,h3⟩:=h
 obtain ⟨u,_,hu⟩:=h3 i _ hi
 unfold Cell.okWide at hu
 split at hu
 all_goals (try (rename_i h1 h2; cases h2; done))
 unfold Cell.ok at hu
 split at hu
 all_goals (try (rename_i h1 h2; cases h2; done))
 ·rename_i h1 h2
  cases h2
  exact hu.2.2.2.1
 ·exact hu.elim
theorem ziN {w:World} {r:Reach} {base:Nat} {T:TypeId} {fs:Array Field} {v:Value} (ht:P.underlying T = some (.struct fs)) (h:Value.okWide P w r base T v):∃ cs,v = .agg cs ∧ cs.size = P.cellsOf T ∧ Row.okWide P w r base T cs:=by
 unfold Value.okWide at h
 rw [ht] at h
 exact h
theorem zqp {H:Type} {enc:TypeId × Value → H} {C:Checked} {os:Os} {f:FuncId} {fn:Func} {s:ChangeSpec} {conds:List PathCond} {tb:TypeId}
  (own:ownKnob C.prog.godebug = none) (started:os.Started) (noInit:C.prog.inits.idxOf? f = none) (hfn:C.prog.funcs[f]? = some fn)
  (witness:∃ (w:World) (tape:Tape) (i:Input),w.os = os ∧ (w.forCall tape i).Shaped C.prog ∧ i.vars = [] ∧ Input.okWide C.prog (w.forCall tape i) .any w.heap.size f i ∧
   s.pre6 enc C.prog fn conds false (w.forCall tape i).memory i.args ∧ ({}:Assume).holds C.prog (lone (Frame.enter C.prog f i.args .normal) [] (w.forCall tape i)))
  (hvars:s.vars = []) (laid:laidOutB C.prog = true) (hps:fn.params.toList.all (fun t => C.prog.readableRec t && decide (t < C.prog.types.size)) = true)
  (hres:fn.resultTypes = #[tb]) (htb:C.prog.underlying tb = some .bool)
  (hspec:∀ ds:List (DataW H),ds.length = fn.params.size → (s.fn H ds).results = [.lit (.bool true)] ∧ (s.fn H ds).args = ds ∧ (s.fn H ds).vars = [])
  (hcall:∀ (W:World) (base:Nat) (args:Array Value) (ds:List (DataW H)) (ps:List MemPlace),(∀ (j:Nat) t v,fn.params[j]? = some t → args[j]? = some v → Value.okWide C.prog W .any base t v) →
   DataW.TrodAll enc C.prog W 0 (fun _ => true) true fn.params.toList args.toList ds ps → (DataW.weightsEach C.prog fn.params.toList ds).all (· ≤ reachBytes) = true →
   ∃ avs:List AV,RepL (zdp W) noLc avs args ∧ zaH C.prog f avs (· = .bool true)) :
  ReturnsInHanded {} C os f .any (s.pre6 enc C.prog fn conds false) (s.post enc C.prog fn false true false false):=by
 refine returnsInHanded_of_change_sized own started noInit hfn witness ?_
 intro W base args ds gs before hval hW _ hsz _
 have hW':=hW
 obtain ⟨p,q,hA,hV,rfl,_,_⟩:=hW
 rw [hvars] at hV
 obtain ⟨rfl,rfl⟩:=trodVars_none hV
 have hvt:s.plain.varTypes C.prog = []:=by
  unfold DataSpec.varTypes ChangeSpec.plain
  simp [hvars]
 rw [hvt,List.append_nil,List.append_nil] at hsz
 obtain ⟨avs,hr,hc⟩:=hcall W base args ds p hval hA hsz
 have hlt:∀ x ∈ p,x.block < W.heap.size:=fun x hx => hW'.lt x (by simp [hx])
 have hall:∀ (W':World),Below W.heap.size W W' → ∀ (ts:List TypeId) (vs:List Value) (ds:List (DataW H)) (p:List MemPlace),ts.all (fun t => C.prog.readableRec t && decide (t < C.prog.types.size)) = true → (∀ x ∈ p,x.block < W.heap.size) →
   DataW.TrodAll enc C.prog W 0 (fun _ => true) true ts vs ds p → DataW.TrodAll enc C.prog W' 0 (fun b => decide (b < W.heap.size)) true ts vs ds p:=by
  intro W' hb ts
  induction ts with
  | nil =>
   intro vs ds p _ _ h
   obtain ⟨rfl,rfl,rfl⟩:=trodAll_nil h
   exact rfl
  | cons t ts ih =>
   intro vs ds p hps hlt h
   obtain ⟨v,vs',d,ds',a,b,rfl,rfl,rfl,h1,h2⟩:=trodAll_cons h
   simp only [List.all_cons,czl] at hps
   exact ⟨a,b,Below.trod laid hps.1.1 (of_decide_eq_true hps.1.2) h1 hb (fun x hx => hlt x (by simp [hx])),ih vs' ds' b hps.2 (fun x hx => hlt x (by simp [hx])) h2,rfl⟩
 have hlen:ds.length = fn.params.size:=by
  have key:∀ (ts:List TypeId) (vs:List Value) (ds:List (DataW H)) (p:List MemPlace),DataW.TrodAll enc C.prog W 0 (fun _ => true) true ts vs ds p → ds.length = ts.length:=by
   intro ts
   induction ts with
   | nil => intro vs ds p h; obtain ⟨_,rfl,_⟩:=trodAll_nil h; rfl
   | cons t ts ih =>
    intro vs ds p h
    obtain ⟨v,vs',d,ds',a,b,rfl,rfl,rfl,h1,h2⟩:=trodAll_cons h
    simp [ih vs' ds' b h2]
  rw [key _ _ _ _ hA]; simp
 obtain ⟨e1,e2,e3⟩:=hspec ds hlen
 have hcalls:=callsIn_wide.1 (hc.2 (zdp W) W args (zdo W) hr.1 hr.2)
 refine hcalls.mono fun e W' ⟨x,κ',r,he,hrt,hrep,hg⟩ => ?_
 subst hrt
 have hx:=hrep.bool_inv
 subst hx
 refine ⟨_,he,ds,[],p ++ [],[],p,[],hW',?_,?_,?_,hg.below.frame _,fun h => by cases h⟩
 ·rw [List.append_nil,e1,hres]
  exact trodAll_mk1 (Go.RowKit.shut_bool htb true)
 ·rw [List.append_nil,e2]
  exact hall W' hg.below _ _ _ _ hps hlt hA
 ·rw [List.append_nil,e3,hvars]
  exact rfl
end
end Go.Fs
namespace Go.Fs
theorem zkk {P:Program} {Φ:zay} {ds:List (Option Tmp)} {K:St → Prop}:∀ (n:Nat) (os:List Oper),zcj P Φ ds os K = zcj P Φ ds (os.take n) (zcj P Φ ds (os.drop n) K)
 | 0,os => by simp only [List.take_zero,List.drop_zero]; funext st; rfl
 | n + 1,[] => by simp only [List.take_nil,List.drop_nil]; funext st; rfl
 | n + 1,o :: os => by
  simp only [List.take_succ_cons,List.drop_succ_cons]
  funext st
  simp only [zcj]
  rw [← zkk n os]
theorem zbH {P:Program} {Φ:zay} {ds:List (Option Tmp)} {K:St → Prop} (n:Nat) {os:List Oper} {st:St}
  (h:∀ K',K' = zcj P Φ ds (os.drop n) K → zcj P Φ ds (os.take n) K' st):zcj P Φ ds os K st:=by
 rw [zkk n os]; exact h _ rfl
theorem zby {P:Program} {Φ:zay} {ds:List (Option Tmp)} {os:List Oper} {K:St → Prop} {st:St} (ks:List Nat)
  (h:∀ tm',(∀ k ∈ ks,lk tm' k = lk st.tm k) → zcj P Φ ds os K { st with tm:=tm' }):zcj P Φ ds os K st:=h st.tm fun _ _ => rfl
theorem zoe {P:Program} {Φ:zay} {ops:List Oper} {K:St → Prop} {st:St} (h:∀ ds,ds = ops.map (·.dst) → zcj P Φ ds ops K st):zcj P Φ (ops.map (·.dst)) ops K st:=h _ rfl
theorem zaz {P:Program} {Φ:zay} {a b:Code} {Q:QA} {st:St} (h:∀ Q',Q' = zaO (vc P Φ b Q) Q → vc P Φ a Q' st):vc P Φ (.seq a b) Q st:=h _ rfl
end Go.Fs
namespace Go.Fs
open Go.RowKit (Below)
open Go.ChangeShapes Go.WideShapes Go.ChangeAt
def RdL (P:Program) (ts:List TypeId) (R:List AV → Prop):Prop :=
 ∀ {H:Type} (enc:TypeId × Value → H) (w:World) (base:Nat) (vs:List Value) (ds:List (DataW H)) (ps:List MemPlace),
  (∀ (j:Nat) t v,ts[j]? = some t → vs[j]? = some v → Value.okWide P w .any base t v) → DataW.TrodAll enc P w 0 (fun _ => true) true ts vs ds ps →
  (DataW.weightsEach P ts ds).all (· ≤ reachBytes) = true → ∃ avs,R avs ∧ RepL (zdp w) noLc avs vs.toArray
theorem rdL_nil {P:Program}:RdL P [] (· = []):=fun enc w base vs ds ps _ h _ => by
 obtain ⟨rfl,_,_⟩:=trodAll_nil h
 exact ⟨[],rfl,rfl,fun i hi => absurd hi (by simp)⟩
theorem zgR {P:Program} {T:TypeId} {ts:List TypeId} {α:Type} [Enc α] {ok:α → Prop} {R:List AV → Prop} (h:RdV P T α ok) (hr:RdL P ts R) :
  RdL P (T :: ts) (fun avs => ∃ a r,ok a ∧ R r ∧ avs = Enc.enc a :: r):=fun enc w base vs ds ps hv ht hw => by
 obtain ⟨v,vs',d,ds',p,q,rfl,rfl,rfl,h0,r0⟩:=trodAll_cons ht
 have hw':(d.weights P T).all (· ≤ reachBytes) = true ∧ (DataW.weightsEach P ts ds').all (· ≤ reachBytes) = true:=by
  have e:DataW.weightsEach P (T :: ts) (d :: ds') = d.weights P T ++ DataW.weightsEach P ts ds':=by simp [DataW.weightsEach]
  rw [e,List.all_append,czl] at hw
  exact hw
 obtain ⟨a,ha,hrep⟩:=h enc w base v d p (hv 0 T v rfl rfl) h0 hw'.1
 obtain ⟨r,hR,hl,hrr⟩:=hr enc w base vs' ds' q (fun j t x h1 h2 => hv (j + 1) t x h1 h2) r0 hw'.2
 refine ⟨Enc.enc a :: r,⟨a,r,ha,hR,rfl⟩,by simpa using hl,fun i hi => ?_⟩
 cases i with
 | zero => simpa using hrep
 | succ i =>
  have:=hrr i (by simpa using hi)
  simpa using this
theorem law_read {H:Type} {enc:TypeId × Value → H} {C:Checked} {os:Os} {f:FuncId} {fn:Func} {s:ChangeSpec} {conds:List PathCond} {tb:TypeId} {R:List AV → Prop}
  (own:ownKnob C.prog.godebug = none) (started:os.Started) (noInit:C.prog.inits.idxOf? f = none) (hfn:C.prog.funcs[f]? = some fn)
  (witness:∃ (w:World) (tape:Tape) (i:Input),w.os = os ∧ (w.forCall tape i).Shaped C.prog ∧ i.vars = [] ∧ Input.okWide C.prog (w.forCall tape i) .any w.heap.size f i ∧
   s.pre6 enc C.prog fn conds false (w.forCall tape i).memory i.args ∧ ({}:Assume).holds C.prog (lone (Frame.enter C.prog f i.args .normal) [] (w.forCall tape i)))
  (hvars:s.vars = []) (laid:laidOutB C.prog = true) (hps:fn.params.toList.all (fun t => C.prog.readableRec t && decide (t < C.prog.types.size)) = true)
  (hres:fn.resultTypes = #[tb]) (htb:C.prog.underlying tb = some .bool)
  (hspec:∀ ds:List (DataW H),ds.length = fn.params.size → (s.fn H ds).results = [.lit (.bool true)] ∧ (s.fn H ds).args = ds ∧ (s.fn H ds).vars = [])
  (hrd:RdL C.prog fn.params.toList R) (hcall:∀ avs,R avs → zaH C.prog f avs (· = .bool true)) :
  ReturnsInHanded {} C os f .any (s.pre6 enc C.prog fn conds false) (s.post enc C.prog fn false true false false) :=
 zqp own started noInit hfn witness hvars laid hps hres htb hspec fun W base args ds ps hv hA hw => by
  obtain ⟨avs,hR,hrep⟩:=hrd enc W base args.toList ds ps (fun j t v h1 h2 => hv j t v (by simpa using h1) (by simpa using h2)) hA hw
  exact ⟨avs,by simpa using hrep,hcall avs hR⟩
end Go.Fs
namespace Go.Fs
open Go.ChangeShapes Go.WideShapes Go.ChangeAt
structure Uk (k:IntKind) where
 n:Int
instance {k:IntKind}:Inhabited (Uk k):=⟨⟨0⟩⟩
instance {k:IntKind}:Enc (Uk k) where
 enc u:=.int k u.n
 dec
  | .int j n => if j = k then some ⟨n⟩ else none
  | _ => none
 law v x h:=by
  split at h
  ·rename_i j n
   by_cases e:j = k
   ·rw [if_pos e] at h
    cases h
    rw [e]
   ·rw [if_neg e] at h; cases h
  ·cases h
 dep:=1
 ok _:=trivial
instance {k:IntKind}:EncE (Uk k) where
 cs u:=[.int k u.n]
 dcs
  | [.int j n] => if j = k then some ⟨n⟩ else none
  | _ => none
 law v x h:=by
  split at h
  ·rename_i j n
   by_cases e:j = k
   ·rw [if_pos e] at h
    cases h
    rw [e]
   ·rw [if_neg e] at h; cases h
  ·cases h
 inv x:=by simp
 dep:=1
 sz:=1
 len _:=rfl
 ok x c hc:=by
  simp only [czC] at hc
  subst hc
  exact trivial
theorem rdV_uk {P:Program} {k:IntKind} {T:TypeId} (ht:P.underlying T = some (.int k)):RdV P T (Uk k) (fun u => InR k u.n):=fun enc w base v d ps hv ⟨fuel,h⟩ _ => by
 obtain ⟨n,rfl⟩:=okWide_int ht hv
 obtain ⟨m,hm,_,hw⟩:=DataW.trod_int ht h
 simp [Value.cells] at hm
 subst hm
 exact ⟨⟨n⟩,zk5 hw,.int _ _⟩
end Go.Fs
namespace Go.Fs
section
variable {P:Program} {Φ:zay}
def zqg:AV → AV
 | .sl es .full => .sl es .no
 | v => v
theorem Rep.noFull {κ:Kn} {ρ:Lc} {v:AV} {x:Value} (h:Rep κ ρ v x):Rep κ ρ (zqg v) x:=by
 unfold zqg
 split
 ·cases h with
  | slnil => exact .slnil _
  | sl _ _ b o cap sz val h1 h2 h3 h4 h5 => exact .sl _ _ b o cap sz val h1 h2 h3 (fun e => by cases e) h5
 ·exact h
theorem Rep.slMap {κ:Kn} {ρ:Lc} {es:List (List AV)} {tk:Tk} {x:Value} (h:Rep κ ρ (.sl es tk) x):Rep κ ρ (.sl (es.map fun e => e.map zqg) tk) x:=by
 cases h with
 | slnil => exact .slnil _
 | sl _ _ b o cap sz val h1 h2 h3 h4 h5 =>
  have e:∀ i,(es.map fun e => e.map zqg).getD i [] = (es.getD i []).map zqg:=fun i => by
   simp only [List.getD,List.getElem?_map]
   cases es[i]? <;> rfl
  have e2:∀ (r:List AV) j,(r.map zqg).getD j .undef = zqg (r.getD j .undef):=fun r j => by
   simp only [List.getD,List.getElem?_map]
   cases r[j]? <;> rfl
  have hl:(es.map fun e => e.map zqg).length = es.length:=czz ..
  have:=Rep.sl (κ:=κ) (ρ:=ρ) (es.map fun e => e.map zqg) tk b o cap sz val (fun i hi => by rw [e,czz]; exact h1 i (by omega)) (fun i j hi hj => h2 i j (by omega) hj)
   (fun i j hi hj => by rw [e,e2]; exact (h3 i j (by omega) hj).noFull) (fun q => by rw [hl]; exact h4 q) (by omega)
  rwa [hl] at this
def frRn (es0:List (List AV)) (sz:Nat) (v:AV) (mem:List AObj):Prop :=
 match v with
 | .sl es (.own k) => (es.map fun e => e.map zqg) = es0 ∧ zaa mem k = .tok es.length sz
 | .sl es .full => (es.map fun e => e.map zqg) = es0
 | _ => False
theorem zgw {f : FuncId} {fn : Func} {c : Code} {args : List AV} {β : Type} [EncE β] {l : List β} {sz : Nat} (hf : P.funcs[f]? = some fn) (hb : fn.body = some c) (hnm : (fn.name == "runtime.NumGoroutine") = false)
  (hn:args.length ≤ fn.ntmps) (hmx:P.follows .mixedOrders = true) (hΦ:zam P Φ) (ht:∀ a ∈ args,a.strip = a) (hdep:EncE.dep β ≤ 8)
  (h:vc P Φ c (retA P fn.results.toList (fun vs st => frRn (l.map EncE.cs) sz (zfh vs) st.mem)) (zaj fn.ntmps args [])):zfD P f args sz (l.map EncE.cs):=by
 refine ⟨⟨fn,hf,hnm,by rw [hb]; rfl⟩,fun κ w vs hk hs hr => ?_⟩
 let X:Nat → Prop:=fun b => b < w.heap.size
 have hm:RelM κ noLc (fun _ => none) X [] w:=⟨fun l => trivial,fun l l' b hl => by simp [zaa,blk] at hl,hk,fun _ _ => rfl,fun l cs b vs T hl => by simp [zaa] at hl⟩
 have hrel:=zfG (n:=fn.ntmps) hm (fun b hb => hb) hn hs hr ht
 refine callsIn_of_wp_marks hf hb trivial ?_
 have hwp:c.wpIn Fence.wide 0 P _ _ w:=zbG hmx hΦ c _ _ h none (.inl rfl) X ⟨w,κ⟩ 0 κ noLc (fun _ => none) _ w hrel
 refine wpIn_mono hwp ?_
 rintro e a' w' ⟨κ',ρ',τ',st',g1,g2,g3⟩
 have hpure:∀ e ∈ l.map EncE.cs,∀ c ∈ e,za8 (EncE.dep β) c:=fun e he c hc => by
  obtain ⟨y,_,rfl⟩:=czx.1 he
  exact EncE.ok y c hc
 have hfin:zgf P fn.results.toList (fun vs st => frRn (l.map EncE.cs) sz (zfh vs) st.mem) st'.marks st' → LeavesInM Fence.wide 0 P fn a'.tmps (fun e w' => ∃ x κ',e = .returned x ∧ Rep κ' noLc (.sl (l.map EncE.cs) .no) x ∧ Grow κ w κ' w' ∧ Room κ' w w' (l.map EncE.cs).length sz x) a'.defers .returning w':=by
  intro hd
  refine zdc (κ:=κ') (st:=st') (X:=X) (w0:=⟨w,κ⟩) (m0:=0) ?_ st'.marks st' a' w' rfl g1 (Ext.refl _ _ _ _ _) hd
  intro κ2 st2 a2 w2 us x q1 q2 q3 qt0 q4
  have qt:OwnOK τ' st2.mem (zfh us) x:=by
   match us,qt0 with
   | [u],qt => exact qt.own
   | [],_ => exact (zax rfl:TokOK τ' st2.mem (AV.tup []) x).own
   | u :: v :: r,_ => exact (zax rfl:TokOK τ' st2.mem (AV.tup (u :: v :: r)) x).own
  generalize zfh us = v at q3 qt q4
  have hgrow:Grow κ w κ2 w2:=⟨Kn.le_trans g2.le q2.le,q1.mem.know,⟨q1.frm.os,q1.frm.tape,q1.frm.output,q1.frm.size,q1.frm.block⟩,fun b o hb => q1.kx.1 b o hb,fun b hb => q1.kx.2 b hb⟩
  have himm:∀ tk,imm 9 (.sl (l.map EncE.cs) tk):=fun tk e he c hc => zgS _ _ _ (hpure e he c hc) (by omega)
  have hsn:∀ tk,zbk 9 ([]:List AObj) (.sl (l.map EncE.cs) tk) = .sl (l.map EncE.cs) .no:=fun tk => zjo l tk (by omega)
  unfold frRn at q4
  split at q4
  ·rename_i es k
   obtain ⟨he,hk'⟩:=q4
   have hel:es.length = (l.map EncE.cs).length:=by rw [← he,czz]
   have q3':=Rep.slMap q3
   rw [he] at q3'
   have hrep:=zd4 (mem:=([]:List AObj)) 9 (himm _) q3'
   rw [hsn] at hrep
   refine ⟨x,κ2,rfl,hrep,hgrow,?_⟩
   obtain ⟨n,s,h1,_,h3⟩:=qt _ k rfl trivial
   rw [hk'] at h1
   cases h1
   obtain ⟨ad,len,cap,hx,hc⟩:=h3 rfl
   rcases hc with hc | ⟨b,c,hb1,hb2,hb3⟩
   ·exact .inl ⟨ad,len,by rw [hx,hc]⟩
   ·have ho:=q1.mem.obj k
    rw [hk'] at ho
    have hlen:len = (l.map EncE.cs).length:=by
     rw [hx] at q3
     have key:∀ (es:List (List AV)) (tk:Tk),Rep κ2 ρ' (.sl es tk) (.slice ad len cap) → (∃ b,ad = some b) → len = es.length:=by
      intro es tk hh he
      cases hh with
      | slnil => obtain ⟨_,he⟩:=he; cases he
      | sl => rfl
     exact (key _ _ q3 ⟨_,hb1⟩).trans hel
    rcases ho with ho | ⟨b',c',us,T,o1,o2,o3,o4,o5⟩
    ·rw [hb2] at ho; cases ho
    ·rw [hb2] at o1
     cases o1
     refine .inr ⟨b,cap,us,T,by rw [hx,hb1,hlen],?_,by rw [← hel]; exact o3,o4,by omega⟩
     by_cases hlt:b < w.heap.size
     ·exact absurd hlt o2
     ·omega
  ·rename_i es
   have q3':=Rep.slMap q3
   rw [q4] at q3'
   have hrep:=zd4 (mem:=([]:List AObj)) 9 (himm _) q3'
   rw [hsn] at hrep
   refine ⟨x,κ2,rfl,hrep,hgrow,.inl ?_⟩
   have key:∀ (es:List (List AV)) (y:Value),Rep κ2 ρ' (.sl es .full) y → ∃ a len,y = .slice a len len:=by
    intro es y hh
    cases hh with
    | slnil => exact ⟨none,0,rfl⟩
    | sl _ _ b o cap sz' val _ _ _ hfull _ => exact ⟨_,_,by rw [hfull rfl]⟩
   exact key _ _ q3
  ·exact q4.elim
 cases e with
 | normal => exact hfin g3
 | ret => exact hfin g3
 | _ => exact g3.elim
end
end Go.Fs
