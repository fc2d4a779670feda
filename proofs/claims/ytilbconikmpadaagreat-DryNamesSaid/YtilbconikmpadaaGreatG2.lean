/- The texts A9, A10, A11, A12, A13, A14, A15, A30, joined. -/
import Derived.Test.YtilbconikmpadaaGreatG1
import Derived.RangeFuncLeaves
import Derived.LoopNIn
import Derived.TacticsIn
set_option linter.all false
namespace Go.Fs
open Go.RowKit (Below)
def DefOk (ρ:Lc):List Nat → List Deferred → Prop
 | [],ds => ds = []
 | l :: ls,ds => ∃ b rest,ρ l = some b ∧ ds = { target:=.collected b,args:=#[] } :: rest ∧ DefOk ρ ls rest
structure Frm (X:Nat → Prop) (w0 w:World):Prop where
 os:w.os = w0.os
 tape:w.tape = w0.tape
 output:w.output = w0.output
 size:w0.heap.size ≤ w.heap.size
 block:∀ b,X b → w.heap[b]? = w0.heap[b]?
structure W0 where
 w:World
 κ:Kn
def KeepX (X:Nat → Prop) (κ κ':Kn):Prop:=(∀ b o,X b → κ' b o = κ b o) ∧ ∀ b,X b → κ'.m b = κ.m b
theorem KeepX.refl (X:Nat → Prop) (κ:Kn):KeepX X κ κ:=⟨fun _ _ _ => rfl,fun _ _ => rfl⟩
theorem KeepX.trans {X:Nat → Prop} {κ κ' κ'':Kn} (h:KeepX X κ κ') (h':KeepX X κ' κ''):KeepX X κ κ'' :=
 ⟨fun b o hb => (h'.1 b o hb).trans (h.1 b o hb),fun b hb => (h'.2 b hb).trans (h.2 b hb)⟩
structure Rel (X:Nat → Prop) (w0:W0) (m0:Nat) (κ:Kn) (ρ:Lc) (τ:Tc) (st:St) (a:Act) (w:World):Prop where
 defers:DefOk ρ st.marks a.defers
 size:a.tmps.size = st.n
 tm:∀ i,Rep κ ρ (st.get i) (a.tmps.getD i Go.undef)
 tk:∀ i,TokOK τ st.mem (st.get i) (a.tmps.getD i Go.undef)
 mem:RelM κ ρ τ X st.mem w
 frm:Frm X w0.w w
 xlt:∀ b,X b → b < w0.w.heap.size
 prot:m0 ≤ st.mem.length
 prm:st.pr = m0
 kx:KeepX X w0.κ κ
def agree (m:Nat) (ρ ρ':Lc):Prop:=∀ l b,l < m → ρ l = some b → ρ' l = some b
structure Ext (m:Nat) (κ:Kn) (ρ:Lc) (τ:Tc) (mem:List AObj) (κ':Kn) (ρ':Lc) (τ':Tc) (mem':List AObj):Prop where
 le:κ.le κ'
 agree:agree m ρ ρ'
 step:TStep m τ mem τ' mem'
theorem Ext.refl (m:Nat) (κ:Kn) (ρ:Lc) (τ:Tc) (mem:List AObj):Ext m κ ρ τ mem κ ρ τ mem :=
 ⟨Kn.le_refl _,fun _ _ _ h => h,TStep.refl _ _ _⟩
theorem Ext.trans {m:Nat} {κ κ' κ'':Kn} {ρ ρ' ρ'':Lc} {τ τ' τ'':Tc} {mem mem' mem'':List AObj} (h:Ext m κ ρ τ mem κ' ρ' τ' mem')
  (h':Ext m κ' ρ' τ' mem' κ'' ρ'' τ'' mem''):Ext m κ ρ τ mem κ'' ρ'' τ'' mem'' :=
 ⟨Kn.le_trans h.le h'.le,fun l b hl x => h'.agree l b hl (h.agree l b hl x),h.step.trans h'.step⟩
def Fw (rd:Option Nat):Fence:={ Fence.wide with round:=rd }
abbrev QA:=Exit → St → Prop
def noRF:Code → Bool
 | .seq a b => noRF a && noRF b
 | .cond _ a b => noRF a && noRF b
 | .block _ c => noRF c
 | .loop c => noRF c
 | .scope c => noRF c
 | .rangeFunc _ _ _ _ => false
 | _ => true
def AWp (P:Program) (c:Code) (Q:QA) (st:St):Prop :=
 ∀ (rd:Option Nat),(rd = none ∨ noRF c = true) → ∀ (X:Nat → Prop) (w0:W0) (m0:Nat) (κ:Kn) (ρ:Lc) (τ:Tc) (a:Act) (w:World),Rel X w0 m0 κ ρ τ st a w →
  c.wpIn (Fw rd) 0 P (fun e a' w' => ∃ κ' ρ' τ' st',Rel X w0 m0 κ' ρ' τ' st' a' w' ∧ Ext m0 κ ρ τ st.mem κ' ρ' τ' st'.mem ∧ Q e st') a w
def Ent (P : Program) (g : FuncId) : Prop := ∃ fn, P.funcs[g]? = some fn ∧ (fn.name == "runtime.NumGoroutine") = false ∧ fn.body.isNone = false
def zaP (P:Program) (g:FuncId) (args:List AV) (K:AV → Prop):Prop :=
 Ent P g ∧ ∀ (κ:Kn) (w:World) (vs:Array Value),zdN κ w → vs.size = args.length →
  (∀ i,i < args.length → Rep κ noLc (args.getD i .undef) (vs.getD i Go.undef)) →
  CallsIn Fence.wide 0 P g vs w (fun e w' => ∃ x κ' r,e = .returned x ∧ K r ∧ Rep κ' noLc r x ∧ Grow κ w κ' w')
def Room (κ':Kn) (w w':World) (n sz:Nat) (x:Value):Prop :=
 (∃ a len,x = .slice a len len) ∨ ∃ b cap vs T,x = .slice (some ⟨b,0,none⟩) n cap ∧ w.heap.size ≤ b ∧ (∀ o,n * sz ≤ o → κ' b o = none) ∧ w'.heap[b]? = some (.cells vs T (0,0)) ∧ cap * sz ≤ vs.size
def zuW (P:Program) (g:FuncId) (args:List AV) (sz:Nat) (es:List (List AV)):Prop :=
 Ent P g ∧ ∀ (κ:Kn) (w:World) (vs:Array Value),zdN κ w → vs.size = args.length →
  (∀ i,i < args.length → Rep κ noLc (args.getD i .undef) (vs.getD i Go.undef)) →
  CallsIn Fence.wide 0 P g vs w (fun e w' => ∃ x κ',e = .returned x ∧ Rep κ' noLc (.sl es .no) x ∧ Grow κ w κ' w' ∧ Room κ' w w' es.length sz x)
def AV.frsh:AV → Option (List (List AV) × Nat)
 | .sl es (.own sz) => some (es,sz)
 | _ => none
def zkn (P:Program) (g:FuncId) (args:List AV) (r:AV):Prop :=
 zaP P g args (· = r) ∧ ∀ es sz,r.frsh = some (es,sz) → zuW P g args sz es
def zfS (P:Program) (g:FuncId) (args:List AV) (mem:List AObj) (R:AV → List AObj → Prop):Prop :=
 Ent P g ∧ ∀ (X:Nat → Prop) (κ:Kn) (ρ:Lc) (τ:Tc) (w:World) (vs:Array Value),RelM κ ρ τ X mem w → (∀ b,X b → b < w.heap.size) → vs.size = args.length →
  (∀ i,i < args.length → Rep κ ρ (args.getD i .undef) (vs.getD i Go.undef)) →
  CallsIn Fence.wide 0 P g vs w (fun e w' => ∃ x κ' ρ' τ' mem' r,e = .returned x ∧ RelM κ' ρ' τ' X mem' w' ∧ Frm X w w' ∧ Rep κ' ρ' r x ∧
   Ext mem.length κ ρ τ mem κ' ρ' τ' mem' ∧ mem'.length = mem.length ∧ KeepX X κ κ' ∧ R r mem')
def zeK (P:Program) (g:FuncId) (args:List AV) (mem:List AObj) (R:AV → List AObj → Prop):Prop :=
 Ent P g ∧ ∀ (X:Nat → Prop) (κ:Kn) (ρ:Lc) (τ:Tc) (w:World) (vs:Array Value),RelM κ ρ τ X mem w → (∀ b,X b → b < w.heap.size) → vs.size = args.length →
  (∀ i,i < args.length → Rep κ ρ (args.getD i .undef) (vs.getD i Go.undef)) → (∀ i,i < args.length → TokOK τ mem (args.getD i .undef) (vs.getD i Go.undef)) →
  CallsIn Fence.wide 0 P g vs w (fun e w' => ∃ x κ' ρ' τ' mem' r,e = .returned x ∧ RelM κ' ρ' τ' X mem' w' ∧ Frm X w w' ∧ Rep κ' ρ' r x ∧ TokOK τ' mem' r x ∧
   Ext mem.length κ ρ τ mem κ' ρ' τ' mem' ∧ mem.length ≤ mem'.length ∧ KeepX X κ κ' ∧ R r mem')
def zr6 (P:Program) (l:Nat) (args:List AV) (mem:List AObj) (R:AV → List AObj → Prop):Prop :=
 ∀ (X:Nat → Prop) (κ:Kn) (ρ:Lc) (τ:Tc) (w:World) (vs:Array Value),RelM κ ρ τ X mem w → (∀ b,X b → b < w.heap.size) → vs.size = args.length →
  (∀ i,i < args.length → Rep κ ρ (args.getD i .undef) (vs.getD i Go.undef)) →
  ∃ b f tmps asg body,ρ l = some b ∧ (Instr.yield b vs).run P w = .ok (.round b f tmps asg body) w ∧
   RoundIn Fence.wide 0 P b f tmps asg body w (fun e w' => ∃ x κ' ρ' τ' mem' r,e = .returned x ∧ RelM κ' ρ' τ' X mem' w' ∧ Frm X w w' ∧ Rep κ' ρ' r x ∧
   Ext mem.length κ ρ τ mem κ' ρ' τ' mem' ∧ mem'.length = mem.length ∧ KeepX X κ κ' ∧ R r mem')
/-! What is handed zan to a function that cannot see mutable objects: a picture of them. -/
def zbW (f:AV → AV) (mem:List AObj):AV → AV
 | .vec l s off len _ =>
  match zaa mem l with
  | .vec es _ s' => if s = s' then .sl (((es.drop off).take len).map fun e => e.map f) .no else .undef
  | _ => .undef
 | .vp l s i off =>
  match zaa mem l with
  | .vec es _ s' => if s = s' then .ref ((es.getD i []).map f) off else .undef
  | _ => .undef
 | v => f v
def zb5:Nat → List AObj → AV → AV
 | 0,_,_ => .undef
 | n + 1,mem,.agg cs => .agg (cs.map (zb5 n mem))
 | n + 1,mem,.tup cs => .tup (cs.map (zb5 n mem))
 | n + 1,mem,.sl es _ => .sl (es.map fun e => e.map (zb5 n mem)) .no
 | n + 1,mem,.ref es off => .ref (es.map (zb5 n mem)) off
 | n + 1,mem,.ptr l off =>
  match zaa mem l with
  | .cells cs => .ref (cs.map (zbW (zb5 n mem) mem)) off
  | _ => .undef
 | n + 1,mem,.arr l off len sz =>
  match zaa mem l with
  | .cells cs => if off + len * sz ≤ cs.length then .sl (zc4 sz len ((cs.drop off).map (zbW (zb5 n mem) mem))) .no else .undef
  | _ => .undef
 | n + 1,mem,.fn f a b => .fn f (a.map (zb5 n mem)) (b.map (zb5 n mem))
 | n + 1,mem,.mpr ks vs => .mpr ks (vs.map (zb5 n mem))
 | n + 1,mem,.mp l =>
  match zaa mem l with
  | .map ks vs => .mpr ks (vs.map (zb5 n mem))
  | _ => .undef
 | _,_,.int k n => .int k n
 | _,_,.bool b => .bool b
 | _,_,.nilp => .nilp
 | _,_,.nilf => .nilf
 | _,_,_ => .undef
def imm:Nat → AV → Prop
 | 0,_ => False
 | n + 1,.agg cs => ∀ c ∈ cs,imm n c
 | n + 1,.tup cs => ∀ c ∈ cs,imm n c
 | n + 1,.sl es _ => ∀ e ∈ es,∀ c ∈ e,imm n c
 | n + 1,.ref es _ => ∀ c ∈ es,imm n c
 | n + 1,.fn _ a b => (∀ c ∈ a,imm n c) ∧ ∀ c ∈ b,imm n c
 | n + 1,.mpr _ vs => ∀ c ∈ vs,imm n c
 | _,.mp _ => False
 | _,.yld _ => False
 | _,.ptr _ _ => False
 | _,.arr _ _ _ _ => False
 | _,.vec _ _ _ _ _ => False
 | _,.vp _ _ _ _ => False
 | _,.onlyIf _ _ => False
 | _,_ => True
def ziM:Nat → AV → Prop
 | 0,_ => False
 | n + 1,.agg cs => ∀ c ∈ cs,ziM n c
 | n + 1,.tup cs => ∀ c ∈ cs,ziM n c
 | _,.int _ _ => True
 | _,.bool _ => True
 | _,.nilp => True
 | _,.nilf => True
 | _,.undef => True
 | _,_ => False
abbrev zaJ:=FuncId → Option (List AV → Option (Prop × AV))
def zdT (n:Nat) (mem:List AObj):AV → AV
 | .agg cs => .agg (cs.map (zbW (zb5 (n - 1) mem) mem))
 | v => zbW (zb5 n mem) mem v
def snapA (mem:List AObj) (fst args cap:List AV):List AV:=fst.map (zb5 9 mem) ++ args.map (zdT 9 mem) ++ cap.map (zb5 9 mem)
def zdM (tm:List (Nat × AV)) (xs:Array Operand):List AV:=xs.toList.map fun x => (evT tm x).un
def avsA (tm:List (Nat × AV)) (xs:Array Operand):Prop:=ziH (xs.toList.map fun x => (evT tm x).av)
def callV (Φ:zaJ) (mem:List AObj) (f:AV) (args:List AV):Option (Prop × AV) :=
 match f with
 | .fn (.func g) fst cap =>
  match Φ g with
  | some s =>
   match s (snapA mem fst args cap) with
   | some (p,r) =>
    match r.frsh with
    | none => some (p ∧ ((∀ a ∈ fst ++ args ++ cap,imm 9 a) ∨ ziM 9 r),r.strip)
    | some _ => none
   | none => none
  | none => none
 | _ => none
def callN (Φ:zaJ) (mem:List AObj) (f:AV) (args:List AV):Option (Prop × List (List AV) × Nat) :=
 match f with
 | .fn (.func g) fst cap =>
  match Φ g with
  | some s =>
   match s (snapA mem fst args cap) with
   | some (p,r) =>
    match r.frsh with
    | some (es,sz) => some (p ∧ ∀ a ∈ fst ++ args ++ cap,imm 9 a,es,sz)
    | none => none
   | none => none
  | none => none
 | _ => none
def frA (Φ:zaJ) (st:St) (op:Op):Option (Prop × List (List AV) × Nat) :=
 match op with
 | .call { callee:=.value f,args:=args,argTypes:=_ } =>
  match callN Φ st.mem (evT st.tm f).un (zdM st.tm args) with
  | some (p,es,sz) => some ((evT st.tm f).av ∧ avsA st.tm args ∧ p,es,sz)
  | none => none
 | _ => none
def ztc (P:Program) (Φ:zaJ) (st:St) (op:Op):Option (Prop × AV) :=
 match op with
 | .call { callee:=.value f,args:=args,argTypes:=_ } =>
  match callV Φ st.mem (evT st.tm f).un (zdM st.tm args) with
  | some (p,v) => some ((evT st.tm f).av ∧ avsA st.tm args ∧ p,v)
  | none => none
 | op => sem P st op
def AV.cells':AV → List AV
 | .agg cs => cs.map AV.soft
 | v => [v]
def bytesOf? (P:Program) (t:TypeId):Option Nat:=(P.info? t).map (·.bytes)
def appA (P:Program) (mem:List AObj) (ts:Array TypeId) (d s:AV) (K:AV → List AObj → Prop):Prop :=
 match d,s,ts.toList with
 | .sl es tk,.sl fs _,[t0,t1] =>
  match zck P t0,zck P t1 with
  | some (e,sz),some _ =>
   match bytesOf? P e,zaY P e with
   | some by_,some z =>
    z.length = sz ∧ 0 < sz ∧ 0 < by_ ∧ (∀ x ∈ es,x.length = sz) ∧ (∀ x ∈ fs,x.length = sz) ∧ (∀ x ∈ fs,∀ c ∈ x,c.one = true) ∧
    ((es.length + fs.length) + (es.length + fs.length) / 4 + 704) * by_ ≤ 281474976710656 ∧
    match tk with
    | .full => K (.sl (es ++ fs) (.own mem.length)) (mem ++ [AObj.tok (es.length + fs.length) sz])
    | .own l => zaa mem l = .tok es.length sz ∧ K (.sl (es ++ fs) (.own l)) (mem.set l (AObj.tok (es.length + fs.length) sz))
    | .no => False
   | _,_ => False
  | _,_ => False
 | .vec l st off len sz0,.sl fs _,[t0,t1] =>
  match zck P t0,zck P t1 with
  | some (e,sz),some _ =>
   match bytesOf? P e,zaY P e with
   | some by_,some z =>
    match zaa mem l with
    | .vec es sz1 s1 =>
     z.length = sz ∧ 0 < sz ∧ 0 < by_ ∧ (sz0 = sz ∧ sz1 = sz ∧ st = s1 ∧ off = 0) ∧ (∀ x ∈ fs,x.length = sz) ∧ (∀ x ∈ fs,∀ c ∈ x,c.one = true) ∧
     ((len + fs.length) + (len + fs.length) / 4 + 704) * by_ ≤ 281474976710656 ∧ K (.vec l (s1 + 1) 0 (len + fs.length) sz) (mem.set l (AObj.vec (es.take len ++ fs) sz (s1 + 1)))
    | _ => False
   | _,_ => False
  | _,_ => False
 | _,_,_ => False
def zgo (es:List (List AV)) (off len:Nat) (z:List AV):List (List AV):=es.take off ++ List.replicate len z ++ es.drop (off + len)
def AV.flatV:AV → Bool
 | .int _ _ => true
 | .bool _ => true
 | _ => false
def picS (mem:List AObj):AV → AV
 | .arr l off len sz =>
  match zbW (zb5 9 mem) mem (.arr l off len sz) with
  | .sl fs _ => if (fs.all fun e => e.all AV.flatV) = true then .sl fs .no else .undef
  | _ => .undef
 | .vec l s off len sz =>
  match zbW (zb5 9 mem) mem (.vec l s off len sz) with
  | .sl fs _ => if (fs.all fun e => e.all AV.flatV) = true then .sl fs .no else .undef
  | _ => .undef
 | v => v
def ze2 (P:Program) (o:Oper) (K:St → Prop) (st:St):Prop :=
 match o.op with
 | .alloc t =>
  match zaY P t with
  | some z => zct st.n o.dst ∧ K ({ st with mem:=st.mem ++ [AObj.cells z] }.put o.dst (.ptr st.mem.length 0))
  | none => False
 | .box _ x => zct st.n o.dst ∧ (evT st.tm x).solid = true ∧
   K ({ st with mem:=st.mem ++ [AObj.cells ((evT st.tm x).cells'.map AV.strip)] }.put o.dst (.ptr st.mem.length 0))
 | .store t a x =>
  match (evT st.tm a).un,zcx P t with
  | .ptr l off,some n =>
   match zaa st.mem l with
   | .cells cs => (evT st.tm a).av ∧ o.dst = none ∧ (evT st.tm x).solid = true ∧ (evT st.tm x).cells'.length = n ∧ off + n ≤ cs.length ∧
     (∀ c ∈ (evT st.tm x).cells',c.one = true) ∧ K { st with mem:=st.mem.set l (AObj.cells (zan cs off (evT st.tm x).cells')) }
   | _ => False
  | .vp l s i off,some n =>
   match zaa st.mem l with
   | .vec es sz s' => ((evT st.tm a).av ∧ s = s' ∧ i < es.length) ∧ o.dst = none ∧ (evT st.tm x).solid = true ∧ (evT st.tm x).cells'.length = n ∧ off + n ≤ sz ∧
     (∀ c ∈ (evT st.tm x).cells',c.one = true) ∧ K { st with mem:=st.mem.set l (AObj.vec (es.set i (zan (es.getD i []) off ((evT st.tm x).cells'.map AV.strip))) sz s') }
   | _ => False
  | _,_ => False
 | .makeSlice t len cap =>
  match zck P t,evT st.tm len,evT st.tm cap with
  | some (e,s),.int .i64 n,.int .i64 c =>
   match bytesOf? P e,zaY P e with
   | some by_,some z => zct st.n o.dst ∧ z.length = s ∧ 0 < s ∧ c = n ∧ 0 ≤ n ∧ n * by_ ≤ 281474976710656 ∧ n ≤ 9223372036854775807 ∧
     K ({ st with mem:=st.mem ++ [AObj.cells (zb9 z n.toNat)] }.put o.dst (.arr st.mem.length 0 n.toNat s))
   | _,_ => False
  | _,_,_ => False
 | .makeMap _ none => zct st.n o.dst ∧ K ({ st with mem:=st.mem ++ [AObj.map [] []] }.put o.dst (.mp st.mem.length))
 | .mapUpdate t m k x =>
  match (evT st.tm m).un,(evT st.tm k).un,mapOf? P t with
  | .mp l,.agg cs,some (kt,_) =>
   match zaa st.mem l,zac cs with
   | .map ks vs,some a => (evT st.tm m).av ∧ (evT st.tm k).av ∧ (evT st.tm x).av ∧ o.dst = none ∧ zq6 P kt a.length ∧ (∀ b ∈ ks,b.length = a.length) ∧
     K { st with mem:=st.mem.set l (zaq ks vs a (evT st.tm x).un.strip) }
   | _,_ => False
  | _,_,_ => False
 | .range t m =>
  match mapOf? P t,zkw st.mem (evT st.tm m).un with
  | some _,some (ks,_) => zct st.n o.dst ∧ (evT st.tm m).av ∧ K ({ st with mem:=st.mem ++ [AObj.iter (evT st.tm m).un ks.length []] }.put o.dst (.ptr st.mem.length 0))
  | _,_ => False
 | .binOp .eql t x (.const (.slice none 0 0)) _ =>
  match zck P t,(evT st.tm x).un with
  | some _,.sl es _ => zct st.n o.dst ∧ (evT st.tm x).av ∧ ∀ b:Bool,(b = true → es = []) → K (st.put o.dst (.bool b))
  | some _,.arr _ _ _ _ => zct st.n o.dst ∧ (evT st.tm x).av ∧ K (st.put o.dst (.bool false))
  | some _,.vec _ _ _ len _ => zct st.n o.dst ∧ (evT st.tm x).av ∧ ∀ b:Bool,(b = true → len = 0) → K (st.put o.dst (.bool b))
  | _,_ => False
 | .next it false =>
  match (evT st.tm it).un with
  | .ptr l 0 =>
   match zaa st.mem l with
   | .iter src n seen =>
    match zkw st.mem src with
    | some (ks,vs) => (evT st.tm it).av ∧ zct st.n o.dst ∧ ks.length = n ∧
      (∀ i,i < n → i ∉ seen → K ({ st with mem:=st.mem.set l (AObj.iter src n (seen ++ [i])) }.put o.dst (.tup [.bool true,keyA (ks.getD i []),(vs.getD i .undef).strip]))) ∧
      ((∀ i,i < n → i ∈ seen) → K (st.put o.dst (.tup [.bool false])))
    | none => False
   | _ => False
  | _ => False
 | .call { callee:=.builtin .append,args:=args,argTypes:=ts } =>
  match args.toList with
  | [d,s] => zct st.n o.dst ∧ (evT st.tm s).av ∧ appA P st.mem ts (evT st.tm d) (picS st.mem (evT st.tm s).un) (fun v mem' => K ({ st with mem:=mem' }.put o.dst v))
  | _ => False
 | .call { callee:=.builtin .copy,args:=args,argTypes:=ts } =>
  match args.toList,ts.toList with
  | [d,s],[t0,_] =>
   match (evT st.tm d).un,(evT st.tm s).un,zck P t0 with
   | .arr l off len sz,.sl es _,some (_,sz') =>
    match zaa st.mem l with
    | .cells cs => (evT st.tm d).av ∧ (evT st.tm s).av ∧ zct st.n o.dst ∧ sz = sz' ∧ (∀ x ∈ es,x.length = sz) ∧ (∀ x ∈ es,∀ c ∈ x,c.one = true ∧ c.strip = c) ∧ off + len * sz ≤ cs.length ∧
      K ({ st with mem:=st.mem.set l (AObj.cells (zan cs off (es.take len).flatten)) }.put o.dst (.int .i64 (Nat.min es.length len:Nat)))
    | _ => False
   | _,_,_ => False
  | _,_ => False
 | .call { callee:=.builtin .clear,args:=args,argTypes:=ts } =>
  match args.toList,ts.toList with
  | [d],[t0] =>
   match (evT st.tm d).un,zck P t0 with
   | .vec l s off len sz,some (e,sz') =>
    match zaa st.mem l,zaY P e with
    | .vec es sz1 s1,some z => (evT st.tm d).av ∧ zct st.n o.dst ∧ sz = sz' ∧ sz1 = sz ∧ s = s1 ∧ z.length = sz ∧ 0 < sz ∧ (∀ c ∈ z,c.one = true) ∧
      K ({ st with mem:=st.mem.set l (AObj.vec (zgo es off len z) sz s1) }.put o.dst (.tup []))
    | _,_ => False
   | _,_ => False
  | _,_ => False
 | .call { callee:=.value f,args:=args,argTypes:=_ } =>
  zct st.n o.dst ∧ (evT st.tm f).av ∧ avsA st.tm args ∧
  match (evT st.tm f).un with
  | .fn (.func g) fst cap => ∃ R,zeK P g (fst.map AV.strip ++ zdM st.tm args ++ cap.map AV.strip) st.mem R ∧ ∀ r mem',R r mem' → st.mem.length ≤ mem'.length → K ({ st with mem:=mem' }.put o.dst r)
  | .yld l => ∃ R,zr6 P l (zdM st.tm args) st.mem R ∧ ∀ r mem',R r mem' → mem'.length = st.mem.length → K ({ st with mem:=mem' }.put o.dst r.strip)
  | _ => False
 | _ => False
def zaF (Φ:zaJ):Option Tmp → Option Tmp
 | some d =>
  match Φ 4000000000 with
  | some s => if (s [.int .i64 d]).isSome then some d else none
  | none => none
 | none => none
def fzV (l s:Nat) (es:List (List AV)):AV → AV
 | .vec l' s' off len sz => if l' = l ∧ s' = s then .sl ((es.drop off).take len) .no else .vec l' s' off len sz
 | v => v
def vecIn:List AV → Option (Nat × Nat)
 | [] => none
 | c :: r =>
  match c with
  | .vec l s _ _ _ => some (l,s)
  | _ => vecIn r
def ziR (st:St) (L:Nat) (cs:List AV) (l s:Nat) (es:List (List AV)) (sz:Nat):St :=
 { st with mem:=(st.mem.set l (AObj.vec [] sz (s + 1))).set L (AObj.cells (cs.map (fzV l s es))) }
def frzN:Nat → St → Nat → Option St
 | 0,st,_ => some st
 | n + 1,st,L =>
  match zaa st.mem L with
  | .cells cs =>
   match vecIn cs with
   | none => some st
   | some (l,s) =>
    match zaa st.mem l with
    | .vec es sz s' => if s = s' then frzN n (ziR st L cs l s es sz) L else none
    | _ => none
  | _ => none
def callOp:Op → Bool
 | .call { callee:=.value _,args:=_,argTypes:=_ } => true
 | _ => false
def vecA (P:Program) (o:Oper) (d:Tmp) (K:St → Prop) (st:St):Prop :=
 match o.op with
 | .call { callee:=.builtin .append,args:=args,argTypes:=ts } =>
  match args.toList,ts.toList with
  | [x,s],[t0,t1] =>
   match (evT st.tm x).un,(evT st.tm s).un,zck P t0,zck P t1 with
   | .sl [] .full,.sl fs _,some (e,sz),some (_,_) =>
    match bytesOf? P e,zaY P e with
    | some by_,some z =>
     zct st.n (some d) ∧ (evT st.tm x).av ∧ (evT st.tm s).av ∧ z.length = sz ∧ 0 < by_ ∧ (∀ x ∈ fs,x.length = sz) ∧ (∀ x ∈ fs,∀ c ∈ x,c.one = true) ∧
     (fs.length + fs.length / 4 + 704) * by_ ≤ 281474976710656 ∧ K ({ st with mem:=st.mem ++ [AObj.vec fs sz 1] }.put (some d) (.vec st.mem.length 1 0 fs.length sz))
    | _,_ => False
   | _,_,_,_ => False
  | _,_ => False
 | .buildSlice t len parts =>
  match zck P t,zem P t len (parts.toList.map fun q => (q.1,(evT st.tm q.2).un)) with
  | some (_,sz),some es => zct st.n (some d) ∧ (ziH (parts.toList.map fun q => (evT st.tm q.2).av)) ∧ K ({ st with mem:=st.mem ++ [AObj.vec es sz 1] }.put (some d) (.vec st.mem.length 1 0 len sz))
  | _,_ => False
 | .load _ x =>
  match (evT st.tm x).un with
  | .ptr L _ =>
   match frzN 4 st L with
   | some st' =>
    match sem P st' o.op with
    | some (p,v) => p ∧ zct st.n (some d) ∧ K (st'.put (some d) v)
    | none => False
   | none => False
  | _ => False
 | _ => False
def stepA (P:Program) (Φ:zaJ) (o:Oper) (K:St → Prop) (st:St):Prop :=
 match zaF Φ o.dst with
 | some d => if callOp o.op = true then ze2 P o K st else vecA P o d K st
 | none =>
 match ztc P Φ st o.op with
 | some (p,v) => p ∧ zct st.n o.dst ∧ K (st.put o.dst v)
 | none =>
  match frA Φ st o.op with
  | some (p,es,sz) => p ∧ zct st.n o.dst ∧ K ({ st with mem:=st.mem ++ [AObj.tok es.length sz] }.put o.dst (.sl es (.own st.mem.length)))
  | none => ze2 P o K st
def zdQ (ds:List (Option Tmp)) (tm:List (Nat × AV)) (o:Oper):Option (Option Bool) :=
 match o.guard with
 | none => some none
 | some (j,want) =>
  match ds.getD j none with
  | some d =>
   match lk tm d with
   | .bool b => some (some (if want then b else !b))
   | .onlyIf g (.bool b) => some (some (g && (if want then b else !b)))
   | _ => none
  | none => none
def zdB (P:Program) (Φ:zaJ) (ds:List (Option Tmp)):List Oper → (St → Prop) → St → Prop
 | [],K,st => K st
 | o :: os,K,st =>
  match zdQ ds st.tm o with
  | none => False
  | some none => stepA P Φ o (zdB P Φ ds os K) st
  | some (some g) =>
   match ztc P Φ st o.op with
   | some (p,v) => zct st.n o.dst ∧ (g = true → p) ∧ zdB P Φ ds os K (st.put o.dst (.onlyIf g v))
   | none => (g = true → ze2 P o (zdB P Φ ds os K) st) ∧ (g = false → zct st.n o.dst ∧ zdB P Φ ds os K (st.put o.dst .undef))
def zaW (next:St → Prop) (Q:QA):QA
 | .normal,st => next st
 | e,st => Q e st
def blkA (id:Nat) (Q:QA):QA
 | .exit id',st => if id' = id then Q .normal st else Q (.exit id') st
 | e,st => Q e st
def scpA (Q:QA):QA
 | .goto _,_ => False
 | e,st => Q e st
def bel (k:Nat):Nat → AV → Prop
 | 0,_ => False
 | n + 1,.agg cs => ∀ c ∈ cs,bel k n c
 | n + 1,.tup cs => ∀ c ∈ cs,bel k n c
 | n + 1,.sl es tk => (∀ e ∈ es,∀ c ∈ e,bel k n c) ∧ (match tk with | .own l => l < k | _ => True)
 | n + 1,.ref es _ => ∀ c ∈ es,bel k n c
 | n + 1,.fn _ a b => (∀ c ∈ a,bel k n c) ∧ ∀ c ∈ b,bel k n c
 | n + 1,.onlyIf _ v => bel k n v
 | n + 1,.mpr _ vs => ∀ c ∈ vs,bel k n c
 | _,.mp l => l < k
 | _,.yld l => l < k
 | _,.ptr l _ => l < k
 | _,.arr l _ _ _ => l < k
 | _,.vec l _ _ _ _ => l < k
 | _,.vp l _ _ _ => l < k
 | _,_ => True
def zb6 (k:Nat):AObj → Prop
 | .cells cs => ∀ c ∈ cs,bel k 9 c
 | .map _ vs => ∀ c ∈ vs,bel k 9 c
 | .iter src _ _ => bel k 9 src
 | .loop _ _ tm _ _ _ _ => ∀ q ∈ tm,bel k 9 q.2
 | .vec es _ _ => ∀ e ∈ es,∀ c ∈ e,bel k 9 c
 | _ => True
def Weak (st st':St):Prop :=
 st'.n = st.n ∧ st'.marks = st.marks ∧ st'.pr = st.pr ∧ st.pr ≤ st'.mem.length ∧ (∃ r,st.mem = st'.mem ++ r) ∧ (∀ q ∈ st'.tm,(lk st.tm q.1 = q.2 ∨ (lk st.tm q.1).bare = q.2) ∧ bel st'.mem.length 9 q.2) ∧
 (∀ o ∈ st'.mem,zb6 st'.mem.length o) ∧ (∀ l ∈ st'.marks,l < st'.mem.length)
inductive TZ where
 | slot (i sz:Nat)
 | cell (l o sz:Nat)
 | vslot (i sz:Nat)
 | vcell (l o sz:Nat)
def tokz1 (t:TZ) (st:St):St :=
 match t with
 | .slot i sz =>
  match lk st.tm i with
  | .sl es .full => { st with tm:=(i,.sl es (.own st.mem.length)) :: st.tm,mem:=st.mem ++ [AObj.tok es.length sz] }
  | _ => st
 | .cell l o sz =>
  match zaa st.mem l with
  | .cells cs =>
   match cs.getD o .undef with
   | .sl es .full => { st with mem:=st.mem.set l (AObj.cells (cs.set o (.sl es (.own st.mem.length)))) ++ [AObj.tok es.length sz] }
   | _ => st
  | _ => st
 | .vslot i sz =>
  match lk st.tm i with
  | .sl [] .full => { st with tm:=(i,.vec st.mem.length 0 0 0 sz) :: st.tm,mem:=st.mem ++ [AObj.vec [] sz 0] }
  | _ => st
 | .vcell l o sz =>
  match zaa st.mem l with
  | .cells cs =>
   match cs.getD o .undef with
   | .sl [] .full => { st with mem:=st.mem.set l (AObj.cells (cs.set o (.vec st.mem.length 0 0 0 sz))) ++ [AObj.vec [] sz 0] }
   | _ => st
  | _ => st
def tokz (ts:List TZ) (st:St):St:=ts.foldl (fun s t => tokz1 t s) st
def LoopV (body:QA → St → Prop) (Q:QA) (st:St):Prop :=
 ∃ (ts:List TZ) (β:Type) (S:β → St) (Iv:β → Prop) (μ:β → Nat) (b0:β),Iv b0 ∧ Weak (tokz ts st) (S b0) ∧
  ∀ b,Iv b → body (zaW (fun s => ∃ b',Iv b' ∧ μ b' < μ b ∧ Weak s (S b')) Q) (S b)
/-! Regions that draw their order: the check of the region, and the plan. -/
def zm8 (acc:List Nat) (o:Oper):Nat :=
 o.after.toList.foldl (fun s e => if Region.binds .any e then s ||| (2 ^ e.on ||| acc.getD e.on 0) else s) 0
def znT:List Nat → List Oper → List Nat
 | acc,[] => acc
 | acc,o :: os => znT (acc ++ [zm8 acc o]) os
def zlH:Op → Bool
 | .load _ _ => true
 | .lookup _ _ _ _ => true
 | .entry _ => true
 | .call { callee:=.value _,args:=_,argTypes:=_ } => true
 | _ => false
def zev:Op → Bool
 | .store _ _ _ => true
 | .mapUpdate _ _ _ _ => true
 | _ => false
def newOp:Op → Bool
 | .alloc _ => true
 | .makeMap _ none => true
 | .box _ _ => true
 | _ => false
def effOp:Op → Bool
 | .alloc _ => true
 | .makeMap _ none => true
 | .mapUpdate _ _ _ _ => true
 | .box _ _ => true
 | .store _ _ _ => true
 | .call { callee:=.builtin .append,args:=_,argTypes:=_ } => true
 | _ => false
def zjC (o:Op):List Nat:=o.operands.toList.filterMap fun | .tmp t => some t | _ => none
def zhL (ds:List (Option Tmp)) (o:Oper):List Nat :=
 match o.guard with
 | some (j,_) => (ds.getD j none).toList
 | none => []
def zf7 (ds:List (Option Tmp)) (o:Oper):List Nat:=zjC o.op ++ zhL ds o
def zgd (ds:List (Option Tmp)) (o:Oper):List Nat:=zjC o.op ++ (o.dst.toList ++ zhL ds o)
def zhB (d:Option Tmp) (l:List Nat):Bool :=
 match d with
 | some t => l.contains t
 | none => false
def zep (ops:List Oper) (o:Oper):Bool :=
 match o.op,o.dst with
 | .call { callee:=.value _,args:=_,argTypes:=_ },some d => ops.any fun k =>
  match k.op with
  | .call { callee:=.builtin .append,args:=args,argTypes:=_ } =>
   match args.toList with
   | .tmp t :: _ => t == d
   | _ => false
  | _ => false
 | .buildSlice _ _ _,some _ => !(ops.any fun k =>
  match k.op with
  | .call _ => true
  | _ => false)
 | _,_ => false
def zgk (fr:Oper → Bool) (o:Oper):Bool:=effOp o.op || fr o
def zfU (fr:Oper → Bool) (o:Oper):Bool:=newOp o.op || fr o
def zht (fl i:Nat) (op:Op):Bool:=zlH op && !fl.testBit i
def zkU (fl:Nat) (fr:Oper → Bool) (ds:List (Option Tmp)) (bi j i:Nat) (oi oj:Oper):Bool :=
 (bi.testBit j || !(zhB oj.dst (zgd ds oi) || zhB oi.dst (zgd ds oj))) &&
 ((bi.testBit j || !(zev oi.op && zht fl j oj.op)) &&
 ((!(zev oj.op && zht fl i oi.op)) &&
 (bi.testBit j || !(zgk fr oi && zgk fr oj) || (zfU fr oi && zfU fr oj))))
def zaj (fl:Nat) (ops:List Oper):Bool :=
 let bs:=znT [] ops
 let ds:=ops.map (·.dst)
 let fr:=zep ops
 (List.range ops.length).all fun i =>
  match ops[i]? with
  | some oi => oi.after.toList.all (fun e => !Region.binds .any e || decide (e.on < i)) && (List.range i).all fun j =>
    match ops[j]? with
    | some oj => zkU fl fr ds (bs.getD i 0) j i oi oj
    | none => true
  | none => true
theorem auz {p:Prop} (h:p:=by (repeat' first | (with_reducible first | rfl | apply And.intro | assumption) | ((with_reducible show zaj _ _ = true); rfl)) <;> try first | omega | (simp only [InR]; omega)):p:=h
def zuh (ops:List Oper) (k:Nat) (free:List Nat):Bool :=
 let bs:=znT [] ops
 let ds:=ops.map (·.dst)
 let fr:=zep ops
 (match ops[k]? with
  | some oc => oc.guard.isNone && (match oc.op with | .call { callee:=.value _,args:=_,argTypes:=_ } => true | _ => false)
  | none => false) &&
 ((List.range k).all fun j => (bs.getD k 0).testBit j || (free.contains j && (match ops[j]? with
   | some oj => !zgk fr oj && oj.dst.isSome && (List.range k).all fun i => decide (i < j) || (match ops[i]? with
    | some oi => !zhB oi.dst (zf7 ds oj) && (decide (i = j) || !(match oj.dst with | some d => decide (oi.dst = some d) | none => false))
    | none => true)
   | none => true))) &&
 ((List.range ops.length).all fun j => decide (j ≤ k) || (bs.getD j 0).testBit k)
/-! The plan. -/
structure PE where
 v:AV
 eff:Option (Nat × AObj)
def zbM (o:Oper) (e:PE) (st:St):St :=
 { st with tm:=putT st.tm o.dst e.v,mem:=match e.eff with
  | some (l,ob) => st.mem.set l ob
  | none => st.mem }
def zd7 (tm:List (Nat × AV)) (op:Op):List (Nat × AV):=(zjC op).map fun t => (t,lk tm t)
def zgc (P:Program) (M:List AObj) (L:Nat) (st:St) (o:Oper):Option (Prop × PE × Nat) :=
 match o.op with
 | .alloc t =>
  match zaY P t with
  | some z => some (zaa M L = .dead ∧ L < M.length,⟨.ptr L 0,some (L,.cells z)⟩,L + 1)
  | none => none
 | .makeMap _ none => some (zaa M L = .dead ∧ L < M.length,⟨.mp L,some (L,.map [] [])⟩,L + 1)
 | .mapUpdate t m k x =>
  match (evT st.tm m).un,(evT st.tm k).un,mapOf? P t with
  | .mp l,.agg cs,some (kt,_) =>
   match zaa st.mem l,zac cs with
   | .map ks vs,some a => some ((evT st.tm m).av ∧ (evT st.tm k).av ∧ (evT st.tm x).av ∧ o.dst = none ∧ zq6 P kt a.length ∧ (∀ b ∈ ks,b.length = a.length),
     ⟨.undef,some (l,zaq ks vs a (evT st.tm x).un.strip)⟩,L)
   | _,_ => none
  | _,_,_ => none
 | .box _ x => some (zaa M L = .dead ∧ L < M.length ∧ (evT st.tm x).solid = true,⟨.ptr L 0,some (L,.cells ((evT st.tm x).cells'.map AV.strip))⟩,L + 1)
 | .store t a x =>
  match (evT st.tm a).un,zcx P t with
  | .ptr l off,some n =>
   match zaa st.mem l with
   | .cells cs => some ((evT st.tm a).av ∧ o.dst = none ∧ (evT st.tm x).solid = true ∧ (evT st.tm x).cells'.length = n ∧ off + n ≤ cs.length ∧
     (∀ c ∈ (evT st.tm x).cells',c.one = true),⟨.undef,some (l,.cells (zan cs off (evT st.tm x).cells'))⟩,L)
   | _ => none
  | .vp l s i off,some n =>
   match zaa st.mem l with
   | .vec es sz s' => some (((evT st.tm a).av ∧ s = s' ∧ i < es.length) ∧ o.dst = none ∧ (evT st.tm x).solid = true ∧ (evT st.tm x).cells'.length = n ∧ off + n ≤ sz ∧
     (∀ c ∈ (evT st.tm x).cells',c.one = true),⟨.undef,some (l,.vec (es.set i (zan (es.getD i []) off ((evT st.tm x).cells'.map AV.strip))) sz s')⟩,L)
   | _ => none
  | _,_ => none
 | .call { callee:=.builtin .append,args:=args,argTypes:=ts } =>
  match args.toList,ts.toList with
  | [d,s],[t0,t1] =>
   match evT st.tm d,(evT st.tm s).un,zck P t0,zck P t1 with
   | .sl es tk,.sl fs _,some (e,sz),some _ =>
    match bytesOf? P e,zaY P e with
    | some by_,some z =>
     match tk with
     | .own l => some ((evT st.tm s).av ∧ z.length = sz ∧ 0 < by_ ∧ (∀ x ∈ es,x.length = sz) ∧ (∀ x ∈ fs,x.length = sz) ∧ (∀ x ∈ fs,∀ c ∈ x,c.one = true) ∧
       ((es.length + fs.length) + (es.length + fs.length) / 4 + 704) * by_ ≤ 281474976710656 ∧ zaa st.mem l = .tok es.length sz,
       ⟨.sl (es ++ fs) (.own l),some (l,.tok (es.length + fs.length) sz)⟩,L)
     | .full => some ((evT st.tm s).av ∧ z.length = sz ∧ 0 < by_ ∧ (∀ x ∈ es,x.length = sz) ∧ (∀ x ∈ fs,x.length = sz) ∧ (∀ x ∈ fs,∀ c ∈ x,c.one = true) ∧
       ((es.length + fs.length) + (es.length + fs.length) / 4 + 704) * by_ ≤ 281474976710656 ∧ zaa M L = .dead ∧ L < M.length,
       ⟨.sl (es ++ fs) (.own L),some (L,.tok (es.length + fs.length) sz)⟩,L + 1)
     | .no => none
    | _,_ => none
   | .vec l s0 off len sz0,.sl fs _,some (e,sz),some _ =>
    match bytesOf? P e,zaY P e with
    | some by_,some z =>
     match zaa st.mem l with
     | .vec es sz1 s1 => some ((evT st.tm s).av ∧ z.length = sz ∧ 0 < by_ ∧ (sz0 = sz ∧ sz1 = sz ∧ s0 = s1 ∧ off = 0) ∧ (∀ x ∈ fs,x.length = sz) ∧ (∀ x ∈ fs,∀ c ∈ x,c.one = true) ∧
       ((len + fs.length) + (len + fs.length) / 4 + 704) * by_ ≤ 281474976710656 ∧ zaa M l = .dead,
       ⟨.vec l (s1 + 1) 0 (len + fs.length) sz,some (l,.vec (es.take len ++ fs) sz (s1 + 1))⟩,L)
     | _ => none
    | _,_ => none
   | _,_,_,_ => none
  | _,_ => none
 | _ => none
def zis (P:Program) (fr:Oper → Bool) (M:List AObj) (L:Nat) (st:St) (o:Oper) (d:Tmp):Option (Prop × PE × Nat) :=
 match o.op with
 | .binOp .add t x y _ =>
  match (evT st.tm x).un,(evT st.tm y).un with
  | .int k a,.int k' b => some ((evT st.tm x).av ∧ (evT st.tm y).av ∧ k = k',⟨.int k (k.wrap (a + b)),none⟩,L)
  | _,_ => none
 | .call { callee:=.builtin .append,args:=args,argTypes:=ts } =>
  match args.toList,ts.toList with
  | [x,s],[t0,t1] =>
   match (evT st.tm x).un,(evT st.tm s).un,zck P t0,zck P t1 with
   | .sl [] .full,.sl fs _,some (e,sz),some (_,_) =>
    match bytesOf? P e,zaY P e with
    | some by_,some z =>
     some ((evT st.tm x).av ∧ (evT st.tm s).av ∧ z.length = sz ∧ 0 < by_ ∧ (∀ x ∈ fs,x.length = sz) ∧ (∀ x ∈ fs,∀ c ∈ x,c.one = true) ∧
      (fs.length + fs.length / 4 + 704) * by_ ≤ 281474976710656 ∧ zaa M L = .dead ∧ L < M.length,
      ⟨.vec L 1 0 fs.length sz,some (L,.vec fs sz 1)⟩,L + 1)
    | _,_ => none
   | _,_,_,_ => none
  | _,_ => none
 | .buildSlice t len parts =>
  match fr o,zck P t,zem P t len (parts.toList.map fun q => (q.1,(evT st.tm q.2).un)) with
  | true,some (_,sz),some es => some ((ziH (parts.toList.map fun q => (evT st.tm q.2).av)) ∧ zaa M L = .dead ∧ L < M.length,⟨.vec L 1 0 len sz,some (L,.vec es sz 1)⟩,L + 1)
  | _,_,_ => none
 | _ => none
def zdF (P:Program) (Φ:zaJ) (fr:Oper → Bool) (ds:List (Option Tmp)) (M:List AObj) (L:Nat) (st:St) (o:Oper):Option (Prop × PE × Nat) :=
 match zdQ ds st.tm o with
 | none => none
 | some g =>
  match zaF Φ o.dst with
  | some d => match g with
   | none => zis P fr M L st o d
   | some _ => none
  | none =>
  match ztc P Φ { st with tm:=zd7 st.tm o.op,mem:=M } o.op with
  | some (p,v) =>
   match g with
   | none => some (p,⟨v,none⟩,L)
   | some g => some (g = true → p,⟨.onlyIf g v,none⟩,L)
  | none =>
   match frA Φ { st with tm:=zd7 st.tm o.op,mem:=M } o.op with
   | some (p,es,sz) =>
    match g with
    | none => if fr o then some (p ∧ zaa M L = .dead ∧ L < M.length,⟨.sl es (.own L),some (L,.tok es.length sz)⟩,L + 1) else some (p,⟨.sl es .no,none⟩,L)
    | some _ => none
   | none =>
    match g with
    | some _ => none
    | none => zgc P M L st o
def zbI (fr:Oper → Bool):List Oper → Nat
 | [] => 0
 | o :: os => (if zgk fr o && !zev o.op then 1 else 0) + zbI fr os
def zuF (P:Program) (Φ:zaJ) (fr:Oper → Bool) (ds:List (Option Tmp)) (M:List AObj) (L:Nat) (ops:List Oper) (st:St):List Nat → Prop
 | [] => True
 | j :: r =>
  (match ops[j]? with
  | some o =>
   match zdF P Φ fr ds M L st o with
   | some (p,e,_) => p ∧ e.eff = none ∧ ∀ d,o.dst = some d → e.v = lk st.tm d
   | none => False
  | none => False) ∧ zuF P Φ fr ds M L ops st r
def vcDr (P:Program) (Φ:zaJ) (ops:List Oper):Nat → List AObj → List Oper → Nat → (St → Prop) → St → Prop
 | _,_,[],_,K,st => K st
 | k,M,o :: os,L,K,st =>
  match zdF P Φ (zep ops) (ops.map (·.dst)) M L st o with
  | some (p,e,L') => p ∧ zct st.n o.dst ∧ vcDr P Φ ops (k + 1) M os L' K (zbM o e st)
  | none => ∃ free:List Nat,zuh ops k free = true ∧
    ze2 P o (fun st' => zuF P Φ (zep ops) (ops.map (·.dst)) (st'.mem ++ List.replicate (zbI (zep ops) os) AObj.dead) st'.mem.length ops { st with mem:=st'.mem } free ∧
     vcDr P Φ ops (k + 1) (st'.mem ++ List.replicate (zbI (zep ops) os) AObj.dead) os st'.mem.length K { st' with mem:=st'.mem ++ List.replicate (zbI (zep ops) os) AObj.dead }) st
def zae (P:Program) (Φ:zaJ) (ops:List Oper) (K:St → Prop) (st:St):Prop :=
 vcDr P Φ ops 0 (st.mem ++ List.replicate (zbI (zep ops) ops) AObj.dead) ops st.mem.length K { st with mem:=st.mem ++ List.replicate (zbI (zep ops) ops) AObj.dead }
def zkv:AV → Option Nat
 | .ptr l _ => some l
 | .vp l _ _ _ => some l
 | _ => none
def freeR (fl k:Nat) (tm:List (Nat × AV)) (o:Oper):Option (List Nat) :=
 if fl.testBit k = true then
  match o.op with
  | .load _ x =>
   match zkv (evT (zd7 tm o.op) x).un with
   | some l => some [l]
   | none => none
  | _ => none
 else some []
def effL (e:PE):List Nat :=
 match e.eff with
 | some (l,_) => [l]
 | none => []
def zus (rs ws:List Nat):Bool:=rs.all fun l => !ws.contains l
def exOK (fl:Nat) (ops:List Oper):Bool :=
 let bs:=znT [] ops
 (List.range ops.length).all fun j => !(fl.testBit (400 + j)) || (List.range ops.length).all fun i => !(fl.testBit i) || (bs.getD j 0).testBit i
def vcFr (P:Program) (Φ:zaJ) (ops:List Oper) (fl:Nat):Nat → List AObj → List Oper → Nat → List Nat → List Nat → (St → Prop) → St → Prop
 | _,_,[],_,rs,ws,K,st => zus rs ws = true ∧ K st
 | k,M,o :: os,L,rs,ws,K,st =>
  match zdF P Φ (zep ops) (ops.map (·.dst)) M L st o with
  | some (p,e,L') =>
   match freeR fl k st.tm o with
   | some r => p ∧ zct st.n o.dst ∧ vcFr P Φ ops fl (k + 1) M os L' (rs ++ r) (ws ++ (if (fl.testBit 399 && fl.testBit (400 + k)) = true then [] else effL e)) K (zbM o e st)
   | none => False
  | none => False
def hideO:AObj → AObj
 | .vec _ _ _ => .dead
 | o => o
def zha (h:Bool) (m:List AObj):List AObj:=if h then m.map hideO else m
theorem ztO (m:List AObj):zha (Nat.testBit 0 200) m = m:=by unfold zha; rw [Nat.zero_testBit]; rfl
theorem zeQ (h:Bool) (m:List AObj):(zha h m).length = m.length:=by unfold zha; split <;> simp
theorem zgC (h:Bool) (m:List AObj) (l:Nat):zaa (zha h m) l = if h then hideO (zaa m l) else zaa m l:=by
 unfold zha
 split
 ·unfold zaa
  simp only [List.getD,List.getElem?_map]
  cases m[l]? <;> rfl
 ·rfl
theorem zjS {h:Bool} {m:List AObj} {l:Nat} (hl:zaa (zha h m) l ≠ .dead):zaa (zha h m) l = zaa m l:=by
 rw [zgC] at hl ⊢
 split
 ·rename_i hh
  rw [if_pos hh] at hl
  cases hm:zaa m l <;> rw [hm] at hl <;> first | rfl | exact absurd rfl hl
 ·rfl
def zqe (P:Program) (Φ:zaJ) (fl:Nat) (ops:List Oper) (K:St → Prop) (st:St):Prop :=
 if fl.testBit 399 = true then exOK fl ops = true ∧ vcFr P Φ ops fl 0 (zha (fl.testBit 200) (st.mem ++ List.replicate (zbI (zep ops) ops) AObj.dead)) ops st.mem.length [] [] K { st with mem:=st.mem ++ List.replicate (zbI (zep ops) ops) AObj.dead }
 else vcFr P Φ ops fl 0 (zha (fl.testBit 200) (st.mem ++ List.replicate (zbI (zep ops) ops) AObj.dead)) ops st.mem.length [] [] K { st with mem:=st.mem ++ List.replicate (zbI (zep ops) ops) AObj.dead }
def zpF (Q:QA):Option Code → St → Prop
 | none,st => Q .normal st
 | some .ret,st => Q .ret st
 | some (.exit id),st => Q (.exit id) st
 | _,_ => False
def endA (Q:QA) (st:St) (mem':List AObj):AObj → Prop
 | .loop s pend tm n ps asg body => (s == LoopState.busy) = false ∧
   zpF Q pend { st with mem:=mem'.set (st.mem.length + 1) (AObj.loop .exhausted pend tm n ps asg body),marks:=st.mem.length :: st.marks }
 | _ => False
def zhu (P:Program) (f:Operand) (ps:Array Tmp) (asg body:Code) (Q:QA) (st:St):Prop :=
 match (evT st.tm f).un with
 | .fn (.func g) fst cap => (evT st.tm f).av ∧ ∃ tm' R,(∀ q ∈ tm',q.2 = (lk st.tm q.1).strip) ∧
   zfS P g (fst ++ [.yld (st.mem.length + 1)] ++ cap) (st.mem ++ [AObj.deferred,AObj.loop .ready none tm' st.n ps asg body]) R ∧
   ∀ r mem',R r mem' → mem'.length = st.mem.length + 2 → endA Q st mem' (zaa mem' (st.mem.length + 1))
 | _ => False
def vc (P:Program) (Φ:zaJ):Code → QA → St → Prop
 | .skip => fun Q st => Q .normal st
 | .label _ => fun Q st => Q .normal st
 | .seq a b => fun Q st => vc P Φ a (zaW (vc P Φ b Q) Q) st
 | .cond c x y => fun Q st =>
  match (evT st.tm c).un with
  | .bool b => (evT st.tm c).av ∧ (b = true → vc P Φ x Q st) ∧ (b = false → vc P Φ y Q st)
  | _ => False
 | .block id c => fun Q st => vc P Φ c (blkA id Q) st
 | .scope c => fun Q st => vc P Φ c (scpA Q) st
 | .loop c => fun Q st => LoopV (vc P Φ c) Q st
 | .exit id => fun Q st => Q (.exit id) st
 | .ret => fun Q st => Q .ret st
 | .region _ ops false => fun Q st => zdB P Φ (ops.toList.map (·.dst)) ops.toList (Q .normal) st
 | .region id ops true => fun Q st =>
  match zaF Φ (some (1000000 + id)) with
  | none => zaj 0 ops.toList = true ∧ zae P Φ ops.toList (Q .normal) st
  | some _ => ∃ fl:Nat,zaj fl ops.toList = true ∧ zqe P Φ fl ops.toList (Q .normal) st
 | .rangeFunc f ps asg body => fun Q st => ∃ ts:List TZ,zhu P f ps asg body Q (tokz ts st)
 | _ => fun _ _ => False
end Go.Fs
namespace Go.Fs
open Go.RowKit (Below)
theorem zfY (a:Act) (d:Option Tmp) (x:Value) (n:Nat) (hs:a.tmps.size = n) (hd:zct n d) (i:Nat) :
  (a.put d x).tmps.getD i Go.undef = (if d = some i then x else a.tmps.getD i Go.undef):=by
 cases d with
 | none => simp [Act.put]
 | some d =>
  simp only [zct] at hd
  simp only [Act.put,czg]
  by_cases h:d = i
  ·subst h
   rw [if_pos rfl]
   have hlt:d < a.tmps.size:=by rw [hs]; exact hd
   simp [Array.getD,hlt]
  ·rw [if_neg h]
   simp only [czo]
   rw [Array.getElem?_setIfInBounds_ne h]
theorem zdJ (st:St) (d:Option Tmp) (v:AV) (i:Nat):(st.put d v).get i = (if d = some i then v else st.get i):=by
 cases d with
 | none => simp [St.put,putT,St.get]
 | some d =>
  simp only [St.put,putT,St.get,lk,czg]
  by_cases h:i = d
  ·subst h; simp
  ·rw [if_neg h,if_neg (fun e => h e.symm)]
theorem zgI (a:Act) (d:Option Tmp) (x:Value):(a.put d x).defers = a.defers:=by cases d <;> rfl
theorem zi0 (a:Act) (d:Option Tmp) (x:Value):(a.put d x).tmps.size = a.tmps.size:=by cases d <;> simp [Act.put]
section
variable {X:Nat → Prop} {w0:W0} {w w':World} {m0:Nat} {κ κ':Kn} {ρ:Lc} {τ:Tc} {st:St} {a:Act}
theorem heap_grow (hg:Grow κ w κ' w') {b:Nat} {o:Obj} (h:w.heap[b]? = some o):w'.heap[b]? = some o:=by
 have hb:b < w.heap.size:=by
  by_cases hb:b < w.heap.size
  ·exact hb
  ·simp [Array.getElem?_eq_none (czE hb)] at h
 rw [hg.below.block b hb,h]
theorem RelM.grow {mem:List AObj} (h:RelM κ ρ τ X mem w) (hg:Grow κ w κ' w'):RelM κ' ρ τ X mem w':=by
 refine ⟨fun l => ?_,h.inj,hg.know,h.dom,?_⟩
 ·exact RelObj.mono (h.obj l) hg.le (Lc.le_refl _) ⟨fun _ _ _ => rfl,fun _ _ _ _ => rfl⟩ (fun b hb => hg.below.block b (h.blk_lt hb)) (fun b hb => ⟨fun o => hg.old b o (h.blk_lt hb),hg.oldm b (h.blk_lt hb)⟩)
 ·intro l cs b vs T hl hb hh i hi
  have ho:=h.obj l
  rw [hl] at ho
  obtain ⟨b',vs',T',h1,_,_,h4,_,_⟩:=ho
  obtain rfl:b = b':=by rw [hb] at h1; exact czK h1
  have:=heap_grow hg h4
  rw [hh] at this
  cases this
  exact h.toks l cs b vs T hl hb h4 i hi
theorem Frm.grow {w0:World} (h:Frm X w0 w) (hx:∀ b,X b → b < w0.heap.size) (hg:Grow κ w κ' w'):Frm X w0 w' :=
 ⟨hg.below.os.trans h.os,hg.below.tape.trans h.tape,hg.below.output.trans h.output,Nat.le_trans h.size hg.below.size,
  fun b hb => by rw [hg.below.block b (by have:=hx b hb; have:=h.size; omega)]; exact h.block b hb⟩
theorem Rel.putV (h:Rel X w0 m0 κ ρ τ st a w) (hg:Grow κ w κ' w') {d:Option Tmp} {v:AV} {x:Value} (hd:zct st.n d) (hv:Rep κ' ρ v x)
  (ht:TokOK τ st.mem v x):Rel X w0 m0 κ' ρ τ (st.put d v) (a.put d x) w':=by
 refine ⟨by rw [zgI]; exact h.defers,by rw [zi0]; exact h.size,fun i => ?_,fun i => ?_,h.mem.grow hg,h.frm.grow h.xlt hg,h.xlt,h.prot,h.prm,h.kx.trans ⟨fun b o hb => hg.old b o (by have:=h.xlt b hb; have:=h.frm.size; omega),fun b hb => hg.oldm b (by have:=h.xlt b hb; have:=h.frm.size; omega)⟩⟩
 ·rw [zfY a d x st.n h.size hd,zdJ]
  split
  ·exact hv
  ·exact (h.tm i).mono hg.le (Lc.le_refl _)
 ·rw [zfY a d x st.n h.size hd,zdJ]
  split
  ·exact ht
  ·exact h.tk i
theorem Rel.ev (h:Rel X w0 m0 κ ρ τ st a w) (x:Operand):Rep κ ρ (evT st.tm x) (a.eval x):=by
 cases x with
 | tmp t => exact h.tm t
 | const v => exact zpx v
 | global g => exact .undef _
 | func f => exact .fn _ _ _ _ _ rfl rfl (fun i hi => by simp at hi) (fun i hi => by simp at hi)
theorem ofV1_tk (v:Value):(zi5 v).un.tk1 = false:=by
 unfold zi5
 split <;> rfl
theorem zsW (mem:List AObj) (v x:Value):TokOK τ mem (zi5 v) x:=by
 refine zaO ?_
 unfold zi5
 split <;> rfl
theorem Rel.evTok (h:Rel X w0 m0 κ ρ τ st a w) (x:Operand):TokOK τ st.mem (evT st.tm x) (a.eval x):=by
 cases x with
 | tmp t => exact h.tk t
 | const v =>
  show TokOK τ st.mem (ofV v) v
  unfold ofV
  split
  ·refine zaO ?_
   simp only [AV.un,AV.tkB,List.any_map,List.any_eq_false]
   intro c _
   simp [ofV1_tk]
  ·exact zsW _ _ _
 | global g => exact zaO rfl
 | func f => exact zaO rfl
theorem Rep.un {v:AV} {x:Value} (h:Rep κ ρ v x) (ha:v.av):Rep κ ρ v.un x:=by
 induction h with
 | onlyIf g v x _ h0 ih => exact ih ha.1 ha.2
 | undef x => exact .undef x
 | int k n => exact .int k n
 | bool b => exact .bool b
 | nilp => exact .nilp
 | nilf => exact .nilf
 | agg cs vs hs h _ => exact .agg cs vs hs h
 | tup cs vs hs h _ => exact .tup cs vs hs h
 | slnil tk => exact .slnil _
 | sl es tk b o cap sz val hsz hk hr ht hc _ => exact .sl es tk b o cap sz val hsz hk hr ht hc
 | ref es off b o val hk h _ => exact .ref es off b o val hk h
 | ptr l off b hl => exact .ptr l off b hl
 | arr l off len sz b cap hl hc => exact .arr l off len sz b cap hl hc
 | fn f fst cap vs ws h1 h2 h3 h4 _ _ => exact .fn f fst cap vs ws h1 h2 h3 h4
 | mpr ks vs b es hm hl hs hk h _ => exact .mpr ks vs b es hm hl hs hk h
 | mp l b hl => exact .mp l b hl
 | yld l b hl => exact .yld l b hl
 | vec l s off len sz a cap h => exact .vec l s off len sz a cap h
 | vp l s i off a => exact .vp l s i off a
theorem TokOK.un {mem:List AObj} {v:AV} {x:Value} (h:TokOK τ mem v x) (ha:v.av):TokOK τ mem v.un x :=
 ⟨⟨fun es l e _ => h.own es l (by rw [un_un] at e; exact e) ha,fun l s off len sz e _ => h.vec l s off len sz (by rw [un_un] at e; exact e) ha,fun l s i off e _ => h.vp l s i off (by rw [un_un] at e; exact e) ha⟩,
   fun cs xs e _ ex i hi => h.agg cs xs (by rw [un_un] at e; exact e) ha ex i hi⟩
theorem zd3 {l:List Prop} (h:ziH l):∀ p ∈ l,p:=by
 induction l with
 | nil => intro p hp; cases hp
 | cons q r ih =>
  intro p hp
  cases hp with
  | head => exact h.1
  | tail _ hm => exact ih h.2 p hm
theorem zjo {P:Program} {o:Oper} {p:Prop} {v:AV} (h:Rel X w0 m0 κ ρ τ st a w) (hs:sem P st o.op = some (p,v)) (hp:p) :
  ∃ x w' κ',(execOp a.eval o).run P w = .ok (.value x) w' ∧ Rep κ' ρ v x ∧ TokOK τ st.mem v x ∧ Grow κ w κ' w':=by
 unfold sem at hs
 split at hs
 ·rename_i c x y hop
  unfold pickA at hs
  split at hs
  ·rename_i c' x' y' hc hx hy
   obtain ⟨rfl,rfl⟩:=Prod.mk.inj (czK hs)
   have rc:=(h.ev c).un hp.1
   rw [hc] at rc
   refine ⟨if c' then a.eval x else a.eval y,w,κ,?_,?_,?_,Grow.refl h.mem.know⟩
   ·simp only [execOp,hop,rc.bool_inv,asBool,Sem.run_bind,Sem.run_pure,Result.andThen_ok]
   ·cases c' with
    | true =>
     have:=(h.ev x).un (hp.2.1 rfl)
     rw [hx] at this
     simpa using this
    | false =>
     have:=(h.ev y).un (hp.2.2 rfl)
     rw [hy] at this
     simpa using this
   ·exact zaO rfl
  ·rename_i c' y' hc hx hy
   obtain ⟨rfl,rfl⟩:=Prod.mk.inj (czK hs)
   have rc:=(h.ev c).un hp.1
   rw [hc,hp.2.1] at rc
   refine ⟨a.eval y,w,κ,?_,?_,?_,Grow.refl h.mem.know⟩
   ·simp only [execOp,hop,rc.bool_inv,asBool,Sem.run_bind,Sem.run_pure,Result.andThen_ok]; simp
   ·have:=(h.ev y).un hp.2.2
    rw [hy] at this
    exact this
   ·exact zaO rfl
  ·rename_i c' x' hc hx hy
   obtain ⟨rfl,rfl⟩:=Prod.mk.inj (czK hs)
   have rc:=(h.ev c).un hp.1
   rw [hc,hp.2.1] at rc
   refine ⟨a.eval x,w,κ,?_,?_,?_,Grow.refl h.mem.know⟩
   ·simp only [execOp,hop,rc.bool_inv,asBool,Sem.run_bind,Sem.run_pure,Result.andThen_ok]; simp
   ·have:=(h.ev x).un hp.2.2
    rw [hx] at this
    exact this
   ·exact zaO rfl
  ·cases hs
 ·rename_i hnp
  split at hs
  ·rename_i q u hq
   obtain ⟨rfl,rfl⟩:=Prod.mk.inj (czK hs)
   have hav:=zd3 hp.1
   have he:∀ x ∈ o.op.operands.toList,Rep κ ρ ((evT st.tm x).un) (a.eval x) :=
    fun x hx => (h.ev x).un (hav _ (czx.2 ⟨x,hx,rfl⟩))
   have het:∀ x ∈ o.op.operands.toList,TokOK τ st.mem ((evT st.tm x).un) (a.eval x) :=
    fun x hx => (h.evTok x).un (hav _ (czx.2 ⟨x,hx,rfl⟩))
   obtain ⟨x,w',κ',h1,h2,h3,h4⟩:=ztb h.mem he het hq hp.2
   cases hk:zfJ o.op with
   | false =>
    simp only [czp,if_false]
    exact ⟨x,w',κ',h1,h2.strip,TokOK.strip _,h3⟩
   | true =>
    simp only [if_true]
    exact ⟨x,w',κ',h1,h2,h4 hk,h3⟩
  ·cases hs
end
end Go.Fs
namespace Go.Fs
open Go.RowKit (Below)
theorem zdc (mem:List AObj) (o:AObj) (l:Nat):zaa (mem ++ [o]) l = if l = mem.length then o else zaa mem l:=by
 unfold zaa
 simp only [List.getD]
 by_cases h:l = mem.length
 ·subst h; simp
 ·rw [if_neg h]
  by_cases h2:l < mem.length
  ·rw [czi h2]
  ·rw [czj (by omega),czB (by simp; omega),czB (by omega)]
theorem zbX {mem:List AObj} {l:Nat} {o:AObj} (h:zaa mem l = o) (ho:o ≠ .dead):l < mem.length:=by
 by_cases h2:l < mem.length
 ·exact h2
 ·unfold zaa at h
  simp [List.getD,czB (czE h2)] at h
  exact absurd h.symm ho
theorem zaD (mem:List AObj) (o:AObj) (l l':Nat) (hl:l < mem.length):zaa (mem.set l o) l' = if l' = l then o else zaa mem l':=by
 unfold zaa
 simp only [List.getD,List.getElem?_set]
 by_cases h:l' = l
 ·subst h; simp [hl]
 ·rw [if_neg h,if_neg (fun e => h e.symm)]
section
variable {X:Nat → Prop} {w0:W0} {w w':World} {m0:Nat} {κ κ':Kn} {ρ:Lc} {τ:Tc} {st:St} {a:Act}
theorem TStep.push (m:Nat) (τ:Tc) {mem:List AObj} (o:AObj) (hm:m ≤ mem.length):TStep m τ mem τ (mem ++ [o]) :=
 TStep.same (fun l hl => by rw [zdc,if_neg (by omega)]) (fun _ _ => rfl)
theorem TokOK.push {mem:List AObj} {v:AV} {x:Value} {o:AObj} (h:TokOK τ mem v x):TokOK τ (mem ++ [o]) v x:=h.move (TStep.push _ _ _ (czf _))
def zc6 (ρ:Lc) (l b:Nat):Lc:=fun i => if i = l then some b else ρ i
theorem DefOk.mono {ρ ρ':Lc} (hρ:ρ.le ρ'):∀ {ls:List Nat} {ds:List Deferred},DefOk ρ ls ds → DefOk ρ' ls ds
 | [],_,h => h
 | _ :: _,_,⟨b,rest,h1,h2,h3⟩ => ⟨b,rest,hρ _ _ h1,h2,h3.mono hρ⟩
theorem zb0 (w:World) (o:Obj) (b:Nat) (h:b ≠ w.heap.size):({ w with heap:=w.heap.push o }:World).heap[b]? = w.heap[b]?:=by
 show (w.heap.push o)[b]? = _
 rw [Array.getElem?_push,if_neg h]
theorem zbS (w:World) (o:Obj):({ w with heap:=w.heap.push o }:World).heap[w.heap.size]? = some o:=by
 show (w.heap.push o)[w.heap.size]? = _
 simp
theorem znG (w:World) (o:Obj) {b off:Nat} {v:Value} (h:w.cell? ⟨b,off,none⟩ = some v):({ w with heap:=w.heap.push o }:World).cell? ⟨b,off,none⟩ = some v:=by
 have:=zfC h
 rw [← h]
 unfold World.cell?
 rw [zb0 w o b (by omega)]
theorem RelM.push {mem:List AObj} (h:RelM κ ρ τ X mem w) {o:AObj} {ob:Obj}
  (hnt:(∀ n sz,o ≠ .tok n sz) ∧ ∀ es sz s,o ≠ .vec es sz s)
  (hno:RelObj κ (zc6 ρ mem.length w.heap.size) τ X { w with heap:=w.heap.push ob } mem.length o)
  (htok:∀ cs vs T,o = .cells cs → ob = .cells vs T (0,0) → ∀ i,i < cs.length → TokOK τ mem (cs.getD i .undef) (vs.getD i Go.undef)) :
  RelM κ (zc6 ρ mem.length w.heap.size) τ X (mem ++ [o]) { w with heap:=w.heap.push ob }:=by
 have hle:ρ.le (zc6 ρ mem.length w.heap.size):=fun l b hl => by
  unfold zc6
  split
  ·rename_i e; subst e; rw [h.dom _ (czf _)] at hl; cases hl
  ·exact hl
 have hlt:∀ l b,blk ρ τ l (zaa mem l) = some b → b < w.heap.size:=fun l b hb => h.blk_lt hb
 have hblk:∀ l,blk (zc6 ρ mem.length w.heap.size) τ l (zaa (mem ++ [o]) l) =
   if l = mem.length then blk (zc6 ρ mem.length w.heap.size) τ mem.length o else blk ρ τ l (zaa mem l):=fun l => by
  rw [zdc]
  split
  ·rename_i e; subst e; rfl
  ·rename_i e
   cases zaa mem l <;> simp [blk,zc6,e]
 have hnew:∀ b,blk (zc6 ρ mem.length w.heap.size) τ mem.length o = some b → b = w.heap.size:=fun b hb => by
  cases o with
  | dead => cases hb
  | tok n sz => exact absurd rfl (hnt.1 _ _)
  | vec es sz s => exact absurd rfl (hnt.2 _ _ _)
  | _ => simp only [blk,zc6,if_true] at hb; cases hb; rfl
 refine ⟨fun l => ?_,fun l l' b hl hl' => ?_,⟨fun b off v hk => znG w ob (h.know.c b off v hk),fun b es hk => zgD ob (h.know.m b es hk)⟩,fun l hl => ?_,?_⟩
 ·rw [zdc]
  split
  ·rename_i e; subst e; exact hno
  ·rename_i e
   exact RelObj.mono (h.obj l) (Kn.le_refl _) hle ⟨fun _ _ _ => rfl,fun _ _ _ _ => rfl⟩ (fun b hb => zb0 _ _ _ (by have:=hlt l b hb; omega)) (fun b hb => ⟨fun _ => rfl,rfl⟩)
 ·rw [hblk] at hl hl'
  split at hl <;> split at hl'
  ·omega
  ·have h1:=hnew b hl
   have h2:=hlt l' b hl'
   omega
  ·have h1:=hnew b hl'
   have h2:=hlt l b hl
   omega
  ·exact h.inj l l' b hl hl'
 ·simp only [czc,List.length_singleton] at hl
  unfold zc6
  rw [if_neg (by omega)]
  exact h.dom l (by omega)
 ·intro l cs b vs T hl hb hh i hi
  rw [zdc] at hl
  split at hl
  ·rename_i e
   subst e
   simp only [zc6,if_true] at hb
   cases hb
   rw [zbS] at hh
   exact (htok cs vs T hl (czK hh) i hi).push
  ·rename_i e
   simp only [zc6,if_neg e] at hb
   have hbl:=hlt l b (by rw [hl]; exact hb)
   rw [zb0 _ _ _ (by omega)] at hh
   exact (h.toks l cs b vs T hl hb hh i hi).push
theorem Ext.push (m:Nat) (κ:Kn) (ρ:Lc) (τ:Tc) (mem:List AObj) (o:AObj) (b:Nat) (hm:m ≤ mem.length) :
  Ext m κ ρ τ mem κ (zc6 ρ mem.length b) τ (mem ++ [o]) :=
 ⟨Kn.le_refl _,fun l b' hl h => by unfold zc6; rw [if_neg (by omega)]; exact h,TStep.push _ _ _ hm⟩
theorem Frm.push {w0:World} (h:Frm X w0 w) (hx:∀ b,X b → b < w0.heap.size) (ob:Obj):Frm X w0 { w with heap:=w.heap.push ob } :=
 ⟨h.os,h.tape,h.output,by show _ ≤ (w.heap.push ob).size; simp; have:=h.size; omega,
  fun b hb => by rw [zb0 _ _ _ (by have:=hx b hb; have:=h.size; omega)]; exact h.block b hb⟩
theorem Kn.fresh_c (h:zdN κ w) (o:Nat):κ w.heap.size o = none:=by
 cases hk:κ w.heap.size o with
 | none => rfl
 | some v => have:=zfC (h.c _ _ _ hk); omega
theorem Kn.fresh_m (h:zdN κ w):κ.m w.heap.size = none:=by
 cases hk:κ.m w.heap.size with
 | none => rfl
 | some v => have:=zdZ (h.m _ _ hk); omega
theorem Rel.pushO (h:Rel X w0 m0 κ ρ τ st a w) {o:AObj} {ob:Obj} {d:Option Tmp} {v:AV} {x:Value} (hd:zct st.n d) (hnt:(∀ n sz,o ≠ .tok n sz) ∧ ∀ es sz s,o ≠ .vec es sz s)
  (hno:ρ.le (zc6 ρ st.mem.length w.heap.size) → ¬ X w.heap.size → RelObj κ (zc6 ρ st.mem.length w.heap.size) τ X { w with heap:=w.heap.push ob } st.mem.length o)
  (htok:∀ cs vs T,o = .cells cs → ob = .cells vs T (0,0) → ∀ i,i < cs.length → TokOK τ st.mem (cs.getD i .undef) (vs.getD i Go.undef))
  (hv:Rep κ (zc6 ρ st.mem.length w.heap.size) v x) (hvt:v.un.tkB = false) :
  Rel X w0 m0 κ (zc6 ρ st.mem.length w.heap.size) τ ({ st with mem:=st.mem ++ [o] }.put d v) (a.put d x) { w with heap:=w.heap.push ob } ∧
  Ext m0 κ ρ τ st.mem κ (zc6 ρ st.mem.length w.heap.size) τ (st.mem ++ [o]):=by
 have hle:ρ.le (zc6 ρ st.mem.length w.heap.size):=fun l b hl => by
  unfold zc6
  split
  ·rename_i e; subst e; rw [h.mem.dom _ (czf _)] at hl; cases hl
  ·exact hl
 have hX:¬ X w.heap.size:=fun hb => by have:=h.xlt _ hb; have:=h.frm.size; omega
 refine ⟨⟨by rw [zgI]; exact h.defers.mono hle,by rw [zi0]; exact h.size,fun i => ?_,fun i => ?_,h.mem.push hnt (hno hle hX) htok,h.frm.push h.xlt _,h.xlt,?_,h.prm,h.kx⟩,Ext.push _ _ _ _ _ _ _ h.prot⟩
 ·rw [zfY a d x st.n h.size hd,zdJ]
  split
  ·exact hv
  ·exact (h.tm i).mono (Kn.le_refl _) hle
 ·rw [zfY a d x st.n h.size hd,zdJ]
  split
  ·exact zaO hvt
  ·exact (h.tk i).push
 ·show m0 ≤ (st.mem ++ [o]).length
  simp
  have:=h.prot
  omega
theorem Rel.push (h:Rel X w0 m0 κ ρ τ st a w) {cs:List AV} {vs:Array Value} {T:TypeId} {d:Option Tmp} {v:AV} {x:Value} (hd:zct st.n d) (hR:RepL κ ρ cs vs)
  (ht:∀ i,i < cs.length → TokOK τ st.mem (cs.getD i .undef) (vs.getD i Go.undef))
  (hv:Rep κ (zc6 ρ st.mem.length w.heap.size) v x) (hvt:v.un.tkB = false) :
  Rel X w0 m0 κ (zc6 ρ st.mem.length w.heap.size) τ ({ st with mem:=st.mem ++ [AObj.cells cs] }.put d v) (a.put d x) { w with heap:=w.heap.push (.cells vs T) } ∧
  Ext m0 κ ρ τ st.mem κ (zc6 ρ st.mem.length w.heap.size) τ (st.mem ++ [AObj.cells cs]) :=
 h.pushO hd (by simp) (fun hle hX => ⟨w.heap.size,vs,T,by simp [zc6],hX,Kn.fresh_c h.mem.know,zbS _ _,hR.1,fun i hi => (hR.2 i hi).mono (Kn.le_refl _) hle⟩)
  (fun cs' vs' T' e1 e2 => by cases e1; cases e2; exact ht) hv hvt
theorem TStep.set (m:Nat) (τ:Tc) {mem:List AObj} {l:Nat} (ob:AObj) (hlt:l < mem.length) (hdata:(∀ n sz,zaa mem l ≠ .tok n sz) ∧ ∀ es sz s,zaa mem l ≠ .vec es sz s):TStep m τ mem τ (mem.set l ob) :=
 ⟨fun i n sz _ hm => ⟨n,by rw [zaD _ _ _ _ hlt,if_neg (fun e => by rw [e] at hm; exact hdata.1 _ _ hm)]; exact hm,czf _,fun _ => rfl⟩,
  fun i es sz s _ hm => ⟨es,s,by rw [zaD _ _ _ _ hlt,if_neg (fun e => by rw [e] at hm; exact hdata.2 _ _ _ hm)]; exact hm,czf _,fun _ => ⟨rfl,rfl⟩⟩⟩
theorem RelM.setO {mem:List AObj} (h:RelM κ ρ τ X mem w) {l b:Nat} {ob:AObj} {o:Obj} (hlt:l < mem.length) (hold:blk ρ τ l (zaa mem l) = some b) (hnew:blk ρ τ l ob = some b)
  (hdata:(∀ n sz,zaa mem l ≠ .tok n sz) ∧ ∀ es sz s,zaa mem l ≠ .vec es sz s) (hnc:∀ cs,ob ≠ .cells cs) (hkm:κ.m b = none) (hkc:∀ off,κ b off = none)
  (hob:RelObj κ ρ τ X { w with heap:=w.heap.setIfInBounds b o } l ob):RelM κ ρ τ X (mem.set l ob) { w with heap:=w.heap.setIfInBounds b o }:=by
 have hheap:∀ b',b' ≠ b → ({ w with heap:=w.heap.setIfInBounds b o }:World).heap[b']? = w.heap[b']?:=fun b' hb' => by
  show (w.heap.setIfInBounds b _)[b']? = _
  rw [Array.getElem?_setIfInBounds_ne (fun e => hb' e.symm)]
 have hoth:∀ i b',i ≠ l → blk ρ τ i (zaa mem i) = some b' → b' ≠ b:=fun i b' hi hb' e => by
  subst e
  exact hi (h.inj i l b' hb' hold)
 have hms:∀ i,zaa (mem.set l ob) i = if i = l then ob else zaa mem i:=fun i => zaD _ _ _ _ hlt
 have htok:∀ v x,TokOK τ mem v x → TokOK τ (mem.set l ob) v x:=fun v x hv => hv.move (TStep.set _ _ _ hlt hdata)
 have hblk:∀ i,blk ρ τ i (zaa (mem.set l ob) i) = blk ρ τ i (zaa mem i):=fun i => by
  rw [hms]
  split
  ·rename_i e; subst e; rw [hnew,hold]
  ·rfl
 refine ⟨fun i => ?_,fun i i' b' hi hi' => h.inj i i' b' (by rw [← hblk]; exact hi) (by rw [← hblk]; exact hi'),⟨fun b' off v hk => ?_,fun b' es hk => ?_⟩,fun i hi => h.dom i (by simpa using hi),?_⟩
 ·rw [hms]
  split
  ·rename_i e; subst e; exact hob
  ·rename_i e
   exact RelObj.mono (h.obj i) (Kn.le_refl _) (Lc.le_refl _) ⟨fun _ _ _ => rfl,fun _ _ _ _ => rfl⟩ (fun b' hb' => hheap b' (hoth i b' e hb')) (fun _ _ => ⟨fun _ => rfl,rfl⟩)
 ·have hne:b' ≠ b:=fun e => by rw [e,hkc] at hk; cases hk
  rw [← h.know.c _ _ _ hk]
  unfold World.cell?
  rw [hheap b' hne]
 ·have hne:b' ≠ b:=fun e => by rw [e,hkm] at hk; cases hk
  rw [hheap b' hne]
  exact h.know.m _ _ hk
 ·intro i cs b' us T' hi hb' hh' j hj
  rw [hms] at hi
  split at hi
  ·exact absurd hi (hnc cs)
  ·rename_i e
   rw [hheap b' (hoth i b' e (by rw [hi]; exact hb'))] at hh'
   exact htok _ _ (h.toks i cs b' us T' hi hb' hh' j hj)
theorem Rel.setO (h:Rel X w0 m0 κ ρ τ st a w) {l b:Nat} {ob:AObj} {o:Obj} (hlt:l < st.mem.length) (hold:blk ρ τ l (zaa st.mem l) = some b) (hnew:blk ρ τ l ob = some b)
  (hdata:(∀ n sz,zaa st.mem l ≠ .tok n sz) ∧ ∀ es sz s,zaa st.mem l ≠ .vec es sz s) (hnc:∀ cs,ob ≠ .cells cs) (hkm:κ.m b = none) (hkc:∀ off,κ b off = none) (hbX:¬ X b)
  (hob:RelObj κ ρ τ X { w with heap:=w.heap.setIfInBounds b o } l ob) :
  Rel X w0 m0 κ ρ τ { st with mem:=st.mem.set l ob } a { w with heap:=w.heap.setIfInBounds b o } ∧ Ext m0 κ ρ τ st.mem κ ρ τ (st.mem.set l ob):=by
 have hheap:∀ b',b' ≠ b → ({ w with heap:=w.heap.setIfInBounds b o }:World).heap[b']? = w.heap[b']?:=fun b' hb' => by
  show (w.heap.setIfInBounds b _)[b']? = _
  rw [Array.getElem?_setIfInBounds_ne (fun e => hb' e.symm)]
 have hms:∀ i,zaa (st.mem.set l ob) i = if i = l then ob else zaa st.mem i:=fun i => zaD _ _ _ _ hlt
 have htok:∀ v x,TokOK τ st.mem v x → TokOK τ (st.mem.set l ob) v x:=fun v x hv => hv.move (TStep.set _ _ _ hlt hdata)
 refine ⟨⟨h.defers,h.size,h.tm,fun i => htok _ _ (h.tk i),h.mem.setO hlt hold hnew hdata hnc hkm hkc hob,
  ⟨h.frm.os,h.frm.tape,h.frm.output,by show _ ≤ (w.heap.setIfInBounds b _).size; simpa using h.frm.size,fun b' hb' => by rw [hheap b' (fun e => by subst e; exact hbX hb')]; exact h.frm.block b' hb'⟩,
  h.xlt,by simpa using h.prot,h.prm,h.kx⟩,Kn.le_refl _,fun _ _ _ q => q,TStep.set _ _ _ hlt hdata⟩
end
end Go.Fs
namespace Go.Fs
open Go.RowKit (Below)
section
variable {P:Program} {X:Nat → Prop} {w0:W0} {w w':World} {m0:Nat} {κ κ':Kn} {ρ:Lc} {τ:Tc} {st:St} {a:Act}
def zsO (P:Program) (X:Nat → Prop) (w0:W0) (m0:Nat) (κ:Kn) (ρ:Lc) (τ:Tc) (st:St) (a:Act) (w:World) (o:Oper) (K:St → Prop):Prop :=
 ∃ nx x w' κ' ρ' τ' st',(execOp a.eval o).run P w = .ok nx w' ∧ (nx = .value x ∨ (nx = .skip ∧ x = Go.undef)) ∧
  Rel X w0 m0 κ' ρ' τ' st' (a.put o.dst x) w' ∧ Ext m0 κ ρ τ st.mem κ' ρ' τ' st'.mem ∧ K st'
theorem zh7 {t:TypeId} {z:List AV} (h:zaY P t = some z):∀ i,(z.getD i .undef).un.tkB = false:=by
 have key:∀ v,(zi5 v).un.tkB = false:=by
  intro v
  unfold zi5
  split <;> rfl
 unfold zaY at h
 split at h
 ·rename_i i hi
  cases hz:i.zero with
  | none => simp [hz] at h
  | some v =>
   simp [hz] at h
   subst h
   intro j
   unfold ofV
   split
   ·rename_i cs
    simp only [AV.cells,List.getD,List.getElem?_map]
    cases cs.toList[j]? with
    | none => rfl
    | some q => simpa using key q
   ·have h2:(zi5 v).cells = [zi5 v]:=by unfold zi5; split <;> rfl
    rw [h2]
    cases j with
    | zero => simpa using key v
    | succ j => rfl
 ·cases h
theorem zfX {mem:List AObj} {v:AV} {x:Value} (h:v.un.tkB = false):TokOK τ mem v x:=zaO h
theorem zqI {o:Oper} {t:TypeId} {K:St → Prop} (h:Rel X w0 m0 κ ρ τ st a w) (ho:o.op = .alloc t) (hK:ze2 P o K st) :
  zsO P X w0 m0 κ ρ τ st a w o K:=by
 unfold ze2 at hK
 rw [ho] at hK
 dsimp only at hK
 split at hK
 ·rename_i z hz
  obtain ⟨hd,hk⟩:=hK
  obtain ⟨zv,hzv,hzr⟩:=zei (w:=w) (κ:=κ) (ρ:=ρ) hz
  obtain ⟨h1,h2⟩:=h.push (T:=t) (d:=o.dst) (v:=.ptr st.mem.length 0) (x:=.pointer (some ⟨w.heap.size,0,none⟩)) hd hzr
   (fun i _ => zfX (zh7 hz i)) (.ptr _ _ _ (by simp [zc6])) rfl
  refine ⟨.value (.pointer (some ⟨w.heap.size,0,none⟩)),_,_,κ,_,τ,_,?_,.inl rfl,h1,h2,hk⟩
  simp [execOp,ho,Instr.alloc,hzv,newVar,newRow]
 ·exact hK.elim
theorem zgJ {v:AV} {x:Value} (h:Rep κ ρ v x) (hs:v.solid = true):RepL κ ρ v.cells' x.cells:=by
 obtain ⟨h1,h2⟩:=h.cells hs
 cases v with
 | agg cs => exact ⟨by simpa [AV.cells',AV.cells] using h1,fun i hi => by
   simp only [AV.cells',czz] at hi
   simp only [AV.cells',zew]
   exact (h2 i hi).soft⟩
 | _ => exact ⟨h1,h2⟩
theorem box_sound {o:Oper} {t:TypeId} {y:Operand} {K:St → Prop} (h:Rel X w0 m0 κ ρ τ st a w) (ho:o.op = .box t y) (hK:ze2 P o K st) :
  zsO P X w0 m0 κ ρ τ st a w o K:=by
 unfold ze2 at hK
 rw [ho] at hK
 obtain ⟨hd,hs,hk⟩:=hK
 have hc:=zgJ (h.ev y) hs
 have hc':RepL κ ρ ((evT st.tm y).cells'.map AV.strip) (a.eval y).cells:=⟨by simpa using hc.1,fun i hi => by
  rw [zcB]
  exact (hc.2 i (by simpa using hi)).strip⟩
 obtain ⟨h1,h2⟩:=h.push (T:=t) (d:=o.dst) (v:=.ptr st.mem.length 0) (x:=.pointer (some ⟨w.heap.size,0,none⟩)) hd hc'
  (fun i _ => by rw [zcB]; exact TokOK.strip _) (.ptr _ _ _ (by simp [zc6])) rfl
 refine ⟨.value (.pointer (some ⟨w.heap.size,0,none⟩)),_,_,κ,_,τ,_,?_,.inl rfl,h1,h2,hk⟩
 simp [execOp,ho,Instr.box,newVar,newRow]
theorem bytesOf?_spec {t:TypeId} {n:Nat} (h:bytesOf? P t = some n):∃ i,P.info? t = some i ∧ i.bytes = n:=by
 unfold bytesOf? at h
 cases hi:P.info? t with
 | none => simp [hi] at h
 | some i => simp [hi] at h; exact ⟨i,rfl,h⟩
theorem ziq {t:TypeId} {z:List AV} {s n:Nat} (hz:zaY P t = some z) (hzl:z.length = s) (hs:0 < s) :
  ∃ zv,(zeroValue t).run P w = .ok zv w ∧ RepL κ ρ (zb9 z n) ((Array.range (n * s)).map (zv.cells[· % zv.cells.size]!)):=by
 obtain ⟨zv,hzv,hzr⟩:=zei (w:=w) (κ:=κ) (ρ:=ρ) hz
 refine ⟨zv,hzv,by simp [zbs,hzl],fun i hi => ?_⟩
 rw [zbs] at hi
 rw [zcV z (by omega) n i hi]
 have h1:=hzr.2 (i % z.length) (Nat.mod_lt _ (by omega))
 have h3:i < n * s:=by rw [← hzl]; exact hi
 have h2:((Array.range (n * s)).map (zv.cells[· % zv.cells.size]!)).getD i Go.undef = zv.cells.getD (i % z.length) Go.undef:=by
  have hlt:i % z.length < zv.cells.size:=by rw [hzr.1]; exact Nat.mod_lt _ (by omega)
  simp [Array.getD,h3,hzr.1,getElem!_pos,Nat.mod_lt,show 0 < z.length by omega]
 rw [h2]
 exact h1
theorem zjL {o:Oper} {t:TypeId} {l c:Operand} {K:St → Prop} (h:Rel X w0 m0 κ ρ τ st a w) (ho:o.op = .makeSlice t l c) (hK:ze2 P o K st) :
  zsO P X w0 m0 κ ρ τ st a w o K:=by
 unfold ze2 at hK
 rw [ho] at hK
 dsimp only at hK
 split at hK
 ·rename_i e s n c' hsl hl hc
  split at hK
  ·rename_i by_ z hby hz
   obtain ⟨hd,hzl,hs0,rfl,hn0,hnb,hnm,hk⟩:=hK
   obtain ⟨hu,hs⟩:=zcn hsl
   obtain ⟨i,hi,hib⟩:=bytesOf?_spec hby
   have el:=h.ev l
   have ec:=h.ev c
   rw [hl] at el
   rw [hc] at ec
   obtain ⟨zv,hzv,hrow⟩:=ziq (w:=w) (κ:=κ) (ρ:=ρ) (n:=c'.toNat) hz hzl hs0
   obtain ⟨h1,h2⟩:=h.push (T:=e) (d:=o.dst) (v:=.arr st.mem.length 0 c'.toNat s) (x:=.slice (some ⟨w.heap.size,0,none⟩) c'.toNat c'.toNat) hd hrow
    (fun i hi' => by
     rw [zbs] at hi'
     rw [zcV z (by omega) _ i hi']
     exact zfX (zh7 hz _)) (.arr _ _ _ _ _ _ (by simp [zc6]) (czf _)) rfl
   refine ⟨.value (.slice (some ⟨w.heap.size,0,none⟩) c'.toNat c'.toNat),_,_,κ,_,τ,_,?_,.inl rfl,h1,h2,hk⟩
   have hw:IntKind.i64.wrap c' = c':=IntWalk.i64_in _ ⟨by omega,by omega⟩
   have htl:¬ ((decide (c' < 0) || decide ((i.bytes:Int) * c' > 2 ^ 48)) = true):=by
    simp only [czI,decide_eq_true_eq]
    rw [hib,Int.mul_comm]
    omega
   simp only [execOp,ho,Instr.makeSlice,el.int_inv,ec.int_inv,Sem.run_bind,run_underlying hu,Result.andThen_ok,asInt,asIntOf,Sem.run_pure,run_typeInfo w hi,hw]
   have hcond:¬ ((((decide (c' < 0) || decide ((i.bytes:Int) * c' > 2 ^ 48)) || decide (c' < 0)) || decide (c' > c')) = true):=by
    simp only [czI,decide_eq_true_eq] at htl ⊢
    omega
   rw [if_neg hcond]
   simp only [Sem.run_bind,run_askRoom,Result.andThen_ok,zbw hs]
   by_cases h0:c'.toNat * s = 0
   ·simp [h0,newRow,show Array.range 0 = #[] from rfl]
   ·simp [h0,hzv,newRow]
  ·exact hK.elim
 ·exact hK.elim
theorem zlB {X:Nat → Prop} {mem:List AObj} {l b:Nat} {cs cs':List AV} {vs vs':Array Value} {T:TypeId} (h:RelM κ ρ τ X mem w) (hl:zaa mem l = .cells cs) (hb:ρ l = some b)
  (hh:w.heap[b]? = some (.cells vs T (0,0))) (hR:RepL κ ρ cs' vs')
  (ht:∀ i,i < cs'.length → TokOK τ mem (cs'.getD i .undef) (vs'.getD i Go.undef)) :
  RelM κ ρ τ X (mem.set l (.cells cs')) (w.setRow b vs'):=by
 have hlt:l < mem.length:=zbX hl (by simp)
 have hnew:=setRow_heap w b vs vs' T (0,0) hh
 have ho:=h.obj l
 rw [hl] at ho
 obtain ⟨b',_,_,g1,g2,g3,g4,_,_⟩:=ho
 obtain rfl:b = b':=by rw [hb] at g1; exact czK g1
 have hblk:∀ i,blk ρ τ i (zaa (mem.set l (.cells cs')) i) = blk ρ τ i (zaa mem i):=fun i => by
  rw [zaD _ _ _ _ hlt]
  split
  ·rename_i e; subst e; rw [hl]; rfl
  ·rfl
 have hoth:∀ i b',i ≠ l → blk ρ τ i (zaa mem i) = some b' → b' ≠ b:=fun i b' hi hb' e => by
  subst e
  exact hi (h.inj i l b' hb' (by rw [hl]; exact hb))
 have htok:∀ v x,TokOK τ mem v x → TokOK τ (mem.set l (.cells cs')) v x:=fun v x hv => hv.move (TStep.set _ _ _ hlt ⟨fun n sz => by rw [hl]; simp,fun es sz s => by rw [hl]; simp⟩)
 refine ⟨fun i => ?_,fun i i' b' hi hi' => h.inj i i' b' (by rw [← hblk]; exact hi) (by rw [← hblk]; exact hi'),⟨fun b' o v hk => ?_,fun b' es hk => ?_⟩,fun i hi => h.dom i (by simpa using hi),?_⟩
 ·rw [zaD _ _ _ _ hlt]
  split
  ·rename_i e
   subst e
   exact ⟨b,vs',T,hb,g2,g3,hnew,hR.1,hR.2⟩
  ·rename_i e
   exact RelObj.mono (h.obj i) (Kn.le_refl _) (Lc.le_refl _) ⟨fun _ _ _ => rfl,fun _ _ _ _ => rfl⟩ (fun b' hb' => setRow_other _ _ _ _ (hoth i b' e hb')) (fun _ _ => ⟨fun _ => rfl,rfl⟩)
 ·have hne:b' ≠ b:=fun e => by subst e; rw [g3 o] at hk; cases hk
  rw [cell_setRow_other w b vs' ⟨b',o,none⟩ hne]
  exact h.know.c _ _ _ hk
 ·have h1:=h.know.m _ _ hk
  have hne:b' ≠ b:=fun e => by rw [e,hh] at h1; cases h1
  rw [setRow_other _ _ _ _ hne]
  exact h1
 ·intro i cs0 b' us T' hi hb' hh' j hj
  rw [zaD _ _ _ _ hlt] at hi
  split at hi
  ·rename_i e
   subst e
   cases hi
   obtain rfl:b = b':=by rw [hb] at hb'; exact czK hb'
   rw [hnew] at hh'
   cases hh'
   exact htok _ _ (ht j hj)
  ·rename_i e
   rw [setRow_other _ _ _ _ (hoth i b' e (by rw [hi]; exact hb'))] at hh'
   exact htok _ _ (h.toks i cs0 b' us T' hi hb' hh' j hj)
theorem Frm.setRow {w0:World} (h:Frm X w0 w) {b:Nat} (hb:¬ X b) (vs:Array Value):Frm X w0 (w.setRow b vs) :=
 ⟨h.os,h.tape,h.output,by simpa using h.size,fun b' hb' => by rw [setRow_other _ _ _ _ (fun e => by subst e; exact hb hb')]; exact h.block b' hb'⟩
theorem Ext.setCells {m:Nat} {mem:List AObj} {l:Nat} {cs cs':List AV} (hl:zaa mem l = .cells cs):Ext m κ ρ τ mem κ ρ τ (mem.set l (.cells cs')) :=
 ⟨Kn.le_refl _,fun _ _ _ h => h,TStep.set _ _ _ (zbX hl (by simp)) ⟨fun n sz => by rw [hl]; simp,fun es sz s => by rw [hl]; simp⟩⟩
theorem Rel.setCells (h:Rel X w0 m0 κ ρ τ st a w) {l b:Nat} {cs cs':List AV} {vs vs':Array Value} {T:TypeId} (hl:zaa st.mem l = .cells cs) (hb:ρ l = some b)
  (hh:w.heap[b]? = some (.cells vs T (0,0))) (hR:RepL κ ρ cs' vs')
  (ht:∀ i,i < cs'.length → TokOK τ st.mem (cs'.getD i .undef) (vs'.getD i Go.undef)) :
  Rel X w0 m0 κ ρ τ { st with mem:=st.mem.set l (.cells cs') } a (w.setRow b vs') ∧ Ext m0 κ ρ τ st.mem κ ρ τ (st.mem.set l (.cells cs')):=by
 have hlt:l < st.mem.length:=zbX hl (by simp)
 have ho:=h.mem.obj l
 rw [hl] at ho
 obtain ⟨b',_,_,g1,g2,_⟩:=ho
 obtain rfl:b = b':=by rw [hb] at g1; exact czK g1
 refine ⟨⟨h.defers,h.size,h.tm,fun i => ?_,zlB h.mem hl hb hh hR ht,h.frm.setRow g2 vs',h.xlt,by simpa using h.prot,h.prm,h.kx⟩,Ext.setCells hl⟩
 exact (h.tk i).move (TStep.set _ _ _ hlt ⟨fun n sz => by rw [hl]; simp,fun es sz s => by rw [hl]; simp⟩)
theorem ztq {c:AV} (h:c.one = true) (ds:List AV):c.un ≠ .agg ds:=by
 cases c <;> simp_all [AV.one,AV.un]
theorem mem_getL {cs:List AV} {i:Nat} (h:i < cs.length):cs.getD i .undef ∈ cs:=by simp [List.getD,h]
theorem zqq {cs:List AV} {x:Value} {mem:List AObj} (hr:Rep κ ρ (.agg cs) x) (hone:∀ c ∈ (AV.agg cs).cells',c.one = true) (ht:TokOK τ mem (.agg cs) x):∀ i,TokOK τ mem ((AV.agg cs).cells'.getD i .undef) (x.cells.getD i Go.undef):=by
 intro i
 obtain ⟨vs,rfl,h1,h2⟩:=hr.agg_inv
 by_cases hi:i < cs.length
 ·have hm:(cs.map AV.soft).getD i .undef ∈ cs.map AV.soft:=mem_getL (by simpa using hi)
  have ho:=hone _ hm
  simp only [AV.cells',zew,Value.cells] at ho ⊢
  exact (ht.agg _ _ rfl trivial rfl i hi).soft.full (ztq ho)
 ·simp only [AV.cells',zew]
  have:cs.getD i .undef = .undef:=by simp [List.getD,czB (czE hi)]
  rw [this]
  exact zaO rfl
theorem zub {v:AV} {x:Value} {mem:List AObj} (hv:∀ cs,v ≠ .agg cs) (ht:TokOK τ mem v x):∀ i,TokOK τ mem (v.cells'.getD i .undef) (x.cells.getD i Go.undef) ∨ x.cells ≠ #[x]:=by
 intro i
 cases v with
 | agg cs => exact absurd rfl (hv cs)
 | _ =>
  by_cases hx:x.cells = #[x]
  ·left
   rw [hx]
   cases i with
   | zero => simpa [AV.cells'] using ht
   | succ i => simp only [AV.cells',List.getD,czS,List.getElem?_nil,Option.getD_none]; exact zaO rfl
  ·right; exact hx
theorem zkG (h:Rel X w0 m0 κ ρ τ st a w) {l b off:Nat} {cs ns:List AV} {arr:Array Value} (hb:ρ l = some b) (hl:zaa st.mem l = .cells cs) (hc:RepL κ ρ ns arr)
  (hone:∀ c ∈ ns,c.one = true) (hfit:off + ns.length ≤ cs.length) (hcell:∀ i,TokOK τ st.mem (ns.getD i .undef) (arr.getD i Go.undef)) :
  ∃ w',(storeCells ⟨b,off,none⟩ arr.toList).run P w = .ok () w' ∧ Rel X w0 m0 κ ρ τ { st with mem:=st.mem.set l (.cells (zan cs off ns)) } a w' ∧
   Ext m0 κ ρ τ st.mem κ ρ τ (st.mem.set l (.cells (zan cs off ns))):=by
 have ho':=h.mem.obj l
 rw [hl] at ho'
 obtain ⟨b',vs,T,g1,g2,g3,g4,g5,g6⟩:=ho'
 obtain rfl:b = b':=by rw [hb] at g1; exact czK g1
 have hsz:arr.size = ns.length:=hc.1
 have hones:∀ v ∈ arr.toList,v.oneCell' = true:=by
  intro u hv
  obtain ⟨i,hi,rfl⟩:=List.mem_iff_getElem.1 hv
  simp at hi
  have h1:=hc.2 i (by rw [← hc.1]; exact hi)
  have h2:arr.toList[i] = arr.getD i Go.undef:=by simp [Array.getD,hi]
  rw [h2]
  refine h1.one (hone _ ?_)
  have:i < ns.length:=by rw [← hc.1]; exact hi
  simp [List.getD,this]
 have hrun:=run_storeCells_at (P:=P) b off T arr.toList 0 vs w g4 (by simp; omega) hones
 simp only [Nat.add_zero] at hrun
 let vs':Array Value:=(vs.toList.take off ++ arr.toList ++ vs.toList.drop (off + arr.toList.length)).toArray
 have hvl:vs.toList.length = cs.length:=by simpa using g5
 have hg:∀ i,vs'.getD i Go.undef = if off ≤ i ∧ i < off + ns.length then arr.getD (i - off) Go.undef else vs.getD i Go.undef:=by
  intro i
  simp only [vs',czo,List.getElem?_toArray,czd]
  by_cases h1:i < off
  ·rw [czi (by simp; omega),if_neg (by omega),czR]
   simp [h1]
  ·rw [czj (by simp; omega)]
   simp only [czO,Nat.min_eq_left (show off ≤ vs.toList.length by omega)]
   by_cases h2:i < off + ns.length
   ·rw [czi (by simp; omega),if_pos (by omega)]
    simp
   ·rw [czj (by simp; omega),if_neg (by omega),czQ]
    simp only [Array.length_toList,Array.getElem?_toList]
    congr 2
    omega
 have hov:RepL κ ρ (zan cs off ns) vs':=by
  refine ⟨by simp [vs',zan,hc.1]; omega,fun i hi => ?_⟩
  rw [zcS _ _ _ (by omega)] at hi
  rw [hg i,zgf _ _ _ _ (by omega)]
  split
  ·exact hc.2 _ (by omega)
  ·exact g6 i hi
 obtain ⟨h1,h2⟩:=h.setCells hl hb g4 hov (fun i hi => by
  rw [zcS _ _ _ (by omega)] at hi
  rw [hg i,zgf _ _ _ _ (by omega)]
  split
  ·exact hcell _
  ·exact h.mem.toks l cs b vs T hl hb g4 i hi)
 refine ⟨_,?_,h1,h2⟩
 rw [hrun]
theorem zkL (h:Rel X w0 m0 κ ρ τ st a w) {t:TypeId} {l off n:Nat} {cs:List AV} {v:AV} {yv zv:Value} (hs:zcx P t = some n) (ry:Rep κ ρ (.ptr l off) yv)
  (hl:zaa st.mem l = .cells cs) (hz:Rep κ ρ v zv) (hzt:TokOK τ st.mem v zv) (hsol:v.solid = true) (hlen:v.cells'.length = n) (hfit:off + n ≤ cs.length)
  (hone:∀ c ∈ v.cells',c.one = true) :
  ∃ w',(Instr.storeAt t yv zv).run P w = .ok () w' ∧ Rel X w0 m0 κ ρ τ { st with mem:=st.mem.set l (.cells (zan cs off v.cells')) } a w' ∧
   Ext m0 κ ρ τ st.mem κ ρ τ (st.mem.set l (.cells (zan cs off v.cells'))):=by
 obtain ⟨b,hb,hyv⟩:=ry.ptr_inv
 have hc:=zgJ hz hsol
 have hsz:zv.cells.size = n:=by rw [hc.1,hlen]
 have hcell:∀ i,TokOK τ st.mem (v.cells'.getD i .undef) (zv.cells.getD i Go.undef):=by
  intro i
  by_cases hagg:∃ cs0,v = .agg cs0
  ·obtain ⟨cs0,rfl⟩:=hagg
   exact zqq hz hone hzt i
  rcases zub (fun cs e => hagg ⟨cs,e⟩) hzt i with q | q
  ·exact q
  ·cases v with
   | agg cs0 => exact absurd ⟨cs0,rfl⟩ hagg
   | sl es tk =>
    exfalso
    apply q
    cases hz <;> simp [Value.cells]
   | vec l s off len sz =>
    exfalso
    apply q
    cases hz; simp [Value.cells]
   | vp l s i off =>
    exfalso
    apply q
    cases hz; simp [Value.cells]
   | _ =>
    cases i with
    | zero => first | exact zaO rfl | simp [AV.solid,AV.one] at hsol
    | succ i => exact zaO rfl
 obtain ⟨w',r1,r2,r3⟩:=zkG (P:=P) (off:=off) h hb hl hc hone (by omega) hcell
 refine ⟨w',?_,r2,r3⟩
 have hsz':¬ (zv.cells.size ≠ n):=by omega
 simp only [Instr.storeAt,hyv,Instr.sureAddr,storeVar,Sem.run_bind,Sem.run_pure,Result.andThen_ok,zbw hs,hsz',if_false,r1]
/-! Objects with elements. -/
theorem TStep.setVec (m:Nat) (τ:Tc) {mem:List AObj} {l:Nat} {es es':List (List AV)} {sz s:Nat} (hl:zaa mem l = .vec es sz s) (he:es'.length = es.length):TStep m τ mem τ (mem.set l (.vec es' sz s)):=by
 have hlt:l < mem.length:=zbX hl (by simp)
 refine ⟨fun i n sz' _ hm => ⟨n,by rw [zaD _ _ _ _ hlt,if_neg (fun e => by rw [e,hl] at hm; cases hm)]; exact hm,czf _,fun _ => rfl⟩,fun i es0 sz0 s0 _ hm => ?_⟩
 by_cases e:i = l
 ·subst e
  rw [hl] at hm
  cases hm
  exact ⟨es',s,by rw [zaD _ _ _ _ hlt,if_pos rfl],czf _,fun _ => ⟨he,rfl⟩⟩
 ·exact ⟨es0,s0,by rw [zaD _ _ _ _ hlt,if_neg e]; exact hm,czf _,fun _ => ⟨rfl,rfl⟩⟩
theorem RelM.setVec {mem:List AObj} (h:RelM κ ρ τ X mem w) {l b c sz s:Nat} {es es':List (List AV)} {vs vs':Array Value} {T:TypeId} (hl:zaa mem l = .vec es sz s) (hτ:τ l = some (b,c))
  (hh:w.heap[b]? = some (.cells vs T (0,0))) (hsz:vs'.size = vs.size) (he:es'.length = es.length) (he2:∀ i,i < es'.length → (es'.getD i []).length = sz)
  (hR:∀ i j,i < es'.length → j < sz → Rep κ ρ ((es'.getD i []).getD j .undef) (vs'.getD (i * sz + j) Go.undef)) :
  RelM κ ρ τ X (mem.set l (.vec es' sz s)) (w.setRow b vs') ∧ ¬ X b:=by
 have hlt:l < mem.length:=zbX hl (by simp)
 have hnew:=setRow_heap w b vs vs' T (0,0) hh
 have ho:=h.obj l
 rw [hl] at ho
 obtain ⟨_,ho⟩:=ho
 rcases ho with ⟨ho,_⟩ | ⟨b',c',vs0,T0,g1,g2,g3,g4,g5,g6,_⟩
 ·rw [hτ] at ho; cases ho
 rw [hτ] at g1
 cases g1
 rw [hh] at g4
 cases g4
 have hblk:∀ i,blk ρ τ i (zaa (mem.set l (.vec es' sz s)) i) = blk ρ τ i (zaa mem i):=fun i => by
  rw [zaD _ _ _ _ hlt]
  split
  ·rename_i e; subst e; rw [hl]; rfl
  ·rfl
 have hoth:∀ i b',i ≠ l → blk ρ τ i (zaa mem i) = some b' → b' ≠ b:=fun i b' hi hb' e => by
  subst e
  exact hi (h.inj i l b' hb' (by rw [hl]; simp [blk,hτ]))
 have htok:∀ v x,TokOK τ mem v x → TokOK τ (mem.set l (.vec es' sz s)) v x:=fun v x hv => hv.move (TStep.setVec _ _ hl he)
 refine ⟨⟨fun i => ?_,fun i i' b' hi hi' => h.inj i i' b' (by rw [← hblk]; exact hi) (by rw [← hblk]; exact hi'),⟨fun b' o v hk => ?_,fun b' es hk => ?_⟩,fun i hi => h.dom i (by simpa using hi),?_⟩,g2⟩
 ·rw [zaD _ _ _ _ hlt]
  split
  ·rename_i e
   subst e
   exact ⟨he2,.inr ⟨b,c,vs',T,hτ,g2,g3,hnew,by omega,by rw [he]; exact g6,hR⟩⟩
  ·rename_i e
   exact RelObj.mono (h.obj i) (Kn.le_refl _) (Lc.le_refl _) ⟨fun _ _ _ => rfl,fun _ _ _ _ => rfl⟩ (fun b' hb' => setRow_other _ _ _ _ (hoth i b' e hb')) (fun _ _ => ⟨fun _ => rfl,rfl⟩)
 ·have hne:b' ≠ b:=fun e => by subst e; rw [g3 o] at hk; cases hk
  rw [cell_setRow_other w b vs' ⟨b',o,none⟩ hne]
  exact h.know.c _ _ _ hk
 ·have h1:=h.know.m _ _ hk
  have hne:b' ≠ b:=fun e => by rw [e,hh] at h1; cases h1
  rw [setRow_other _ _ _ _ hne]
  exact h1
 ·intro i cs0 b' us T' hi hb' hh' j hj
  rw [zaD _ _ _ _ hlt] at hi
  split at hi
  ·cases hi
  ·rename_i e
   rw [setRow_other _ _ _ _ (hoth i b' e (by rw [hi]; exact hb'))] at hh'
   exact htok _ _ (h.toks i cs0 b' us T' hi hb' hh' j hj)
theorem Rel.setVec (h:Rel X w0 m0 κ ρ τ st a w) {l b c sz s:Nat} {es es':List (List AV)} {vs vs':Array Value} {T:TypeId} (hl:zaa st.mem l = .vec es sz s) (hτ:τ l = some (b,c))
  (hh:w.heap[b]? = some (.cells vs T (0,0))) (hsz:vs'.size = vs.size) (he:es'.length = es.length) (he2:∀ i,i < es'.length → (es'.getD i []).length = sz)
  (hR:∀ i j,i < es'.length → j < sz → Rep κ ρ ((es'.getD i []).getD j .undef) (vs'.getD (i * sz + j) Go.undef)) :
  Rel X w0 m0 κ ρ τ { st with mem:=st.mem.set l (.vec es' sz s) } a (w.setRow b vs') ∧ Ext m0 κ ρ τ st.mem κ ρ τ (st.mem.set l (.vec es' sz s)):=by
 obtain ⟨h1,h2⟩:=h.mem.setVec hl hτ hh hsz he he2 hR
 exact ⟨⟨h.defers,h.size,h.tm,fun i => (h.tk i).move (TStep.setVec _ _ hl he),h1,h.frm.setRow h2 vs',h.xlt,by simpa using h.prot,h.prm,h.kx⟩,Kn.le_refl _,fun _ _ _ q => q,TStep.setVec _ _ hl he⟩
theorem znt (es:List (List AV)) (i j:Nat) (e:List AV) (hi:i < es.length):(es.set i e).getD j [] = if j = i then e else es.getD j []:=by
 simp only [List.getD,List.getElem?_set]
 by_cases h:j = i
 ·subst h; simp [hi]
 ·rw [if_neg h,if_neg (fun q => h q.symm)]
theorem zjd (h:Rel X w0 m0 κ ρ τ st a w) {t:TypeId} {l s i off n sz:Nat} {es:List (List AV)} {v:AV} {yv zv:Value} (hs:zcx P t = some n) (ry:VpAt τ l i off sz es.length yv)
  (hl:zaa st.mem l = .vec es sz s) (hz:Rep κ ρ v zv) (hsol:v.solid = true) (hlen:v.cells'.length = n) (hfit:off + n ≤ sz) (hone:∀ c ∈ v.cells',c.one = true) :
  ∃ w',(Instr.storeAt t yv zv).run P w = .ok () w' ∧ Rel X w0 m0 κ ρ τ { st with mem:=st.mem.set l (.vec (es.set i (zan (es.getD i []) off (v.cells'.map AV.strip))) sz s) } a w' ∧
   Ext m0 κ ρ τ st.mem κ ρ τ (st.mem.set l (.vec (es.set i (zan (es.getD i []) off (v.cells'.map AV.strip))) sz s)):=by
 obtain ⟨b,c,hτ,hi,hyv⟩:=ry
 have ho:=h.mem.obj l
 rw [hl] at ho
 obtain ⟨e0,ho⟩:=ho
 rcases ho with ⟨ho,_⟩ | ⟨b',c',vs,T,g1,g2,g3,g4,g5,g6,g7⟩
 ·rw [hτ] at ho; cases ho
 rw [hτ] at g1
 cases g1
 have hc:=zgJ hz hsol
 have hasz:zv.cells.size = n:=by rw [hc.1,hlen]
 have hcap:i * sz + sz ≤ c:=by
  have:(i + 1) * sz ≤ es.length * sz:=czq sz hi
  rw [Nat.add_mul] at this; omega
 have hones:∀ v ∈ zv.cells.toList,v.oneCell' = true:=by
  intro u hv
  obtain ⟨j,hj,rfl⟩:=List.mem_iff_getElem.1 hv
  simp at hj
  have h1:=hc.2 j (by rw [← hc.1]; exact hj)
  have h2:zv.cells.toList[j] = zv.cells.getD j Go.undef:=by simp [Array.getD,hj]
  rw [h2]
  refine h1.one (hone _ ?_)
  have:j < v.cells'.length:=by rw [← hc.1]; exact hj
  simp [List.getD,this]
 have hrun:=run_storeCells_at (P:=P) b (i * sz + off) T zv.cells.toList 0 vs w g4 (by simp; omega) hones
 simp only [Nat.add_zero] at hrun
 let vs':Array Value:=(vs.toList.take (i * sz + off) ++ zv.cells.toList ++ vs.toList.drop (i * sz + off + zv.cells.toList.length)).toArray
 have hg:∀ k,vs'.getD k Go.undef = if i * sz + off ≤ k ∧ k < i * sz + off + n then zv.cells.getD (k - (i * sz + off)) Go.undef else vs.getD k Go.undef:=by
  intro k
  simp only [vs',czo,List.getElem?_toArray,czd]
  by_cases h1:k < i * sz + off
  ·rw [czi (by simp; omega),if_neg (by omega),czR]
   simp [h1]
  ·rw [czj (by simp; omega)]
   simp only [czO,Nat.min_eq_left (show i * sz + off ≤ vs.toList.length by simp; omega)]
   by_cases h2:k < i * sz + off + n
   ·rw [czi (by simp; omega),if_pos (by omega)]
    simp
   ·rw [czj (by simp; omega),if_neg (by omega),czQ]
    simp only [Array.length_toList,Array.getElem?_toList]
    congr 2
    omega
 have hvs':vs'.size = vs.size:=by simp [vs']; omega
 have hlm:(v.cells'.map AV.strip).length = n:=by simp [hlen]
 have hei:=e0 i hi
 obtain ⟨r1,r2⟩:=h.setVec (es':=es.set i (zan (es.getD i []) off (v.cells'.map AV.strip))) hl hτ g4 hvs' (by simp) (fun j hj => by
   simp at hj
   rw [znt _ _ _ _ hi]
   split
   ·rw [zcS _ _ _ (by omega)]; exact hei
   ·exact e0 j hj) (fun j k hj hk => by
   simp at hj
   rw [znt _ _ _ _ hi,hg]
   by_cases e:j = i
   ·subst e
    rw [if_pos rfl,zgf _ _ _ _ (by omega),hlm]
    by_cases q:off ≤ k ∧ k < off + n
    ·rw [if_pos q,if_pos (by omega),zcB,show j * sz + k - (j * sz + off) = k - off by omega]
     exact (hc.2 _ (by omega)).strip
    ·rw [if_neg q,if_neg (by omega)]
     exact g7 j k hj hk
   ·rw [if_neg e]
    have hne:¬ (i * sz + off ≤ j * sz + k ∧ j * sz + k < i * sz + off + n):=by
     rcases Nat.lt_or_gt_of_ne e with q | q
     ·have:(j + 1) * sz ≤ i * sz:=czq sz q
      rw [Nat.add_mul] at this; omega
     ·have:(i + 1) * sz ≤ j * sz:=czq sz q
      rw [Nat.add_mul] at this; omega
    rw [if_neg hne]
    exact g7 j k hj hk)
 refine ⟨_,?_,r1,r2⟩
 have hsz':¬ (zv.cells.size ≠ n):=by omega
 simp only [Instr.storeAt,hyv,Instr.sureAddr,storeVar,Sem.run_bind,Sem.run_pure,Result.andThen_ok,zbw hs,hsz',if_false,hrun]
 rfl
theorem zo9 {o:Oper} {t:TypeId} {y z:Operand} {K:St → Prop} (h:Rel X w0 m0 κ ρ τ st a w) (ho:o.op = .store t y z) (hK:ze2 P o K st) :
  zsO P X w0 m0 κ ρ τ st a w o K:=by
 unfold ze2 at hK
 rw [ho] at hK
 dsimp only at hK
 split at hK
 ·rename_i l off n hy hs
  split at hK
  ·rename_i cs hl
   obtain ⟨hav,hdst,hsol,hlen,hfit,hone,hk⟩:=hK
   have ry:=(h.ev y).un hav
   rw [hy] at ry
   obtain ⟨w',r1,r2,r3⟩:=zkL h hs ry hl (h.ev z) (h.evTok z) hsol hlen hfit hone
   exact ⟨.skip,Go.undef,w',κ,ρ,τ,{ st with mem:=st.mem.set l (.cells (zan cs off (evT st.tm z).cells')) },by simp [execOp,ho,r1],.inr ⟨rfl,rfl⟩,by rw [hdst]; exact r2,r3,hk⟩
  ·exact hK.elim
 ·rename_i l s i off n hy hs
  split at hK
  ·rename_i es sz s' hl
   obtain ⟨⟨hav,rfl,hi⟩,hdst,hsol,hlen,hfit,hone,hk⟩:=hK
   have ry:=(h.evTok y).un hav
   rw [hy] at ry
   obtain ⟨es',sz',s'',k1,_,k3⟩:=ry.vp l s i off rfl trivial
   rw [hl] at k1
   cases k1
   obtain ⟨w',r1,r2,r3⟩:=zjd h hs (k3 rfl) hl (h.ev z) hsol hlen hfit hone
   exact ⟨.skip,Go.undef,w',κ,ρ,τ,{ st with mem:=st.mem.set l (.vec (es.set i (zan (es.getD i []) off ((evT st.tm z).cells'.map AV.strip))) sz s) },by simp [execOp,ho,r1],.inr ⟨rfl,rfl⟩,by rw [hdst]; exact r2,r3,hk⟩
  ·exact hK.elim
 ·exact hK.elim
/-! Maps. -/
theorem zlR {o:Oper} {t:TypeId} {K:St → Prop} (h:Rel X w0 m0 κ ρ τ st a w) (ho:o.op = .makeMap t none) (hK:ze2 P o K st) :
  zsO P X w0 m0 κ ρ τ st a w o K:=by
 unfold ze2 at hK
 rw [ho] at hK
 obtain ⟨hd,hk⟩:=hK
 obtain ⟨h1,h2⟩:=h.pushO (o:=.map [] []) (ob:=.map #[] 0) (d:=o.dst) (v:=.mp st.mem.length) (x:=.map (some w.heap.size)) hd (by simp)
  (fun _ hX => ⟨w.heap.size,#[],by simp [zc6],hX,Kn.fresh_m h.mem.know,zbS _ _,rfl,rfl,fun i hi => by simp at hi,fun i hi => by simp at hi⟩)
  (fun _ _ _ e => by cases e) (.mp _ _ (by simp [zc6])) rfl
 refine ⟨.value (.map (some w.heap.size)),_,_,κ,_,τ,_,?_,.inl rfl,h1,h2,hk⟩
 simp [execOp,ho,Instr.makeMap,newObj,Sem.run]
theorem RelM.map_at {mem:List AObj} (h:RelM κ ρ τ X mem w) {l:Nat} {ks:List (List Int)} {vs:List AV} (hl:zaa mem l = .map ks vs) :
  ∃ b es,ρ l = some b ∧ ¬ X b ∧ κ.m b = none ∧ (∀ off,κ b off = none) ∧ w.heap[b]? = some (.map es es.size) ∧ RepMap κ ρ ks vs es:=by
 have ho:=h.obj l
 rw [hl] at ho
 obtain ⟨b,es,h1,h2,h3,h4,h5⟩:=ho
 refine ⟨b,es,h1,h2,h3,fun off => ?_,h4,h5⟩
 cases hk:κ b off with
 | none => rfl
 | some v =>
  have:=h.know.c _ _ _ hk
  unfold World.cell? at this
  rw [h4] at this
  cases this
theorem zdI {w:World} {b:Nat} {o o':Obj} (h:w.heap[b]? = some o):({ w with heap:=w.heap.setIfInBounds b o' }:World).heap[b]? = some o':=by
 have:=zdZ h
 show (w.heap.setIfInBounds b o')[b]? = _
 simp [this]
theorem zhC (h:Rel X w0 m0 κ ρ τ st a w) {t kt e:TypeId} {l:Nat} {ks:List (List Int)} {vs cs:List AV} {v:AV} {mv kv zv:Value} {k:List Int}
  (ht:mapOf? P t = some (kt,e)) (rm:Rep κ ρ (.mp l) mv) (hl:zaa st.mem l = .map ks vs) (rk:Rep κ ρ (.agg cs) kv) (hcs:zac cs = some k) (hz:Rep κ ρ v zv)
  (hK:zq6 P kt k.length) (hlen:∀ b ∈ ks,b.length = k.length) :
  ∃ w',(Instr.mapUpdate t mv kv zv).run P w = .ok () w' ∧ Rel X w0 m0 κ ρ τ { st with mem:=st.mem.set l (zaq ks vs k v.strip) } a w' ∧
   Ext m0 κ ρ τ st.mem κ ρ τ (st.mem.set l (zaq ks vs k v.strip)):=by
 have hlt:l < st.mem.length:=zbX hl (by simp)
 obtain ⟨b,es,h1,h2,h3,h3',h4,hR⟩:=h.mem.map_at hl
 obtain ⟨b',hb',rfl⟩:=rm.mp_inv
 obtain rfl:b = b':=by rw [h1] at hb'; exact czK hb'
 obtain rfl:=keyV_of rk hcs
 have hold:blk ρ τ l (zaa st.mem l) = some b:=by rw [hl]; exact h1
 have hf:=hK.find w k es.toList rfl (hR.lens hlen)
 rw [hR.find] at hf
 have hwlt:=zdZ h4
 cases hki:zad ks k with
 | none =>
  rw [hki] at hf
  simp only [Option.map_none] at hf
  have hput:zaq ks vs k v.strip = .map (ks ++ [k]) (vs ++ [v.strip]):=by unfold zaq; rw [hki]
  rw [hput]
  obtain ⟨g1,g2⟩:=h.setO (l:=l) (b:=b) (ob:=.map (ks ++ [k]) (vs ++ [v.strip])) (o:=.map (es.push { key:=zfR k,val:=zv,born:=es.size }) (es.size + 1)) hlt hold h1
   (by rw [hl]; simp) (by simp) h3 h3' h2
   ⟨b,es.push { key:=zfR k,val:=zv,born:=es.size },h1,h2,h3,by rw [Array.size_push]; exact zdI h4,by simp [hR.1],by simp [hR.2.1],fun i hi => by
    simp at hi
    by_cases e:i < ks.length
    ·have:=hR.2.2.1 i e
     have e1:(es.push { key:=zfR k,val:=zv,born:=es.size }).getD i default = es.getD i default:=by
      have hs:=hR.2.1
      have h5:i < es.size:=by omega
      simp only [Array.getD,Array.size_push,show i < es.size + 1 by omega,h5,dite_true]
      simp [Array.getElem_push,h5]
     have e2:(ks ++ [k]).getD i [] = ks.getD i []:=by simp only [List.getD]; rw [czi e]
     rw [e1,e2]
     exact this
    ·have hs:=hR.2.1
     obtain rfl:i = ks.length:=by omega
     have e1:(es.push { key:=zfR k,val:=zv,born:=es.size }).getD ks.length default = { key:=zfR k,val:=zv,born:=es.size }:=by
      simp [Array.getD,← hs]
     have e2:(ks ++ [k]).getD ks.length [] = k:=by simp [List.getD]
     rw [e1,e2]
     exact ⟨rfl,hs⟩,fun i hi => by
    simp at hi
    by_cases e:i < ks.length
    ·have:=hR.2.2.2 i e
     have hv:=hR.1
     have e1:(es.push { key:=zfR k,val:=zv,born:=es.size }).getD i default = es.getD i default:=by
      have hs:=hR.2.1
      have h5:i < es.size:=by omega
      simp only [Array.getD,Array.size_push,show i < es.size + 1 by omega,h5,dite_true]
      simp [Array.getElem_push,h5]
     have e2:(vs ++ [v.strip]).getD i .undef = vs.getD i .undef:=by simp only [List.getD]; rw [czi (by omega)]
     rw [e1,e2]
     exact this
    ·have hs:=hR.2.1
     have hv:=hR.1
     obtain rfl:i = ks.length:=by omega
     have e1:(es.push { key:=zfR k,val:=zv,born:=es.size }).getD ks.length default = { key:=zfR k,val:=zv,born:=es.size }:=by
      simp [Array.getD,← hs]
     have e2:(vs ++ [v.strip]).getD ks.length .undef = v.strip:=by simp [List.getD,← hv]
     rw [e1,e2]
     exact hz.strip⟩
  refine ⟨_,?_,g1,g2⟩
  simp only [Instr.mapUpdate,Sem.run_bind,run_underlying (mapOf?_eq ht),Result.andThen_ok,getObj,Sem.run,h4,Sem.run_pure,hK.check w _ k rfl,hf]
  simp [setObj,Sem.run,h4]
 | some i =>
  rw [hki] at hf
  simp only [Option.map_some] at hf
  have hi:=znj hki
  have hs:=hR.2.1
  have hv:=hR.1
  have hie:i < es.size:=by omega
  have hput:zaq ks vs k v.strip = .map ks (vs.set i v.strip):=by unfold zaq; rw [hki]
  rw [hput]
  have hkey:es[i].key = zfR k:=by
   have h5:=(hR.2.2.1 i hi).1
   have h6:ks.getD i [] = k:=by
    unfold zad at hki
    have:=(List.findIdx?_eq_some_iff_getElem.1 hki).2.1
    simp only [decide_eq_true_eq] at this
    simp [List.getD,hi,this]
   rw [h6] at h5
   simpa [Array.getD,hie] using h5
  have hmod:∀ j,(es.modify i fun e => { e with key:=zfR k,val:=zv }).getD j default = if j = i then { es.getD i default with key:=zfR k,val:=zv } else es.getD j default:=fun j => by
   simp only [czo,Array.getElem?_modify]
   by_cases e:j = i
   ·subst e; simp [hie]
   ·rw [if_neg (fun e' => e e'.symm),if_neg e]
  obtain ⟨g1,g2⟩:=h.setO (l:=l) (b:=b) (ob:=.map ks (vs.set i v.strip)) (o:=.map (es.modify i fun e => { e with key:=zfR k,val:=zv }) es.size) hlt hold h1
   (by rw [hl]; simp) (by simp) h3 h3' h2
   ⟨b,es.modify i fun e => { e with key:=zfR k,val:=zv },h1,h2,h3,by rw [Array.size_modify]; exact zdI h4,by simp [hR.1],by simp [hR.2.1],fun j hj => by
    rw [hmod]
    split
    ·rename_i e
     subst e
     have:=hR.2.2.1 j hj
     refine ⟨?_,by have h7:=this.2; simpa [hie] using h7⟩
     rw [← this.1]
     simp [Array.getD,hie,hkey]
    ·exact hR.2.2.1 j hj,fun j hj => by
    rw [hmod]
    split
    ·rename_i e
     subst e
     have e2:(vs.set j v.strip).getD j .undef = v.strip:=by simp [List.getD,show j < vs.length by omega]
     rw [e2]
     exact hz.strip
    ·rename_i e
     have e2:(vs.set i v.strip).getD j .undef = vs.getD j .undef:=by simp only [List.getD]; rw [List.getElem?_set_ne (fun e' => e e'.symm)]
     rw [e2]
     exact hR.2.2.2 j hj⟩
  refine ⟨_,?_,g1,g2⟩
  have hk0:((es[i]?).map (·.key)).getD (zfR k) = zfR k:=by simp [hie,hkey]
  simp only [Instr.mapUpdate,Sem.run_bind,run_underlying (mapOf?_eq ht),Result.andThen_ok,getObj,Sem.run,h4,Sem.run_pure,hK.check w _ k rfl,hf,hk0,hK.stays w k rfl]
  simp [setObj,Sem.run,h4]
theorem zjJ {o:Oper} {t:TypeId} {m k x:Operand} {K:St → Prop} (h:Rel X w0 m0 κ ρ τ st a w) (ho:o.op = .mapUpdate t m k x) (hK:ze2 P o K st) :
  zsO P X w0 m0 κ ρ τ st a w o K:=by
 unfold ze2 at hK
 rw [ho] at hK
 dsimp only at hK
 split at hK
 ·rename_i l cs kt e hm hk ht
  split at hK
  ·rename_i ks vs key hl hcs
   obtain ⟨ham,hak,hax,hdst,hKey,hlen,hK⟩:=hK
   have rm:=(h.ev m).un ham
   rw [hm] at rm
   have rk:=(h.ev k).un hak
   rw [hk] at rk
   obtain ⟨w',r1,r2,r3⟩:=zhC h ht rm hl rk hcs ((h.ev x).un hax) hKey hlen
   exact ⟨.skip,Go.undef,w',κ,ρ,τ,{ st with mem:=st.mem.set l (zaq ks vs key (evT st.tm x).un.strip) },by simp [execOp,ho,r1],.inr ⟨rfl,rfl⟩,by rw [hdst]; exact r2,r3,hK⟩
  ·exact hK.elim
 ·exact hK.elim
theorem zpz {o:Oper} {t:TypeId} {m:Operand} {K:St → Prop} (h:Rel X w0 m0 κ ρ τ st a w) (ho:o.op = .range t m) (hK:ze2 P o K st) :
  zsO P X w0 m0 κ ρ τ st a w o K:=by
 unfold ze2 at hK
 rw [ho] at hK
 dsimp only at hK
 split at hK
 ·rename_i q ks vs ht hin
  obtain ⟨kt,e⟩:=q
  obtain ⟨hd,ham,hk⟩:=hK
  have rm:=(h.ev m).un ham
  obtain ⟨b,es,hbv,hb,hR⟩:=zfu h.mem rm hin
  rw [hbv] at rm
  obtain ⟨h1,h2⟩:=h.pushO (o:=.iter (evT st.tm m).un ks.length []) (ob:=.mapIter (some b) es.size #[] es.size) (d:=o.dst) (v:=.ptr st.mem.length 0)
   (x:=.pointer (some ⟨w.heap.size,0,none⟩)) hd (by simp)
   (fun hle hX => ⟨w.heap.size,b,by simp [zc6],hX,by rw [hR.2.1]; exact zbS _ _,rm.mono (Kn.le_refl _) hle⟩)
   (fun _ _ _ e => by cases e) (.ptr _ _ _ (by simp [zc6])) rfl
  refine ⟨.value (.pointer (some ⟨w.heap.size,0,none⟩)),_,_,κ,_,τ,_,?_,.inl rfl,h1,h2,hk⟩
  simp [execOp,ho,Instr.range,run_underlying (mapOf?_eq ht),hbv,getObj,newObj,Sem.run,hb]
 ·exact hK.elim
theorem ztt {o:Oper} {it:Operand} {K:St → Prop} (h:Rel X w0 m0 κ ρ τ st a w) (ho:o.op = .next it false) (hK:ze2 P o K st) :
  zsO P X w0 m0 κ ρ τ st a w o K:=by
 unfold ze2 at hK
 rw [ho] at hK
 dsimp only at hK
 split at hK
 ·rename_i l hit
  split at hK
  ·rename_i src n seen hl
   split at hK
   ·rename_i ks vs hin
    obtain ⟨hai,hd,hn,hmore,hdone⟩:=hK
    have ri:=(h.ev it).un hai
    rw [hit] at ri
    obtain ⟨b,hb,hiv⟩:=ri.ptr_inv
    have hob:=h.mem.obj l
    rw [hl] at hob
    obtain ⟨b',mb,g1,g2,g3,g4⟩:=hob
    obtain rfl:b = b':=by rw [hb] at g1; exact czK g1
    obtain ⟨mb',es,e1,hmb,hR⟩:=zfu h.mem g4 hin
    cases e1
    have hs:es.size = n:=by have:=hR.2.1; omega
    have hlt:l < st.mem.length:=zbX hl (by simp)
    have hwlt:=zdZ g3
    have hkc:∀ off,κ b off = none:=fun off => by
     cases hk:κ b off with
     | none => rfl
     | some v =>
      have:=h.mem.know.c _ _ _ hk
      unfold World.cell? at this
      rw [g3] at this
      cases this
    have hkm:κ.m b = none:=by
     cases hk:κ.m b with
     | none => rfl
     | some v =>
      have:=h.mem.know.m _ _ hk
      rw [g3] at this
      cases this
    have hborn:∀ j (hj:j < es.size),es[j].born = j:=fun j hj => by
     have:=(hR.2.2.1 j (by have:=hR.2.1; omega)).2
     simpa [Array.getD,hj] using this
    have hall:(es.all fun e => decide (e.born ≥ n)) = true → es.isEmpty = true:=fun hq => by
     rw [Array.all_eq_true] at hq
     cases he:es.isEmpty with
     | true => rfl
     | false =>
      have h0:0 < es.size:=by simp at he; exact Nat.pos_of_ne_zero (fun e => he (Array.eq_empty_of_size_eq_zero e))
      have:=hq 0 h0
      rw [hborn 0 h0] at this
      simp at this
      omega
    obtain ⟨left,hleft⟩:∃ left,left = es.filter fun e => !seen.toArray.contains e.born:=⟨_,rfl⟩
    have hmem:∀ e ∈ left,∃ j,∃ hj:j < es.size,e = es[j] ∧ j ∉ seen:=by
     intro e he
     rw [hleft] at he
     obtain ⟨h5,h6⟩:=Array.mem_filter.1 he
     obtain ⟨j,hj,rfl⟩:=Array.mem_iff_getElem.1 h5
     refine ⟨j,hj,rfl,?_⟩
     rw [hborn j hj] at h6
     simpa using h6
    have hold:left.filter (fun e => decide (e.born < n)) = left:=by
     rw [Array.filter_eq_self]
     intro e he
     obtain ⟨j,hj,rfl,_⟩:=hmem e he
     rw [hborn j hj]
     simp; omega
    have hnew:left.filter (fun e => decide (e.born ≥ n)) = #[]:=by
     rw [Array.filter_eq_empty_iff]
     intro e he
     obtain ⟨j,hj,rfl,_⟩:=hmem e he
     rw [hborn j hj]
     simp; omega
    obtain ⟨cands,hcands⟩:∃ c:Array (Option MapEntry),c = (if left.isEmpty then #[none] else #[]) ++ left.map some:=⟨_,rfl⟩
    have hcpos:0 < cands.size:=by
     by_cases hle:left.isEmpty = true
     ·simp [hcands,hle]; omega
     ·have:left.size ≠ 0:=fun e => hle (by simpa using e)
      simp [hcands]; omega
    obtain ⟨c,w1,hch,hc,hw1⟩:∃ c w1,(choose (.mapNext cands.size)).run P w = .ok c w1 ∧ c < cands.size ∧ (w1 = w ∨ w1 = { w with drawn:=w.drawn + 1 }):=by
     simp only [run_choose]
     split
     ·exact ⟨0,w,rfl,hcpos,.inl rfl⟩
     ·exact ⟨_,_,rfl,by simp [Question.cut]; exact Nat.mod_lt _ hcpos,.inr rfl⟩
    have hrel1:Rel X w0 m0 κ ρ τ st a w1:=by
     rcases hw1 with rfl | rfl
     ·exact h
     ·exact ⟨h.defers,h.size,h.tm,h.tk,⟨fun l => by
       have:=h.mem.obj l
       revert this
       cases zaa st.mem l <;> exact id,h.mem.inj,⟨h.mem.know.c,h.mem.know.m⟩,h.mem.dom,h.mem.toks⟩,⟨h.frm.os,h.frm.tape,h.frm.output,h.frm.size,h.frm.block⟩,h.xlt,h.prot,h.prm,h.kx⟩
    have hh1:w1.heap = w.heap:=by rcases hw1 with rfl | rfl <;> rfl
    have hcond:(!seen.toArray.isEmpty && !es.isEmpty && es.all fun e => decide (e.born ≥ n)) = false:=by
     cases hq:es.all fun e => decide (e.born ≥ n) with
     | false => simp
     | true => simp [hall hq]
    have hev:a.eval it = .pointer (some ⟨b,0,none⟩):=hiv
    have hcd:(((if left.isEmpty then #[none] else #[]) ++ (left ++ (#[]:Array MapEntry)).map some):Array (Option MapEntry)) = cands:=by simp [hcands]
    by_cases hle:left.isEmpty = true
    ·
     have hle':left = #[]:=by simpa using hle
     have hc1:cands = #[none]:=by rw [hcands,hle']; simp
     have hc0:c = 0:=by rw [hc1] at hc; simpa using hc
     refine ⟨.value (.tuple #[.bool false]),_,w1,κ,ρ,τ,_,?_,.inl rfl,hrel1.putV (d:=o.dst) (v:=.tup [.bool false]) (x:=.tuple #[.bool false]) (Grow.refl hrel1.mem.know) hd
      (.tup _ _ rfl (fun i hi => by
                     obtain rfl:i = 0:=by simpa using hi
                     exact .bool _)) (zaO rfl),Ext.refl _ _ _ _ _,hdone (fun i hi => ?_)⟩
     ·simp only [execOp,ho,Instr.next,hev,Sem.run_bind,getObj,Sem.run,g3,Result.andThen_ok,hmb,hcond,czp,if_false,← hleft,hold,hnew,hcd,hch]
      simp [hc1,hc0]
     ·apply Classical.byContradiction
      intro hni
      have:es[i] ∈ left:=by
       rw [hleft,Array.mem_filter]
       refine ⟨Array.getElem_mem (by omega),?_⟩
       rw [hborn i (by omega)]
       simpa using hni
      rw [hle'] at this
      simp at this
    ·have hc1:cands = left.map some:=by rw [hcands]; simp [hle]
     have hcl:c < left.size:=by rw [hc1] at hc; simpa using hc
     obtain ⟨j,hj,hej,hns⟩:=hmem left[c] (Array.getElem_mem hcl)
     have hcc:cands[c]? = some (some es[j]):=by rw [hc1]; simp [hcl,hej]
     have hjk:j < ks.length:=by have:=hR.2.1; omega
     have hkey:=(hR.2.2.1 j hjk).1
     have hval:=hR.2.2.2 j hjk
     have e2:es.getD j default = es[j]:=by simp [Array.getD,hj]
     rw [e2] at hkey hval
     have hold1:blk ρ τ l (zaa st.mem l) = some b:=by rw [hl]; exact hb
     obtain ⟨k1,k2⟩:=hrel1.setO (l:=l) (b:=b) (ob:=.iter src n (seen ++ [j])) (o:=.mapIter (some mb) n (seen.toArray.push j) n) hlt hold1 hb (by rw [hl]; simp) (by simp) hkm hkc g2
      ⟨b,mb,hb,g2,by rw [show (seen ++ [j]).toArray = seen.toArray.push j by simp]; exact zdI (o:=.mapIter (some mb) n seen.toArray n) (by rw [hh1]; exact g3),g4⟩
     refine ⟨.value (.tuple #[.bool true,es[j].key,es[j].val]),_,_,κ,ρ,τ,_,?_,.inl rfl,k1.putV (d:=o.dst) (v:=.tup [.bool true,keyA (ks.getD j []),(vs.getD j .undef).strip]) (x:=.tuple #[.bool true,es[j].key,es[j].val])
      (Grow.refl k1.mem.know) hd (.tup _ _ rfl (fun i hi => ?_)) (zaO rfl),k2,hmore j (by omega) hns⟩
     ·simp only [execOp,ho,Instr.next,hev,Sem.run_bind,getObj,Sem.run,g3,Result.andThen_ok,hmb,hcond,czp,if_false,← hleft,hold,hnew,hcd,hch,hcc]
      have g3':w1.heap[b]? = some (.mapIter (some mb) n seen.toArray n):=by rw [hh1]; exact g3
      simp [setObj,Sem.run,g3',hborn j hj,hs]
     ·match i,hi with
      | 0,_ => exact .bool _
      | 1,_ => show Rep κ ρ (keyA _) es[j].key; rw [hkey]; exact zi2 _
      | 2,_ => exact hval.strip
   ·exact hK.elim
  ·exact hK.elim
 ·exact hK.elim
end
end Go.Fs
namespace Go.Fs
open Go.RowKit (Below)
section
variable {P:Program} {X:Nat → Prop} {w0:W0} {w w':World} {m0:Nat} {κ κ':Kn} {ρ:Lc} {τ:Tc} {st:St} {a:Act}
def zcm (τ:Tc) (l:Nat) (q:Option (Nat × Nat)):Tc:=fun i => if i = l then q else τ i
theorem Rel.mkTok (h:Rel X w0 m0 κ ρ τ st a w) (n sz:Nat) :
  Rel X w0 m0 κ ρ (zcm τ st.mem.length none) { st with mem:=st.mem ++ [AObj.tok n sz] } a w ∧
  Ext m0 κ ρ τ st.mem κ ρ (zcm τ st.mem.length none) (st.mem ++ [AObj.tok n sz]):=by
 have hst:TStep st.mem.length τ st.mem (zcm τ st.mem.length none) (st.mem ++ [AObj.tok n sz]) :=
  TStep.same (fun l hl => by rw [zdc,if_neg (by omega)]) (fun l hl => by unfold zcm; rw [if_neg (by omega)])
 have htok:∀ v x,TokOK τ st.mem v x → TokOK (zcm τ st.mem.length none) (st.mem ++ [AObj.tok n sz]) v x:=fun v x hv => hv.move hst
 have hblk:∀ l,blk ρ (zcm τ st.mem.length none) l (zaa (st.mem ++ [AObj.tok n sz]) l) = if l = st.mem.length then none else blk ρ τ l (zaa st.mem l):=fun l => by
  rw [zdc]
  split
  ·rename_i e; subst e; simp [blk,zcm]
  ·rename_i e
   cases zaa st.mem l <;> simp [blk,zcm,e]
 refine ⟨⟨h.defers,h.size,h.tm,fun i => htok _ _ (h.tk i),⟨fun l => ?_,fun l l' b hl hl' => ?_,h.mem.know,fun l hl => h.mem.dom l (by simp at hl; omega),?_⟩,h.frm,h.xlt,?_,h.prm,h.kx⟩,
  Kn.le_refl _,fun _ _ _ q => q,hst.le h.prot⟩
 ·rw [zdc]
  split
  ·rename_i e; subst e; exact .inl (by simp [zcm])
  ·rename_i e
   have ho:=h.mem.obj l
   cases hm:zaa st.mem l with
   | tok k s =>
    rw [hm] at ho
    unfold RelObj zcm
    rw [if_neg e]
    exact ho
   | vec es s0 s =>
    rw [hm] at ho
    unfold RelObj zcm
    rw [if_neg e]
    exact ho
   | _ => rw [hm] at ho; exact ho
 ·rw [hblk] at hl hl'
  split at hl <;> split at hl'
  ·cases hl
  ·cases hl
  ·cases hl'
  ·exact h.mem.inj l l' b hl hl'
 ·intro l cs b vs T hl hb hh i hi
  rw [zdc] at hl
  split at hl
  ·cases hl
  ·exact htok _ _ (h.mem.toks l cs b vs T hl hb hh i hi)
 ·show m0 ≤ (st.mem ++ [AObj.tok n sz]).length
  have:=h.prot
  simp; omega
theorem Rel.rehome (h:Rel X w0 m0 κ ρ τ st a w) {l bl c:Nat} {O:AObj} (hlt:l < st.mem.length)
  (hst:TStep st.mem.length τ st.mem (zcm τ l (some (bl,c))) (st.mem.set l O)) (hOb:blk ρ (zcm τ l (some (bl,c))) l O = some bl) (hOc:∀ cs,O ≠ .cells cs)
  (hle:κ.le κ') (hk:zdN κ' w')
  (hN:RelObj κ' ρ (zcm τ l (some (bl,c))) X w' l O) (hheap:∀ b,b ≠ bl → b < w.heap.size → w'.heap[b]? = w.heap[b]?)
  (hκ:∀ b o,b ≠ bl → κ' b o = κ b o) (hκm:∀ b,κ'.m b = κ.m b) (hbl:∀ i b,i ≠ l → blk ρ τ i (zaa st.mem i) = some b → b ≠ bl) (hf:Frm X w0.w w') (hbX:¬ X bl) :
  Rel X w0 m0 κ' ρ (zcm τ l (some (bl,c))) { st with mem:=st.mem.set l O } a w' ∧
  Ext m0 κ ρ τ st.mem κ' ρ (zcm τ l (some (bl,c))) (st.mem.set l O):=by
 have htok:∀ v x,TokOK τ st.mem v x → TokOK (zcm τ l (some (bl,c))) (st.mem.set l O) v x:=fun v x hv => hv.move hst
 have hblk:∀ i,i ≠ l → blk ρ (zcm τ l (some (bl,c))) i (zaa (st.mem.set l O) i) = blk ρ τ i (zaa st.mem i):=fun i hi => by
  rw [zaD _ _ _ _ hlt,if_neg hi]
  cases zaa st.mem i <;> simp [blk,zcm,hi]
 have hblkl:blk ρ (zcm τ l (some (bl,c))) l (zaa (st.mem.set l O) l) = some bl:=by
  rw [zaD _ _ _ _ hlt,if_pos rfl]
  exact hOb
 have hheap':∀ i b (o:Obj),i ≠ l → blk ρ τ i (zaa st.mem i) = some b → w.heap[b]? = some o → w'.heap[b]? = some o:=fun i b o hi hb ho => by
  rw [hheap b (hbl i b hi hb) (zdZ ho)]; exact ho
 refine ⟨⟨h.defers,h.size,fun i => (h.tm i).mono hle (Lc.le_refl _),fun i => htok _ _ (h.tk i),⟨fun i => ?_,fun i i' b hi hi' => ?_,hk,fun i hi => h.mem.dom i (by simpa using hi),?_⟩,hf,h.xlt,by simpa using h.prot,h.prm,h.kx.trans ⟨fun b o hb => hκ b o (fun e => by subst e; exact hbX hb),fun b _ => hκm b⟩⟩,
  hle,fun _ _ _ q => q,hst.le h.prot⟩
 ·by_cases e:i = l
  ·subst e
   rw [zaD _ _ _ _ hlt,if_pos rfl]
   exact hN
  ·rw [zaD _ _ _ _ hlt,if_neg e]
   exact RelObj.mono (h.mem.obj i) hle (Lc.le_refl _) ⟨fun _ _ _ => by unfold zcm; rw [if_neg e],fun _ _ _ _ => by unfold zcm; rw [if_neg e]⟩ (fun b hb => hheap b (hbl i b e hb) (h.mem.blk_lt hb)) (fun b hb => ⟨fun o => hκ b o (hbl i b e hb),hκm b⟩)
 ·by_cases e:i = l <;> by_cases e':i' = l
  ·omega
  ·subst e
   rw [hblkl] at hi
   rw [hblk i' e'] at hi'
   cases hi
   exact absurd rfl (hbl i' _ e' hi')
  ·subst e'
   rw [hblkl] at hi'
   rw [hblk i e] at hi
   cases hi'
   exact absurd rfl (hbl i _ e hi)
  ·rw [hblk i e] at hi
   rw [hblk i' e'] at hi'
   exact h.mem.inj i i' b hi hi'
 ·intro i cs b us T' hi hb hh j hj
  rw [zaD _ _ _ _ hlt] at hi
  split at hi
  ·exact absurd hi (hOc cs)
  ·rename_i e
   have hb':blk ρ τ i (zaa st.mem i) = some b:=by rw [hi]; exact hb
   have ho:=h.mem.obj i
   rw [hi] at ho
   obtain ⟨b',us',T'',h1,_,_,h4,_,_⟩:=ho
   obtain rfl:b = b':=by rw [hb] at h1; exact czK h1
   have:=hheap' i b _ e hb' h4
   rw [hh] at this
   cases this
   exact htok _ _ (h.mem.toks i cs b us T' hi hb h4 j hj)
theorem Rel.retok (h:Rel X w0 m0 κ ρ τ st a w) {l n N sz bl c:Nat} (hl:zaa st.mem l = .tok n sz) (hn:n < N)
  (hle:κ.le κ') (hk:zdN κ' w')
  (hN:RelObj κ' ρ (zcm τ l (some (bl,c))) X w' l (.tok N sz)) (hheap:∀ b,b ≠ bl → b < w.heap.size → w'.heap[b]? = w.heap[b]?)
  (hκ:∀ b o,b ≠ bl → κ' b o = κ b o) (hκm:∀ b,κ'.m b = κ.m b) (hbl:∀ i b,i ≠ l → blk ρ τ i (zaa st.mem i) = some b → b ≠ bl) (hf:Frm X w0.w w') (hbX:¬ X bl) :
  Rel X w0 m0 κ' ρ (zcm τ l (some (bl,c))) { st with mem:=st.mem.set l (.tok N sz) } a w' ∧
  Ext m0 κ ρ τ st.mem κ' ρ (zcm τ l (some (bl,c))) (st.mem.set l (.tok N sz)):=by
 have hlt:l < st.mem.length:=zbX hl (by simp)
 refine h.rehome hlt ⟨fun i k s hi hm => ?_,fun i es sz' s hi hm => ?_⟩ (by simp [blk,zcm]) (by simp) hle hk hN hheap hκ hκm hbl hf hbX
 ·by_cases e:i = l
  ·subst e
   rw [hl] at hm
   cases hm
   exact ⟨N,by rw [zaD _ _ _ _ hlt,if_pos rfl],by omega,fun _ => by omega⟩
  ·exact ⟨k,by rw [zaD _ _ _ _ hlt,if_neg e]; exact hm,czf _,fun _ => by unfold zcm; rw [if_neg e]⟩
 ·have e:i ≠ l:=fun e => by rw [e,hl] at hm; cases hm
  exact ⟨es,s,by rw [zaD _ _ _ _ hlt,if_neg e]; exact hm,czf _,fun _ => ⟨rfl,by unfold zcm; rw [if_neg e]⟩⟩
theorem Rel.revec (h:Rel X w0 m0 κ ρ τ st a w) {l sz s s' bl c:Nat} {es es':List (List AV)} (hl:zaa st.mem l = .vec es sz s) (hs:s < s')
  (hle:κ.le κ') (hk:zdN κ' w')
  (hN:RelObj κ' ρ (zcm τ l (some (bl,c))) X w' l (.vec es' sz s')) (hheap:∀ b,b ≠ bl → b < w.heap.size → w'.heap[b]? = w.heap[b]?)
  (hκ:∀ b o,b ≠ bl → κ' b o = κ b o) (hκm:∀ b,κ'.m b = κ.m b) (hbl:∀ i b,i ≠ l → blk ρ τ i (zaa st.mem i) = some b → b ≠ bl) (hf:Frm X w0.w w') (hbX:¬ X bl) :
  Rel X w0 m0 κ' ρ (zcm τ l (some (bl,c))) { st with mem:=st.mem.set l (.vec es' sz s') } a w' ∧
  Ext m0 κ ρ τ st.mem κ' ρ (zcm τ l (some (bl,c))) (st.mem.set l (.vec es' sz s')):=by
 have hlt:l < st.mem.length:=zbX hl (by simp)
 refine h.rehome hlt ⟨fun i k s0 hi hm => ?_,fun i es0 sz0 s0 hi hm => ?_⟩ (by simp [blk,zcm]) (by simp) hle hk hN hheap hκ hκm hbl hf hbX
 ·have e:i ≠ l:=fun e => by rw [e,hl] at hm; cases hm
  exact ⟨k,by rw [zaD _ _ _ _ hlt,if_neg e]; exact hm,czf _,fun _ => by unfold zcm; rw [if_neg e]⟩
 ·by_cases e:i = l
  ·subst e
   rw [hl] at hm
   cases hm
   exact ⟨es',s',by rw [zaD _ _ _ _ hlt,if_pos rfl],by omega,fun _ => by omega⟩
  ·exact ⟨es0,s0,by rw [zaD _ _ _ _ hlt,if_neg e]; exact hm,czf _,fun _ => ⟨rfl,by unfold zcm; rw [if_neg e]⟩⟩
theorem Rel.restamp (h:Rel X w0 m0 κ ρ τ st a w) {l sz s s':Nat} {es es':List (List AV)} (hl:zaa st.mem l = .vec es sz s) (hs:s < s')
  (hN:RelObj κ ρ τ X w l (.vec es' sz s')) :
  Rel X w0 m0 κ ρ τ { st with mem:=st.mem.set l (.vec es' sz s') } a w ∧ Ext m0 κ ρ τ st.mem κ ρ τ (st.mem.set l (.vec es' sz s')):=by
 have hlt:l < st.mem.length:=zbX hl (by simp)
 have hst:TStep st.mem.length τ st.mem τ (st.mem.set l (.vec es' sz s')):=by
  refine ⟨fun i k s0 hi hm => ?_,fun i es0 sz0 s0 hi hm => ?_⟩
  ·have e:i ≠ l:=fun e => by rw [e,hl] at hm; cases hm
   exact ⟨k,by rw [zaD _ _ _ _ hlt,if_neg e]; exact hm,czf _,fun _ => rfl⟩
  ·by_cases e:i = l
   ·subst e
    rw [hl] at hm
    cases hm
    exact ⟨es',s',by rw [zaD _ _ _ _ hlt,if_pos rfl],by omega,fun _ => by omega⟩
   ·exact ⟨es0,s0,by rw [zaD _ _ _ _ hlt,if_neg e]; exact hm,czf _,fun _ => ⟨rfl,rfl⟩⟩
 have hblk:∀ i,blk ρ τ i (zaa (st.mem.set l (.vec es' sz s')) i) = blk ρ τ i (zaa st.mem i):=fun i => by
  rw [zaD _ _ _ _ hlt]
  split
  ·rename_i e; subst e; rw [hl]; rfl
  ·rfl
 refine ⟨⟨h.defers,h.size,h.tm,fun i => (h.tk i).move hst,⟨fun i => ?_,fun i i' b hi hi' => h.mem.inj i i' b (by rw [← hblk]; exact hi) (by rw [← hblk]; exact hi'),h.mem.know,fun i hi => h.mem.dom i (by simpa using hi),?_⟩,h.frm,h.xlt,by simpa using h.prot,h.prm,h.kx⟩,Kn.le_refl _,fun _ _ _ q => q,hst.le h.prot⟩
 ·rw [zaD _ _ _ _ hlt]
  split
  ·rename_i e; subst e; exact hN
  ·exact h.mem.obj i
 ·intro i cs b us T' hi hb hh j hj
  rw [zaD _ _ _ _ hlt] at hi
  split at hi
  ·cases hi
  ·exact (h.mem.toks i cs b us T' hi hb hh j hj).move hst
end
end Go.Fs
namespace Go.Fs
open Go.RowKit (Below)
section
variable {P:Program} {X:Nat → Prop} {w0:W0} {w w':World} {m0:Nat} {κ κ':Kn} {ρ:Lc} {τ:Tc} {st:St} {a:Act}
theorem zco (sz:Nat):∀ (es:List (List AV)),(∀ e ∈ es,e.length = sz) → es.flatten.length = es.length * sz
 | [],_ => by simp
 | e :: r,h => by
  have:=zco sz r (fun x hx => h x (by simp [hx]))
  simp [this,h e (by simp),Nat.add_mul]
  omega
theorem zdy (sz:Nat):∀ (es:List (List AV)),(∀ e ∈ es,e.length = sz) → ∀ i j,i < es.length → j < sz →
  es.flatten.getD (i * sz + j) .undef = (es.getD i []).getD j .undef
 | [],_,i,j,hi,_ => by simp at hi
 | e :: r,h,0,j,_,hj => by
  have:=h e (by simp)
  simp only [List.flatten_cons,List.getD,Nat.zero_mul,Nat.zero_add,czD,Option.getD_some]
  rw [czi (by omega)]
 | e :: r,h,i + 1,j,hi,hj => by
  have he:=h e (by simp)
  have:=zdy sz r (fun x hx => h x (by simp [hx])) i j (by simpa using hi) hj
  simp only [List.flatten_cons,List.getD] at this ⊢
  rw [czj (by rw [he,Nat.add_mul]; omega)]
  rw [show (i + 1) * sz + j - e.length = i * sz + j by rw [he,Nat.add_mul]; omega]
  rw [this]
  simp
theorem zgH {q n sz:Nat} (h:q < n * sz):q / sz < n ∧ q % sz < sz ∧ q / sz * sz + q % sz = q:=by
 have hs:0 < sz:=Nat.pos_of_ne_zero (fun e => by subst e; simp at h)
 refine ⟨?_,Nat.mod_lt _ hs,by rw [Nat.mul_comm]; exact Nat.div_add_mod q sz⟩
 exact (Nat.div_lt_iff_lt_mul hs).2 h
theorem ziZ {es:List (List AV)} {tk:Tk} {x:Value} {sz:Nat} (hk:zdN κ w)
  (hx:Rep κ ρ (.sl es tk) x) (hz:∀ e ∈ es,e.length = sz) :
  ∃ arr,(Builtin.firstCells sz es.length x).run P w = .ok arr w ∧ RepL κ ρ es.flatten arr ∧ (Builtin.lenOf x).run P w = .ok es.length w ∧
   ∀ b o n c,x = .slice (some ⟨b,o,none⟩) n c → ∀ q,q < es.length * sz → κ b (o + q) = some (arr.getD q Go.undef):=by
 cases hx with
 | slnil => exact ⟨#[],rfl,⟨rfl,fun i hi => by simp at hi⟩,rfl,fun b o n c e => by cases e⟩
 | sl es tk b o cap sz' val hsz hk' hr ht hc =>
  have hss:∀ i,i < es.length → sz' = sz:=fun i hi => by
   rw [← hsz i hi]
   refine hz _ ?_
   simp [List.getD,hi]
  have hrun:=run_loadCells (P:=P) w ⟨b,o,none⟩ (es.length * sz) (fun q => val (q / sz) (q % sz)) (fun q hq => by
   obtain ⟨h1,h2,h3⟩:=zgH hq
   have e:=hss _ h1
   subst e
   rw [zcv]
   refine hk.c _ _ _ ?_
   have:=hk' (q / sz') (q % sz') h1 h2
   rw [Nat.add_assoc,h3] at this
   exact this)
  refine ⟨_,by simpa [Builtin.firstCells] using hrun,⟨by rw [zco sz es hz]; simp,fun q hq => ?_⟩,rfl,fun b1 o1 n1 c1 e1 q hq => ?_⟩
  rotate_left
  ·cases e1
   obtain ⟨h1,h2,h3⟩:=zgH hq
   rw [zc1 _ _ _ hq]
   have e:=hss _ h1
   subst e
   have:=hk' (q / sz') (q % sz') h1 h2
   rw [Nat.add_assoc,h3] at this
   exact this
  rw [zco sz es hz] at hq
  obtain ⟨h1,h2,h3⟩:=zgH hq
  rw [zc1 _ _ _ hq]
  have:=zdy sz es hz (q / sz) (q % sz) h1 h2
  rw [h3] at this
  rw [this]
  have e:=hss _ h1
  subst e
  exact hr _ _ h1 h2
theorem zkX (need cap:Nat) (h:cap < need):Builtin.nextslicecap need cap ≤ need + need / 4 + 704:=by
 unfold Builtin.nextslicecap
 split
 ·omega
 ·split
  ·omega
  ·have:∀ r c,c < need ∨ c ≤ need + need / 4 + 704 → Builtin.growBy need r c ≤ need + need / 4 + 704:=by
    intro r
    induction r with
    | zero => intro c hc; simp [Builtin.growBy]; omega
    | succ r ih =>
     intro c hc
     unfold Builtin.growBy
     split
     ·omega
     ·exact ih _ (by right; omega)
   exact this 4 cap (.inl h)
theorem zgO (z:Array Value) (n:Nat):(Builtin.zeroCells z n).size = n * z.size:=by simp [Builtin.zeroCells]
theorem zdx {a b:Array Value} (i:Nat):(a ++ b).getD i Go.undef = if i < a.size then a.getD i Go.undef else b.getD (i - a.size) Go.undef:=by
 simp only [czo]
 split
 ·rw [Array.getElem?_append_left ‹_›]
 ·rw [Array.getElem?_append_right (by omega)]
theorem ziy (a b:List AV) (i:Nat):(a ++ b).getD i .undef = if i < a.length then a.getD i .undef else b.getD (i - a.length) .undef:=by
 simp only [List.getD]
 split
 ·rw [czi ‹_›]
 ·rw [czj (by omega)]
theorem RepL.append {cs ds:List AV} {vs us:Array Value} (h:RepL κ ρ cs vs) (h':RepL κ ρ ds us):RepL κ ρ (cs ++ ds) (vs ++ us):=by
 refine ⟨by simp [h.1,h'.1],fun i hi => ?_⟩
 rw [zdx,ziy,h.1]
 simp at hi
 split
 ·exact h.2 _ ‹_›
 ·exact h'.2 _ (by omega)
theorem slot_sl {fs:List (List AV)} {tk:Tk} {b cap sz:Nat} {arr:Array Value} (hz:∀ e ∈ fs,e.length = sz) (hR:RepL κ ρ fs.flatten arr)
  (hk:∀ q,q < fs.length * sz → κ' b q = some (arr.getD q Go.undef)) (hle:κ.le κ') (hcap:fs.length ≤ cap) (htk:tk ≠ .full) :
  Rep κ' ρ (.sl fs tk) (.slice (some ⟨b,0,none⟩) fs.length cap):=by
 refine .sl fs tk b 0 cap sz (fun i j => arr.getD (i * sz + j) Go.undef) (fun i hi => hz _ (by simp [List.getD,hi])) (fun i j hi hj => ?_) (fun i j hi hj => ?_) (fun e => absurd e htk) hcap
 ·rw [Nat.zero_add]
  refine hk _ ?_
  have:(i + 1) * sz ≤ fs.length * sz:=czq sz (by omega)
  rw [Nat.add_mul] at this
  omega
 ·rw [← zdy sz fs hz i j hi hj]
  refine (hR.2 _ ?_).mono hle (Lc.le_refl _)
  rw [zco sz fs hz]
  have:(i + 1) * sz ≤ fs.length * sz:=czq sz (by omega)
  rw [Nat.add_mul] at this
  omega
theorem set_same {mem:List AObj} {l:Nat} {o:AObj} (hl:zaa mem l = o) (hlt:l < mem.length):mem.set l o = mem:=by
 apply List.ext_getElem?
 intro k
 rw [List.getElem?_set]
 split
 ·rename_i e'
  subst e'
  unfold zaa at hl
  simp only [List.getD,czw hlt,Option.getD_some] at hl
  simp [hlt,hl]
 ·rfl
theorem ze5 {mem:List AObj} {es:List (List AV)} {l:Nat} {x:Value} (h:∃ n sz,zaa mem l = .tok n sz ∧ es.length ≤ n ∧ (es.length = n → Fits τ l sz x)):TokOK τ mem (.sl es (.own l)) x :=
 Tok1.full ⟨fun es' l' e' _ => (by cases e'; exact h),fun l s off len sz e => (by cases e),fun l s i off e => (by cases e)⟩ (fun ds e => by cases e)
theorem zhh {mem:List AObj} {l s off len sz:Nat} {x:Value} (h:∃ es s',zaa mem l = .vec es sz s' ∧ s ≤ s' ∧ (s = s' → zqS τ l off len sz es.length x)):TokOK τ mem (.vec l s off len sz) x :=
 Tok1.full ⟨fun es' l' e' => (by cases e'),fun l s off len sz e _ => (by cases e; exact h),fun l s i off e => (by cases e)⟩ (fun ds e => by cases e)
theorem zen {fs:List (List AV)} {tk:Tk} {y:Value} {sz:Nat} (hk:zdN κ w) (hy:Rep κ ρ (.sl fs tk) y) (hz:∀ e ∈ fs,e.length = sz) :
  ∀ d,∃ arr,(Builtin.firstCells sz fs.length y).run P { w with drawn:=d } = .ok arr { w with drawn:=d } ∧ RepL κ ρ fs.flatten arr ∧ (Builtin.lenOf y).run P { w with drawn:=d } = .ok fs.length { w with drawn:=d }:=fun d => by
 obtain ⟨arr,h1,h2,h3,_⟩:=ziZ (P:=P) (w:={ w with drawn:=d }) (⟨hk.c,hk.m⟩:zdN κ { w with drawn:=d }) hy hz
 exact ⟨arr,h1,h2,h3⟩
theorem zme (h:Rel X w0 m0 κ ρ τ st a w) {l sz by_:Nat} {es fs:List (List AV)} {tk:Tk} {x y:Value} {t0 t1 e e1 ty:TypeId} {z:List AV} {sz1:Nat}
  (hs0:zck P t0 = some (e,sz)) (hs1:zck P t1 = some (e1,sz1)) (hby:bytesOf? P e = some by_) (hzz:zaY P e = some z) (hzl:z.length = sz) (hb0:0 < by_)
  (hes:∀ q ∈ es,q.length = sz) (hfs:∀ q ∈ fs,q.length = sz) (hone:∀ q ∈ fs,∀ c ∈ q,c.one = true)
  (hbound:((es.length + fs.length) + (es.length + fs.length) / 4 + 704) * by_ ≤ 281474976710656)
  (hl:zaa st.mem l = .tok es.length sz) (hx:Rep κ ρ (.sl es tk) x) (hfit:Fits τ l sz x) (hy:∀ d,∃ arr,(Builtin.firstCells sz fs.length y).run P { w with drawn:=d } = .ok arr { w with drawn:=d } ∧ RepL κ ρ fs.flatten arr ∧ (Builtin.lenOf y).run P { w with drawn:=d } = .ok fs.length { w with drawn:=d }) :
  ∃ v w' κ' τ',(Builtin.append_ #[t0,t1] ty #[x,y]).run P w = .ok v w' ∧
   Rel X w0 m0 κ' ρ τ' { st with mem:=st.mem.set l (.tok (es.length + fs.length) sz) } a w' ∧
   Ext m0 κ ρ τ st.mem κ' ρ τ' (st.mem.set l (.tok (es.length + fs.length) sz)) ∧
   Rep κ' ρ (.sl (es ++ fs) (.own l)) v ∧ TokOK τ' (st.mem.set l (.tok (es.length + fs.length) sz)) (.sl (es ++ fs) (.own l)) v:=by
 have hlt:l < st.mem.length:=zbX hl (by simp)
 obtain ⟨hu0,hsz0⟩:=zcn hs0
 obtain ⟨hu1,_⟩:=zcn hs1
 obtain ⟨i,hi,hib⟩:=bytesOf?_spec hby
 have hk1:zdN κ { w with drawn:=w.drawn + 1 }:=⟨h.mem.know.c,h.mem.know.m⟩
 obtain ⟨arr,hload,harr,_,hkn⟩:=ziZ (P:=P) (w:={ w with drawn:=w.drawn + 1 }) hk1 hx hes
 obtain ⟨brr1,hloadb1,hbrr1,_⟩:=hy (w.drawn + 1)
 have hy0:∃ arr,(Builtin.firstCells sz fs.length y).run P w = .ok arr w ∧ RepL κ ρ fs.flatten arr ∧ (Builtin.lenOf y).run P w = .ok fs.length w:=hy w.drawn
 obtain ⟨brr,hloadb,hbrr,hlen⟩:=hy0
 obtain ⟨zv,hzv,hzr⟩:=zei (w:={ w with drawn:=w.drawn + 1 }) (κ:=κ) (ρ:=ρ) hzz
 obtain ⟨ba,sl,cap,rfl,hfit⟩:=hfit
 have hsl:sl = es.length ∧ es.length ≤ cap:=by
  cases hx with
  | slnil => exact ⟨rfl,czf _⟩
  | sl _ _ _ _ _ _ _ _ _ _ _ hc => exact ⟨rfl,hc⟩
 obtain ⟨rfl,hcap⟩:=hsl
 have hfl:(es ++ fs).flatten = es.flatten ++ fs.flatten:=by simp
 have hall:∀ q ∈ es ++ fs,q.length = sz:=fun q hq => by
  rcases czv.1 hq with hq | hq
  ·exact hes q hq
  ·exact hfs q hq
 have hflen:=zco sz es hes
 have hflenb:=zco sz fs hfs
 by_cases hf0:fs = []
 ·
  subst hf0
  simp only [czy,Nat.add_zero,List.append_nil] at *
  have hset:=set_same hl hlt
  have hbrr0:brr = #[]:=by
   have:=hbrr.1
   simp at this
   exact Array.eq_empty_of_size_eq_zero (by simpa using this)
  refine ⟨.slice ba es.length cap,w,κ,τ,?_,by rw [hset]; exact h,by rw [hset]; exact Ext.refl _ _ _ _ _,?_,?_⟩
  ·subst hbrr0
   simp only [Builtin.append_,List.getElem?_toArray,czD,czS,Sem.run_bind,run_underlying hu0,run_underlying hu1,Result.andThen_ok,zbw hsz0,Sem.run_pure,czp,if_false,hlen,
    Nat.add_zero,hcap,if_true,hloadb,Bool.not_false]
   cases ba with
   | none => simp
   | some q => simp [storeCells]
  ·cases hx with
   | slnil => exact .slnil _
   | sl _ _ b o _ sz' val a1 a2 a3 a4 a5 => exact .sl es (.own l) b o _ sz' val a1 a2 a3 (fun e => by cases e) a5
  ·rw [hset]
   exact ze5 ⟨_,_,hl,czf _,fun _ => ⟨ba,es.length,cap,rfl,hfit⟩⟩
 have hfpos:0 < fs.length:=by
  cases fs with
  | nil => exact absurd rfl hf0
  | cons q r => simp
 have htokR:∀ (τ':Tc) (v:Value),Fits τ' l sz v → TokOK τ' (st.mem.set l (.tok (es.length + fs.length) sz)) (.sl (es ++ fs) (.own l)) v:=by
  intro τ' v hv
  exact ze5 ⟨_,_,by rw [zaD _ _ _ _ hlt,if_pos rfl],by simp,fun _ => hv⟩
 by_cases hroom:es.length + fs.length ≤ cap
 ·
  rcases hfit with rfl | ⟨b,c,rfl,hτ,hcc⟩
  ·omega
  have ho:=h.mem.obj l
  rw [hl] at ho
  rcases ho with ho | ⟨b',c',vs,T,g1,g2,g3,g4,g5⟩
  ·rw [hτ] at ho; cases ho
  rw [hτ] at g1
  cases g1
  have hRL:RepL κ ρ (es ++ fs).flatten (arr ++ brr):=by rw [hfl]; exact harr.append hbrr
  have hones:∀ v ∈ brr.toList,v.oneCell' = true:=by
   intro v hv
   obtain ⟨q,hq,rfl⟩:=List.mem_iff_getElem.1 hv
   simp at hq
   have hq':q < fs.flatten.length:=by rw [← hbrr.1]; exact hq
   have h1:=hbrr.2 q hq'
   have h2:brr.toList[q] = brr.getD q Go.undef:=by simp [Array.getD,hq]
   rw [h2]
   refine h1.one ?_
   have h3:fs.flatten.getD q .undef = fs.flatten[q]:=by simp only [List.getD,czw hq',Option.getD_some]
   rw [h3]
   obtain ⟨e',he',hce⟩:=List.mem_flatten.1 (List.getElem_mem hq')
   exact hone e' he' _ hce
  have hbs:brr.size = fs.length * sz:=by rw [hbrr.1,hflenb]
  have has:arr.size = es.length * sz:=by rw [harr.1,hflen]
  have hcm:(es.length + fs.length) * sz ≤ cap * sz:=czq sz hroom
  have hsum:(es.length + fs.length) * sz = es.length * sz + fs.length * sz:=Nat.add_mul _ _ _
  have hrun:=run_storeCells_at (P:=P) b (es.length * sz) T brr.toList 0 vs w g4 (by simp; omega) hones
  simp only [Nat.add_zero] at hrun
  let vs':Array Value:=(vs.toList.take (es.length * sz) ++ brr.toList ++ vs.toList.drop (es.length * sz + brr.toList.length)).toArray
  have hg:∀ i,vs'.getD i Go.undef = if es.length * sz ≤ i ∧ i < es.length * sz + fs.length * sz then brr.getD (i - es.length * sz) Go.undef else vs.getD i Go.undef:=by
   intro i
   simp only [vs',czo,List.getElem?_toArray,czd]
   by_cases h1:i < es.length * sz
   ·rw [czi (by simp; omega),if_neg (by omega),czR]
    simp [h1]
   ·rw [czj (by simp; omega)]
    simp only [czO,Nat.min_eq_left (show es.length * sz ≤ vs.toList.length by simp; omega)]
    by_cases h2:i < es.length * sz + fs.length * sz
    ·rw [czi (by simp; omega),if_pos (by omega)]
     simp
    ·rw [czj (by simp; omega),if_neg (by omega),czQ]
     simp only [Array.length_toList,Array.getElem?_toList]
     congr 2
     omega
  have hvs':vs'.size = vs.size:=by simp [vs']; omega
  let κ':Kn:=⟨fun b' o => if b' = b ∧ es.length * sz ≤ o ∧ o < (es.length + fs.length) * sz then some (vs'.getD o Go.undef) else κ b' o,κ.m⟩
  have hle:κ.le κ':=⟨fun b' o v hv => by
   simp only [κ']
   split
   ·rename_i hc
    obtain ⟨rfl,hc1,_⟩:=hc
    rw [g3 o hc1] at hv
    cases hv
   ·exact hv,fun _ _ h => h⟩
  have hnewrow:=setRow_heap w b vs vs' T (0,0) g4
  have hk':zdN κ' (w.setRow b vs'):=by
   refine ⟨?_,fun b' es' hm => by
    have h1:=h.mem.know.m b' es' hm
    rw [setRow_other _ _ _ _ (fun e => by rw [e,g4] at h1; cases h1)]
    exact h1⟩
   intro b' o v hv
   simp only [κ'] at hv
   split at hv
   ·rename_i hc
    obtain ⟨rfl,hc1,hc2⟩:=hc
    cases hv
    exact zcI hnewrow (by omega)
   ·rename_i hc
    by_cases hb':b' = b
    ·subst hb'
     have h1:=h.mem.know.c _ _ _ hv
     have h2:o < es.length * sz:=by
      by_cases h2:o < es.length * sz
      ·exact h2
      ·rw [g3 o (by omega)] at hv; cases hv
     have h3:o < vs.size:=by omega
     rw [zcI g4 h3] at h1
     rw [zcI hnewrow (by omega),hg o,if_neg (by omega)]
     exact h1
    ·rw [cell_setRow_other w b vs' ⟨b',o,none⟩ hb']
     exact h.mem.know.c _ _ _ hv
  obtain ⟨r1,r2⟩:=h.retok (N:=es.length + fs.length) (bl:=b) (c:=vs.size) (κ':=κ') (w':=w.setRow b vs') hl (by omega) hle hk'
   (.inr ⟨b,vs.size,vs',T,by simp [zcm],g2,fun o ho => by simp only [κ']; rw [if_neg (by omega)]; exact g3 o (by omega),hnewrow,hvs'⟩)
   (fun b' hb' _ => setRow_other _ _ _ _ hb') (fun b' o hb' => by simp only [κ']; rw [if_neg (fun q => hb' q.1)]) (fun _ => rfl)
   (fun i' b' hi' hb' e' => by subst e'; exact hi' (h.mem.inj i' l b' hb' (by rw [hl]; simp [blk,hτ]))) (h.frm.setRow g2 vs') g2
  have hrep:Rep κ' ρ (.sl (es ++ fs) (.own l)) (.slice (some ⟨b,0,none⟩) (es.length + fs.length) cap):=by
   have:=slot_sl (tk:=.own l) (b:=b) (cap:=cap) (κ':=κ') hall hRL (fun q hq => ?_) hle (by simpa using hroom) (by simp)
   ·simpa using this
   ·rw [czc,hsum] at hq
    rw [zdx,has]
    by_cases hq1:q < es.length * sz
    ·rw [if_pos hq1]
     have:=hkn b 0 _ _ rfl q hq1
     rw [Nat.zero_add] at this
     exact hle.c _ _ _ this
    ·rw [if_neg hq1]
     simp only [κ']
     rw [if_pos ⟨trivial,by omega,by omega⟩,hg q,if_pos (by omega)]
  refine ⟨.slice (some ⟨b,0,none⟩) (es.length + fs.length) cap,w.setRow b vs',κ',_,?_,r1,r2,hrep,htokR _ _ ⟨_,_,_,rfl,.inr ⟨b,vs.size,rfl,by simp [zcm],by omega⟩⟩⟩
  simp only [Builtin.append_,List.getElem?_toArray,czD,czS,Sem.run_bind,run_underlying hu0,run_underlying hu1,Result.andThen_ok,zbw hsz0,Sem.run_pure,czp,if_false,hlen,
   hroom,if_true,hloadb,Bool.not_false,zcv,Nat.zero_add,hrun]
  simp [vs']
 ·
  have hRL:RepL κ ρ (es ++ fs).flatten (arr ++ brr1):=by rw [hfl]; exact harr.append hbrr1
  have hbs:brr1.size = fs.length * sz:=by rw [hbrr1.1,hflenb]
  have has:arr.size = es.length * sz:=by rw [harr.1,hflen]
  have hsum:(es.length + fs.length) * sz = es.length * sz + fs.length * sz:=Nat.add_mul _ _ _
  have hnc:=zkX (es.length + fs.length) cap (by omega)
  have hnb:¬ (Builtin.nextslicecap (es.length + fs.length) cap * i.bytes > 2 ^ 48):=by
   have:=czq i.bytes hnc
   rw [hib] at this ⊢
   omega
  obtain ⟨newCap,hnew,hncle⟩:∃ nc,(choose (.appendCap (es.length + fs.length) cap e)).run P w = .ok nc { w with drawn:=w.drawn + 1 } ∧ es.length + fs.length ≤ nc:=by
   refine ⟨_,by simp [Question.forced]; rfl,?_⟩
   simp [Question.cut]
  let row:Array Value:=arr ++ brr1 ++ Builtin.zeroCells zv.cells (newCap - (es.length + fs.length))
  have hrows:row.size = newCap * sz:=by
   have hz1:zv.cells.size = sz:=by rw [hzr.1,hzl]
   have:newCap = (es.length + fs.length) + (newCap - (es.length + fs.length)):=by omega
   simp only [row,Array.size_append,zgO,has,hbs,hz1]
   conv => rhs; rw [this,Nat.add_mul,hsum]
  have hcm:(es.length + fs.length) * sz ≤ newCap * sz:=czq sz hncle
  let w2:World:={ w with drawn:=w.drawn + 1,heap:=w.heap.push (.cells row e) }
  have hw2:∀ b',b' ≠ w.heap.size → w2.heap[b']? = w.heap[b']?:=fun b' hb' => zb0 w (.cells row e) b' hb'
  have hw2n:w2.heap[w.heap.size]? = some (.cells row e (0,0)):=zbS w (.cells row e)
  have hκn:∀ o,κ w.heap.size o = none:=fun o => by
   cases hq:κ w.heap.size o with
   | none => rfl
   | some v => have:=zfC (h.mem.know.c _ _ _ hq); omega
  let κ':Kn:=⟨fun b' o => if b' = w.heap.size ∧ o < (es.length + fs.length) * sz then some (row.getD o Go.undef) else κ b' o,κ.m⟩
  have hle:κ.le κ':=⟨fun b' o v hv => by
   simp only [κ']
   split
   ·rename_i hc
    obtain ⟨rfl,_⟩:=hc
    rw [hκn] at hv
    cases hv
   ·exact hv,fun _ _ h => h⟩
  have hk':zdN κ' w2:=by
   refine ⟨?_,fun b' es' hm => zgD _ (h.mem.know.m b' es' hm)⟩
   intro b' o v hv
   simp only [κ'] at hv
   split at hv
   ·rename_i hc
    obtain ⟨rfl,hc1⟩:=hc
    cases hv
    exact zcI hw2n (by omega)
   ·have h1:=h.mem.know.c _ _ _ hv
    have h2:=zfC h1
    rw [← h1]
    unfold World.cell?
    rw [hw2 b' (by omega)]
  have hX:¬ X w.heap.size:=fun hb => by have:=h.xlt _ hb; have:=h.frm.size; omega
  obtain ⟨r1,r2⟩:=h.retok (N:=es.length + fs.length) (bl:=w.heap.size) (c:=row.size) (κ':=κ') (w':=w2) hl (by omega) hle hk'
   (.inr ⟨w.heap.size,row.size,row,e,by simp [zcm],hX,fun o ho => by simp only [κ']; rw [if_neg (by omega)]; exact hκn o,hw2n,rfl⟩)
   (fun b' hb' _ => hw2 b' hb') (fun b' o hb' => by simp only [κ']; rw [if_neg (fun q => hb' q.1)]) (fun _ => rfl)
   (fun i' b' _ hb' e' => by subst e'; have:=h.mem.blk_lt hb'; omega)
   ⟨h.frm.os,h.frm.tape,h.frm.output,by show _ ≤ (w.heap.push _).size; simp; have:=h.frm.size; omega,fun b' hb' => by rw [hw2 b' (by have:=h.xlt b' hb'; have:=h.frm.size; omega)]; exact h.frm.block b' hb'⟩ hX
  have hrep:Rep κ' ρ (.sl (es ++ fs) (.own l)) (.slice (some ⟨w.heap.size,0,none⟩) (es.length + fs.length) newCap):=by
   have:=slot_sl (tk:=.own l) (b:=w.heap.size) (cap:=newCap) (κ':=κ') hall hRL (fun q hq => ?_) hle (by simpa using hncle) (by simp)
   ·simpa using this
   ·rw [czc] at hq
    simp only [κ']
    rw [if_pos ⟨trivial,hq⟩]
    simp only [row]
    rw [zdx,if_pos (by simp [has,hbs]; omega)]
  refine ⟨.slice (some ⟨w.heap.size,0,none⟩) (es.length + fs.length) newCap,w2,κ',_,?_,r1,r2,hrep,htokR _ _ ⟨_,_,_,rfl,.inr ⟨w.heap.size,row.size,rfl,by simp [zcm],by omega⟩⟩⟩
  have hbz:¬ (i.bytes = 0):=by omega
  simp only [Builtin.append_,List.getElem?_toArray,czD,czS,Sem.run_bind,run_underlying hu0,run_underlying hu1,Result.andThen_ok,zbw hsz0,Sem.run_pure,czp,if_false,hlen,
   hroom,Bool.not_false,run_typeInfo w hi,hbz,or_self,and_false,hnb,hnew,run_typeInfo { w with drawn:=w.drawn + 1 } hi,run_askRoom,hload,hloadb1,if_true,hzv]
  simp [newRow,row,w2]
  exact ⟨rfl,rfl,rfl⟩
theorem getDL_mem {es:List (List AV)} {i:Nat} (h:i < es.length):es.getD i [] ∈ es:=by
 simp only [List.getD,czw h,Option.getD_some]
 exact List.getElem_mem h
theorem ztS {a b:List (List AV)} {i:Nat} (h:i < a.length):(a ++ b).getD i [] = a.getD i []:=by
 simp only [List.getD,czi h]
theorem zp0 {a b:List (List AV)} {i:Nat} (h:a.length ≤ i):(a ++ b).getD i [] = b.getD (i - a.length) []:=by
 simp only [List.getD,czj h]
theorem zmt {l off len sz:Nat} {es:List (List AV)} {x:Value} {b c:Nat} {vs:Array Value} {T:TypeId} (hat:zqS τ l off len sz es.length x)
  (hobj:τ l = some (b,c) → w.heap[b]? = some (.cells vs T (0,0)) ∧ vs.size = c ∧ ∀ i j,i < es.length → j < sz → Rep κ ρ ((es.getD i []).getD j .undef) (vs.getD (i * sz + j) Go.undef)) (hbc:∀ q,τ l = some q → q = (b,c))
  (hes:∀ i,i < es.length → (es.getD i []).length = sz) :
  ∃ arr,(Builtin.firstCells sz len x).run P w = .ok arr w ∧ RepL κ ρ ((es.drop off).take len).flatten arr:=by
 obtain ⟨a,cap,rfl,hlc,hle,hor⟩:=hat
 have hlt:((es.drop off).take len).length = len:=by simp; omega
 have hes':∀ q ∈ (es.drop off).take len,q.length = sz:=fun q hq => by
  obtain ⟨i,hi,rfl⟩:=List.mem_iff_getElem.1 (List.mem_of_mem_drop (List.mem_of_mem_take hq))
  have:=hes i hi
  simpa [List.getD,hi] using this
 have hfl:=zco sz _ hes'
 rw [hlt] at hfl
 by_cases hl0:len = 0
 ·subst hl0
  refine ⟨#[],?_,?_⟩
  ·cases a <;> simp [Builtin.firstCells,loadCells,loadCellsFrom]
  ·simp [RepL]
 rcases hor with h0 | ⟨b',c',h1,rfl,h3⟩
 ·omega
 have:=hbc _ h1
 cases this
 obtain ⟨g1,g2,g3⟩:=hobj h1
 obtain ⟨f,hf⟩:∃ f:Nat → Value,∀ q,f q = vs.getD (off * sz + q) Go.undef:=⟨_,fun _ => rfl⟩
 have hrun:=run_loadCells (P:=P) w ⟨b,off * sz,none⟩ (len * sz) f (fun q hq => by
  rw [zcv,hf]
  have h4:(off + len) * sz ≤ (off + cap) * sz:=czq sz (by omega)
  rw [Nat.add_mul] at h4
  exact zcI g1 (by omega))
 refine ⟨_,by simpa [Builtin.firstCells] using hrun,by rw [hfl]; simp,fun q hq => ?_⟩
 rw [hfl] at hq
 rw [zc1 _ _ _ hq,hf]
 obtain ⟨k1,k2,k3⟩:=zgH hq
 have:=zdy sz _ hes' (q / sz) (q % sz) (by rw [hlt]; exact k1) k2
 rw [k3] at this
 rw [this]
 have e:((es.drop off).take len).getD (q / sz) [] = es.getD (off + q / sz) []:=by
  simp [List.getD,czR,k1]
 rw [e]
 have:=g3 (off + q / sz) (q % sz) (by omega) k2
 rw [Nat.add_mul,Nat.add_assoc,k3] at this
 exact this
theorem zmd (h:Rel X w0 m0 κ ρ τ st a w) {l len sz s by_:Nat} {es fs:List (List AV)} {x y:Value} {t0 t1 e e1 ty:TypeId} {z:List AV} {sz1:Nat}
  (hs0:zck P t0 = some (e,sz)) (hs1:zck P t1 = some (e1,sz1)) (hby:bytesOf? P e = some by_) (hzz:zaY P e = some z) (hzl:z.length = sz) (hb0:0 < by_)
  (hfs:∀ q ∈ fs,q.length = sz) (hone:∀ q ∈ fs,∀ c ∈ q,c.one = true)
  (hbound:((len + fs.length) + (len + fs.length) / 4 + 704) * by_ ≤ 281474976710656)
  (hl:zaa st.mem l = .vec es sz s) (hat:zqS τ l 0 len sz es.length x) (hx:Rep κ ρ (.vec l s 0 len sz) x) (hy:∀ d,∃ arr,(Builtin.firstCells sz fs.length y).run P { w with drawn:=d } = .ok arr { w with drawn:=d } ∧ RepL κ ρ fs.flatten arr ∧ (Builtin.lenOf y).run P { w with drawn:=d } = .ok fs.length { w with drawn:=d }) :
  ∃ v w' τ',(Builtin.append_ #[t0,t1] ty #[x,y]).run P w = .ok v w' ∧
   Rel X w0 m0 κ ρ τ' { st with mem:=st.mem.set l (.vec (es.take len ++ fs) sz (s + 1)) } a w' ∧
   Ext m0 κ ρ τ st.mem κ ρ τ' (st.mem.set l (.vec (es.take len ++ fs) sz (s + 1))) ∧
   Rep κ ρ (.vec l (s + 1) 0 (len + fs.length) sz) v ∧ TokOK τ' (st.mem.set l (.vec (es.take len ++ fs) sz (s + 1))) (.vec l (s + 1) 0 (len + fs.length) sz) v:=by
 have hlt:l < st.mem.length:=zbX hl (by simp)
 obtain ⟨hu0,hsz0⟩:=zcn hs0
 obtain ⟨hu1,_⟩:=zcn hs1
 obtain ⟨i,hi,hib⟩:=bytesOf?_spec hby
 have hk1:zdN κ { w with drawn:=w.drawn + 1 }:=⟨h.mem.know.c,h.mem.know.m⟩
 obtain ⟨brr1,hloadb1,hbrr1,_⟩:=hy (w.drawn + 1)
 have hy0:∃ arr,(Builtin.firstCells sz fs.length y).run P w = .ok arr w ∧ RepL κ ρ fs.flatten arr ∧ (Builtin.lenOf y).run P w = .ok fs.length w:=hy w.drawn
 obtain ⟨brr,hloadb,hbrr,hlen⟩:=hy0
 obtain ⟨zv,hzv,hzr⟩:=zei (w:={ w with drawn:=w.drawn + 1 }) (κ:=κ) (ρ:=ρ) hzz
 have ho:=h.mem.obj l
 rw [hl] at ho
 obtain ⟨he0,ho⟩:=ho
 have hat0:=hat
 obtain ⟨ba,cap,rfl,hlc,hle,hor⟩:=hat
 have hsp:∀ ad,ba = some ad → ad.spot = none:=by cases hx with | vec _ _ _ _ _ _ _ q => exact q.2
 rw [Nat.zero_add] at hle
 have htl:(es.take len).length = len:=by simp; omega
 have htg:∀ i,i < len → (es.take len).getD i [] = es.getD i []:=fun i hi => by simp [List.getD,czR,hi]
 have htes:∀ q ∈ es.take len,q.length = sz:=fun q hq => by
  obtain ⟨j,hj,rfl⟩:=List.mem_iff_getElem.1 (List.mem_of_mem_take hq)
  have:=he0 j hj
  simpa [List.getD,hj] using this
 have hall:∀ q ∈ es.take len ++ fs,q.length = sz:=fun q hq => by
  rcases czv.1 hq with hq | hq
  ·exact htes q hq
  ·exact hfs q hq
 have hall':∀ i,i < (es.take len ++ fs).length → ((es.take len ++ fs).getD i []).length = sz:=fun i hi => by
  refine hall _ ?_
  exact getDL_mem hi
 have hnl:(es.take len ++ fs).length = len + fs.length:=by rw [czc,htl]
 have hflen:=zco sz _ htes
 rw [htl] at hflen
 have hflenb:=zco sz fs hfs
 have hvecT:∀ (τ':Tc) (v:Value),zqS τ' l 0 (len + fs.length) sz (len + fs.length) v → TokOK τ' (st.mem.set l (.vec (es.take len ++ fs) sz (s + 1))) (.vec l (s + 1) 0 (len + fs.length) sz) v:=fun τ' v hv =>
  zhh ⟨_,_,by rw [zaD _ _ _ _ hlt,if_pos rfl],czf _,fun _ => by rw [hnl]; exact hv⟩
 by_cases hf0:fs = []
 ·
  subst hf0
  simp only [czy,Nat.add_zero,List.append_nil] at *
  have hbrr0:brr = #[]:=by
   have:=hbrr.1
   simp at this
   exact Array.eq_empty_of_size_eq_zero (by simpa using this)
  obtain ⟨r1,r2⟩:=h.restamp (s':=s + 1) (es':=es.take len) hl (by omega) (by
   refine ⟨fun i hi => hall' i hi,?_⟩
   rcases ho with ⟨q1,rfl⟩ | ⟨b,c,vs,T,g1,g2,g3,g4,g5,g6,g7⟩
   ·exact .inl ⟨q1,by simp⟩
   ·refine .inr ⟨b,c,vs,T,g1,g2,g3,g4,g5,?_,fun i j hi hj => ?_⟩
    ·rw [htl]; have:len * sz ≤ es.length * sz:=czq sz hle
     omega
    ·rw [htl] at hi
     rw [htg i hi]
     exact g7 i j (by omega) hj)
  refine ⟨.slice ba len cap,w,τ,?_,r1,r2,.vec _ _ _ _ _ _ _ ⟨⟨fun q => ?_,hlc⟩,fun ad q => ?_⟩,hvecT _ _ ⟨ba,cap,rfl,hlc,by omega,hor⟩⟩
  ·subst hbrr0
   simp only [Builtin.append_,List.getElem?_toArray,czD,czS,Sem.run_bind,run_underlying hu0,run_underlying hu1,Result.andThen_ok,zbw hsz0,Sem.run_pure,czp,if_false,hlen,
    czy,Nat.add_zero,hlc,if_true,hloadb,Bool.not_false]
   cases ba with
   | none => simp
   | some q => simp [storeCells]
  ·rcases hor with h0 | ⟨b,c,_,h1,_⟩
   ·omega
   ·rw [h1] at q; cases q
  ·exact hsp ad q
 have hfpos:0 < fs.length:=by
  cases fs with
  | nil => exact absurd rfl hf0
  | cons q r => simp
 have hbs:brr.size = fs.length * sz:=by rw [hbrr.1,hflenb]
 have hbs1:brr1.size = fs.length * sz:=by rw [hbrr1.1,hflenb]
 have hsum:(len + fs.length) * sz = len * sz + fs.length * sz:=Nat.add_mul _ _ _
 by_cases hroom:len + fs.length ≤ cap
 ·
  rcases hor with hor | ⟨b,c,hτ,rfl,hcc⟩
  ·omega
  rw [Nat.zero_add] at hcc
  rcases ho with ⟨ho,_⟩ | ⟨b',c',vs,T,g1,g2,g3,g4,g5,g6,g7⟩
  ·rw [hτ] at ho; cases ho
  rw [hτ] at g1
  cases g1
  have hones:∀ v ∈ brr.toList,v.oneCell' = true:=by
   intro v hv
   obtain ⟨q,hq,rfl⟩:=List.mem_iff_getElem.1 hv
   simp at hq
   have hq':q < fs.flatten.length:=by rw [← hbrr.1]; exact hq
   have h1:=hbrr.2 q hq'
   have h2:brr.toList[q] = brr.getD q Go.undef:=by simp [Array.getD,hq]
   rw [h2]
   refine h1.one ?_
   have h3:fs.flatten.getD q .undef = fs.flatten[q]:=by simp only [List.getD,czw hq',Option.getD_some]
   rw [h3]
   obtain ⟨e',he',hce⟩:=List.mem_flatten.1 (List.getElem_mem hq')
   exact hone e' he' _ hce
  have hcm:(len + fs.length) * sz ≤ cap * sz:=czq sz hroom
  have hrun:=run_storeCells_at (P:=P) b (len * sz) T brr.toList 0 vs w g4 (by simp; omega) hones
  simp only [Nat.add_zero] at hrun
  let vs':Array Value:=(vs.toList.take (len * sz) ++ brr.toList ++ vs.toList.drop (len * sz + brr.toList.length)).toArray
  have hg:∀ i,vs'.getD i Go.undef = if len * sz ≤ i ∧ i < len * sz + fs.length * sz then brr.getD (i - len * sz) Go.undef else vs.getD i Go.undef:=by
   intro i
   simp only [vs',czo,List.getElem?_toArray,czd]
   by_cases h1:i < len * sz
   ·rw [czi (by simp; omega),if_neg (by omega),czR]
    simp [h1]
   ·rw [czj (by simp; omega)]
    simp only [czO,Nat.min_eq_left (show len * sz ≤ vs.toList.length by simp; omega)]
    have hbt:brr.toList.length = fs.length * sz:=by simpa using hbs
    by_cases h2:i < len * sz + fs.length * sz
    ·rw [czi (by omega),if_pos (by omega)]
     simp
    ·rw [czj (by omega),if_neg (by omega),czQ]
     simp only [Array.length_toList,Array.getElem?_toList]
     congr 2
     omega
  have hvs':vs'.size = vs.size:=by simp [vs']; omega
  have hnewrow:=setRow_heap w b vs vs' T (0,0) g4
  have hk':zdN κ (w.setRow b vs'):=by
   refine ⟨fun b' o v hv => ?_,fun b' es' hm => ?_⟩
   ·have hne:b' ≠ b:=fun e => by rw [e,g3] at hv; cases hv
    rw [cell_setRow_other w b vs' ⟨b',o,none⟩ hne]
    exact h.mem.know.c _ _ _ hv
   ·have h1:=h.mem.know.m b' es' hm
    rw [setRow_other _ _ _ _ (fun e => by rw [e,g4] at h1; cases h1)]
    exact h1
  obtain ⟨r1,r2⟩:=h.revec (s':=s + 1) (es':=es.take len ++ fs) (bl:=b) (c:=c) (κ':=κ) (w':=w.setRow b vs') hl (by omega) (Kn.le_refl _) hk'
   ⟨hall',.inr ⟨b,c,vs',T,by simp [zcm],g2,g3,hnewrow,by omega,by rw [hnl]; omega,fun i j hi hj => by
    rw [hnl] at hi
    rw [hg]
    by_cases hil:i < len
    ·have:(i + 1) * sz ≤ len * sz:=czq sz hil
     rw [Nat.add_mul] at this
     rw [if_neg (by omega),ztS (by omega),htg i hil]
     exact g7 i j (by omega) hj
    ·have h6:len * sz ≤ i * sz:=czq sz (by omega)
     have h7:(i + 1) * sz ≤ (len + fs.length) * sz:=czq sz (by omega)
     rw [Nat.add_mul] at h7
     rw [if_pos (by omega),zp0 (by omega),htl]
     have h8:=zdy sz fs hfs (i - len) j (by omega) hj
     have h9:i * sz + j - len * sz = (i - len) * sz + j:=by rw [Nat.sub_mul]; omega
     rw [h9,← h8]
     exact hbrr.2 _ (by
              rw [hflenb]; have:(i - len + 1) * sz ≤ fs.length * sz:=czq sz (by omega)
              rw [Nat.add_mul] at this; omega)⟩⟩
   (fun b' hb' _ => setRow_other _ _ _ _ hb') (fun _ _ _ => rfl) (fun _ => rfl)
   (fun i' b' hi' hb' e' => by subst e'; exact hi' (h.mem.inj i' l b' hb' (by rw [hl]; simp [blk,hτ]))) (h.frm.setRow g2 vs') g2
  refine ⟨.slice (some ⟨b,0 * sz,none⟩) (len + fs.length) cap,w.setRow b vs',_,?_,r1,r2,.vec _ _ _ _ _ _ _ ⟨⟨(by intro q; cases q),hroom⟩,fun ad q => by cases q; rfl⟩,hvecT _ _ ⟨_,cap,rfl,hroom,by omega,.inr ⟨b,c,by simp [zcm],rfl,by rw [Nat.zero_add]; exact hcc⟩⟩⟩
  simp only [Builtin.append_,List.getElem?_toArray,czD,czS,Sem.run_bind,run_underlying hu0,run_underlying hu1,Result.andThen_ok,zbw hsz0,Sem.run_pure,czp,if_false,hlen,
   hroom,if_true,hloadb,Bool.not_false,zcv,Nat.zero_mul,Nat.zero_add,hrun]
  simp [vs']
 ·
  obtain ⟨arr,hload,harr⟩:∃ arr,(Builtin.firstCells sz len (.slice ba len cap)).run P { w with drawn:=w.drawn + 1 } = .ok arr { w with drawn:=w.drawn + 1 } ∧ RepL κ ρ (es.take len).flatten arr:=by
   rcases ho with ⟨q1,_⟩ | ⟨b,c,vs,T,g1,g2,g3,g4,g5,g6,g7⟩
   ·have:=zmt (P:=P) (w:={ w with drawn:=w.drawn + 1 }) (κ:=κ) (ρ:=ρ) (b:=0) (c:=0) (vs:=#[]) (T:=0) hat0 (fun e => by rw [q1] at e; cases e) (fun q e => by rw [q1] at e; cases e) he0
    simpa using this
   ·have:=zmt (P:=P) (w:={ w with drawn:=w.drawn + 1 }) (κ:=κ) (ρ:=ρ) (b:=b) (c:=c) (vs:=vs) (T:=T) hat0 (fun _ => ⟨g4,g5,g7⟩) (fun q e => by rw [g1] at e; cases e; rfl) he0
    simpa using this
  have has:arr.size = len * sz:=by rw [harr.1,hflen]
  have hnc:=zkX (len + fs.length) cap (by omega)
  have hnb:¬ (Builtin.nextslicecap (len + fs.length) cap * i.bytes > 2 ^ 48):=by
   have:=czq i.bytes hnc
   rw [hib] at this ⊢
   omega
  obtain ⟨newCap,hnew,hncle⟩:∃ nc,(choose (.appendCap (len + fs.length) cap e)).run P w = .ok nc { w with drawn:=w.drawn + 1 } ∧ len + fs.length ≤ nc:=by
   refine ⟨_,by simp [Question.forced]; rfl,?_⟩
   simp [Question.cut]
  let row:Array Value:=arr ++ brr1 ++ Builtin.zeroCells zv.cells (newCap - (len + fs.length))
  have hrows:row.size = newCap * sz:=by
   have hz1:zv.cells.size = sz:=by rw [hzr.1,hzl]
   have:newCap = (len + fs.length) + (newCap - (len + fs.length)):=by omega
   simp only [row,Array.size_append,zgO,has,hbs1,hz1]
   conv => rhs; rw [this,Nat.add_mul,hsum]
  have hcm:(len + fs.length) * sz ≤ newCap * sz:=czq sz hncle
  let w2:World:={ w with drawn:=w.drawn + 1,heap:=w.heap.push (.cells row e) }
  have hw2:∀ b',b' ≠ w.heap.size → w2.heap[b']? = w.heap[b']?:=fun b' hb' => zb0 w (.cells row e) b' hb'
  have hw2n:w2.heap[w.heap.size]? = some (.cells row e (0,0)):=zbS w (.cells row e)
  have hκn:∀ o,κ w.heap.size o = none:=Kn.fresh_c h.mem.know
  have hk':zdN κ w2:=by
   refine ⟨fun b' o v hv => ?_,fun b' es' hm => zgD _ (h.mem.know.m b' es' hm)⟩
   have h1:=h.mem.know.c _ _ _ hv
   have h2:=zfC h1
   rw [← h1]
   unfold World.cell?
   rw [hw2 b' (by omega)]
  have hX:¬ X w.heap.size:=fun hb => by have:=h.xlt _ hb; have:=h.frm.size; omega
  obtain ⟨r1,r2⟩:=h.revec (s':=s + 1) (es':=es.take len ++ fs) (bl:=w.heap.size) (c:=row.size) (κ':=κ) (w':=w2) hl (by omega) (Kn.le_refl _) hk'
   ⟨hall',.inr ⟨w.heap.size,row.size,row,e,by simp [zcm],hX,hκn,hw2n,rfl,by rw [hnl]; omega,fun i j hi hj => by
    rw [hnl] at hi
    have h7:(i + 1) * sz ≤ (len + fs.length) * sz:=czq sz (by omega)
    rw [Nat.add_mul] at h7
    simp only [row]
    rw [zdx,if_pos (by simp [has,hbs1]; omega)]
    have hRL:RepL κ ρ (es.take len ++ fs).flatten (arr ++ brr1):=by rw [List.flatten_append]; exact harr.append hbrr1
    have h8:=zdy sz _ hall i j (by rw [hnl]; exact hi) hj
    rw [← h8]
    exact hRL.2 _ (by rw [zco sz _ hall,hnl]; omega)⟩⟩
   (fun b' hb' _ => hw2 b' hb') (fun _ _ _ => rfl) (fun _ => rfl)
   (fun i' b' _ hb' e' => by subst e'; have:=h.mem.blk_lt hb'; omega)
   ⟨h.frm.os,h.frm.tape,h.frm.output,by show _ ≤ (w.heap.push _).size; simp; have:=h.frm.size; omega,fun b' hb' => by rw [hw2 b' (by have:=h.xlt b' hb'; have:=h.frm.size; omega)]; exact h.frm.block b' hb'⟩ hX
  refine ⟨.slice (some ⟨w.heap.size,0,none⟩) (len + fs.length) newCap,w2,_,?_,r1,r2,.vec _ _ _ _ _ _ _ ⟨⟨(by intro q; cases q),hncle⟩,fun ad q => by cases q; rfl⟩,hvecT _ _ ⟨_,newCap,rfl,hncle,by omega,.inr ⟨w.heap.size,row.size,by simp [zcm],by simp,by rw [Nat.zero_add]; omega⟩⟩⟩
  have hbz:¬ (i.bytes = 0):=by omega
  simp only [Builtin.append_,List.getElem?_toArray,czD,czS,Sem.run_bind,run_underlying hu0,run_underlying hu1,Result.andThen_ok,zbw hsz0,Sem.run_pure,czp,if_false,hlen,
   hroom,Bool.not_false,run_typeInfo w hi,hbz,or_self,and_false,hnb,hnew,run_typeInfo { w with drawn:=w.drawn + 1 } hi,run_askRoom,hload,hloadb1,if_true,hzv]
  simp [newRow,row,w2]
  exact ⟨rfl,rfl,rfl⟩
theorem zt6 {o:Oper} {args:Array Operand} {ts:Array TypeId} {K:St → Prop} (h:Rel X w0 m0 κ ρ τ st a w)
  (ho:o.op = .call { callee:=.builtin .copy,args:=args,argTypes:=ts }) (hK:ze2 P o K st):zsO P X w0 m0 κ ρ τ st a w o K:=by
 unfold ze2 at hK
 rw [ho] at hK
 dsimp only at hK
 split at hK
 ·rename_i d s t0 t1 hargs hts
  have hxa:args = #[d,s]:=by rw [← Array.toList_inj]; exact hargs
  subst hxa
  have hta:ts = #[t0,t1]:=by rw [← Array.toList_inj]; exact hts
  subst hta
  split at hK
  ·rename_i l off len sz es tk e sz' hdv hsv hsl
   split at hK
   ·rename_i cs hl
    obtain ⟨had,has,hd,rfl,hes,hone,hfit,hk⟩:=hK
    obtain ⟨hu,hsz⟩:=zcn hsl
    have rd:=(h.ev d).un had
    rw [hdv] at rd
    have rs:=(h.ev s).un has
    rw [hsv] at rs
    obtain ⟨n,hn⟩:∃ n,n = Nat.min es.length len:=⟨_,rfl⟩
    have hnl:n ≤ len:=by rw [hn]; exact Nat.min_le_right _ _
    have hne:n ≤ es.length:=by rw [hn]; exact Nat.min_le_left _ _
    have htake:es.take len = es.take n:=by
     by_cases hq:es.length ≤ len
     ·have:n = es.length:=by rw [hn]; exact Nat.min_eq_left hq
      rw [this,cze hq,cze (czf _)]
     ·have:n = len:=by rw [hn]; exact Nat.min_eq_right (by omega)
      rw [this]
    have hes':∀ q ∈ es.take n,q.length = sz:=fun q hq => hes q (List.mem_of_mem_take hq)
    have hlt:(es.take n).length = n:=by rw [czO]; omega
    have hsrc:∃ arr,(Builtin.firstCells sz n (a.eval s)).run P w = .ok arr w ∧ RepL κ ρ (es.take n).flatten arr ∧ (Builtin.lenOf (a.eval s)).run P w = .ok es.length w:=by
     generalize a.eval s = xs at rs
     cases rs with
     | slnil =>
      obtain rfl:n = 0:=by simpa using hne
      exact ⟨#[],rfl,⟨rfl,fun i hi => by simp at hi⟩,rfl⟩
     | sl _ _ b o' cap sz0 val q1 q2 q3 q4 q5 =>
      have hrep:Rep κ ρ (.sl (es.take n) .no) (.slice (some ⟨b,o',none⟩) (es.take n).length cap) :=
       .sl _ _ b o' cap sz0 val (fun i hi => by rw [hlt] at hi; have:=q1 i (by omega); simpa [List.getD,czR,hi] using this)
        (fun i j hi hj => q2 i j (by rw [hlt] at hi; omega) hj) (fun i j hi hj => by rw [hlt] at hi; have:=q3 i j (by omega) hj; simpa [List.getD,czR,hi] using this)
        (fun e => by cases e) (by rw [hlt]; omega)
      obtain ⟨arr,k1,k2,_,_⟩:=ziZ (P:=P) h.mem.know hrep hes'
      rw [hlt] at k1
      exact ⟨arr,by simpa [Builtin.firstCells] using k1,k2,rfl⟩
    obtain ⟨arr,k1,k2,k3⟩:=hsrc
    have hfl:=zco sz _ hes'
    rw [hlt] at hfl
    have hms:n * sz ≤ len * sz:=czq sz hnl
    obtain ⟨b,cap,hb,hdv',hcap⟩:∃ b cap,ρ l = some b ∧ a.eval d = .slice (some ⟨b,off,none⟩) len cap ∧ len ≤ cap:=by
     generalize a.eval d = xd at rd
     cases rd with
     | arr _ _ _ _ b cap hb hcap => exact ⟨b,cap,hb,rfl,hcap⟩
    ·skip
     have hones:∀ c ∈ (es.take n).flatten,c.one = true ∧ c.strip = c:=fun c hc => by
      obtain ⟨q,hq,hcq⟩:=List.mem_flatten.1 hc
      exact hone q (List.mem_of_mem_take hq) c hcq
     obtain ⟨w',r1,r2,r3⟩:=zkG (P:=P) (off:=off) h hb hl k2 (fun c hc => (hones c hc).1) (by omega) (fun i => by
      by_cases hi:i < (es.take n).flatten.length
      ·have h1:(es.take n).flatten.getD i .undef ∈ (es.take n).flatten:=by
        simp only [List.getD,czw hi,Option.getD_some]
        exact List.getElem_mem hi
       rw [← (hones _ h1).2]
       exact TokOK.strip _
      ·rw [show (es.take n).flatten.getD i .undef = .undef by simp only [List.getD,czB (czE hi),Option.getD_none]]
       exact zaO rfl)
     rw [htake,← hn] at hk
     refine ⟨.value (goInt n),goInt n,w',κ,ρ,τ,_,?_,.inl rfl,r2.putV (d:=o.dst) (Grow.refl r2.mem.know) hd (.int .i64 n) (zaO rfl),r3,hk⟩
     have hrun:(Builtin.copy_ #[t0,t1] o.type #[a.eval d,a.eval s]).run P w = .ok (goInt n) w':=by
      rw [hdv']
      simp only [Builtin.copy_,List.getElem?_toArray,czD,czS,Sem.run_bind,run_underlying hu,Result.andThen_ok,k3,← hn,zbw hsz,k1,r1,Sem.run_pure]
     simp [execOp,ho,resolve,invoke,builtin,hrun]
   ·exact hK.elim
  ·exact hK.elim
 ·exact hK.elim
theorem zjT (es:List (List AV)) (off len:Nat) (z:List AV) (h:off + len ≤ es.length) (i:Nat) :
  (zgo es off len z).getD i [] = if off ≤ i ∧ i < off + len then z else es.getD i []:=by
 unfold zgo
 simp only [List.getD,czd]
 by_cases h1:i < off
 ·rw [czi (by simp; omega),if_neg (by omega),czR]
  simp [h1]
 ·rw [czj (by simp; omega),czO,Nat.min_eq_left (by omega)]
  by_cases h2:i < off + len
  ·rw [czi (by simp; omega),if_pos (by omega)]
   simp [show i - off < len by omega]
  ·rw [czj (by simp; omega),if_neg (by omega),czQ]
   simp only [List.length_replicate]
   congr 2
   omega
theorem zfv (es:List (List AV)) (off len:Nat) (z:List AV) (h:off + len ≤ es.length):(zgo es off len z).length = es.length:=by
 unfold zgo; simp; omega
theorem zqn {o:Oper} {args:Array Operand} {ts:Array TypeId} {K:St → Prop} (h:Rel X w0 m0 κ ρ τ st a w)
  (ho:o.op = .call { callee:=.builtin .clear,args:=args,argTypes:=ts }) (hK:ze2 P o K st):zsO P X w0 m0 κ ρ τ st a w o K:=by
 unfold ze2 at hK
 rw [ho] at hK
 dsimp only at hK
 split at hK
 ·rename_i d t0 hargs hts
  have hxa:args = #[d]:=by rw [← Array.toList_inj]; exact hargs
  subst hxa
  have hta:ts = #[t0]:=by rw [← Array.toList_inj]; exact hts
  subst hta
  split at hK
  ·rename_i l s off len sz e sz' hdv hsl
   split at hK
   ·rename_i es sz1 s1 z hl hz
    obtain ⟨had,hd,rfl,rfl,rfl,hzl,hs0,hone,hk⟩:=hK
    obtain ⟨hu,hsz⟩:=zcn hsl
    have rt:=(h.evTok d).un had
    have rr:=(h.ev d).un had
    rw [hdv] at rt rr
    obtain ⟨es',s',k1,_,k3⟩:=rt.vec l s off len sz1 rfl trivial
    rw [hl] at k1
    cases k1
    obtain ⟨ad,cap,hx,hlc,hoff,hcase⟩:=k3 rfl
    have hlt:l < st.mem.length:=zbX hl (by simp)
    by_cases hl0:len = 0
    ·subst hl0
     have hce:zgo es off 0 z = es:=by unfold zgo; simp
     have hset:st.mem.set l (AObj.vec (zgo es off 0 z) sz1 s) = st.mem:=by
      rw [hce,← hl]
      apply List.ext_getElem
      ·simp
      ·intro i h1 h2
       rw [List.getElem_set]
       split
       ·rename_i q; subst q; simp [zaa,List.getD,h2]
       ·rfl
     rw [hset] at hk
     refine ⟨.value (.tuple #[]),.tuple #[],w,κ,ρ,τ,_,?_,.inl rfl,h.putV (d:=o.dst) (Grow.refl h.mem.know) hd (.tup [] #[] rfl (fun i hi => by simp at hi)) (zaO rfl),Ext.refl _ _ _ _ _,hk⟩
     have hrun:(Builtin.clear_ #[t0] o.type #[a.eval d]).run P w = .ok (.tuple #[]) w:=by
      rw [hx]
      cases ad <;> simp [Builtin.clear_,Sem.run_bind,run_underlying hu]
     simp [execOp,ho,resolve,invoke,builtin,hrun]
    ·rcases hcase with hcase | ⟨b,c,hτ,rfl,hcap⟩
     ·omega
     have hob:=h.mem.obj l
     rw [hl] at hob
     obtain ⟨e0,hob⟩:=hob
     rcases hob with ⟨hob,_⟩ | ⟨b',c',vs,T,g1,g2,g3,g4,g5,g6,g7⟩
     ·rw [hτ] at hob; cases hob
     rw [hτ] at g1
     cases g1
     obtain ⟨zv,hzv,hrow⟩:=ziq (P:=P) (w:=w) (κ:=κ) (ρ:=ρ) (n:=len) hz hzl hs0
     have hzs:zv.cells.size = sz1:=by
      obtain ⟨zv',hzv',hzr⟩:=zei (P:=P) (w:=w) (κ:=κ) (ρ:=ρ) hz
      rw [hzv] at hzv'
      cases hzv'
      rw [hzr.1,hzl]
     obtain ⟨row,hrowe⟩:∃ row,Builtin.zeroCells zv.cells len = row:=⟨_,rfl⟩
     have hrow2:RepL κ ρ (zb9 z len) row:=by rw [← hrowe]; unfold Builtin.zeroCells; rw [hzs]; rw [hzs] at hrow; exact hrow
     have hrs:row.size = len * sz1:=by rw [hrow2.1,zbs,hzl]
     have hmul:off * sz1 + len * sz1 ≤ es.length * sz1:=by rw [← Nat.add_mul]; exact czq sz1 hoff
     have hones:∀ v ∈ row.toList,v.oneCell' = true:=by
      intro u hv
      obtain ⟨j,hj,rfl⟩:=List.mem_iff_getElem.1 hv
      simp at hj
      have hj2:j < (zb9 z len).length:=by rw [← hrow2.1]; exact hj
      have h1:=hrow2.2 j hj2
      have h2:row.toList[j] = row.getD j Go.undef:=by simp [Array.getD,hj]
      rw [h2]
      refine h1.one ?_
      rw [zcV z (by omega) len j (by rw [zbs] at hj2; exact hj2)]
      refine hone _ ?_
      have:j % z.length < z.length:=Nat.mod_lt _ (by omega)
      simp [List.getD,this]
     have hrun:=run_storeCells_at (P:=P) b (off * sz1) T row.toList 0 vs w g4 (by simp; omega) hones
     simp only [Nat.add_zero] at hrun
     let vs':Array Value:=(vs.toList.take (off * sz1) ++ row.toList ++ vs.toList.drop (off * sz1 + row.toList.length)).toArray
     have hg:∀ k,vs'.getD k Go.undef = if off * sz1 ≤ k ∧ k < off * sz1 + len * sz1 then row.getD (k - off * sz1) Go.undef else vs.getD k Go.undef:=by
      intro k
      simp only [vs',czo,List.getElem?_toArray,czd]
      by_cases h1:k < off * sz1
      ·rw [czi (by simp; omega),if_neg (by omega),czR]
       simp [h1]
      ·rw [czj (by simp; omega)]
       simp only [czO,Nat.min_eq_left (show off * sz1 ≤ vs.toList.length by simp; omega)]
       by_cases h2:k < off * sz1 + len * sz1
       ·rw [czi (by simp; omega),if_pos (by omega)]
        simp
       ·rw [czj (by simp; omega),if_neg (by omega),czQ]
        simp only [Array.length_toList,Array.getElem?_toList]
        congr 2
        omega
     have hvs':vs'.size = vs.size:=by simp [vs']; omega
     obtain ⟨r1,r2⟩:=h.setVec (es':=zgo es off len z) hl hτ g4 hvs' (zfv _ _ _ _ hoff) (fun j hj => by
       rw [zfv _ _ _ _ hoff] at hj
       rw [zjT _ _ _ _ hoff]
       split
       ·exact hzl
       ·exact e0 j hj) (fun j k hj hk => by
       rw [zfv _ _ _ _ hoff] at hj
       rw [zjT _ _ _ _ hoff,hg]
       by_cases e:off ≤ j ∧ j < off + len
       ·have h1:off * sz1 ≤ j * sz1:=czq sz1 e.1
        have h2:(j + 1) * sz1 ≤ (off + len) * sz1:=czq sz1 e.2
        rw [Nat.add_mul,Nat.add_mul] at h2
        rw [if_pos e,if_pos (by omega)]
        have h3:j * sz1 + k - off * sz1 = (j - off) * sz1 + k:=by rw [Nat.sub_mul]; omega
        have h4:(j - off) * sz1 + k < len * z.length:=by
         rw [hzl,Nat.sub_mul]; omega
        have h5:=hrow2.2 ((j - off) * sz1 + k) (by rw [zbs]; exact h4)
        rw [zcV z (by omega) len _ h4,hzl,Nat.mul_comm,Nat.mul_add_mod,Nat.mod_eq_of_lt hk,Nat.mul_comm] at h5
        rw [h3]
        exact h5
       ·rw [if_neg e]
        have hne:¬ (off * sz1 ≤ j * sz1 + k ∧ j * sz1 + k < off * sz1 + len * sz1):=by
         rcases Nat.lt_or_ge j off with q | q
         ·have:(j + 1) * sz1 ≤ off * sz1:=czq sz1 q
          rw [Nat.add_mul] at this; omega
         ·have:(off + len) * sz1 ≤ j * sz1:=czq sz1 (by omega)
          rw [Nat.add_mul] at this; omega
        rw [if_neg hne]
        exact g7 j k hj hk)
     refine ⟨.value (.tuple #[]),.tuple #[],_,κ,ρ,τ,_,?_,.inl rfl,r1.putV (d:=o.dst) (Grow.refl r1.mem.know) hd (.tup [] #[] rfl (fun i hi => by simp at hi)) (zaO rfl),r2,hk⟩
     have hn0:∃ m,len = m + 1:=⟨len - 1,by omega⟩
     obtain ⟨m,rfl⟩:=hn0
     have hrun2:(Builtin.clear_ #[t0] o.type #[a.eval d]).run P w = .ok (.tuple #[]) (w.setRow b vs'):=by
      rw [hx]
      simp only [Builtin.clear_,List.getElem?_toArray,czD,Sem.run_bind,run_underlying hu,Result.andThen_ok,hzv,hrowe,hrun,Sem.run_pure]
      rfl
     simp [execOp,ho,resolve,invoke,builtin,hrun2]
   ·exact hK.elim
  ·exact hK.elim
 ·exact hK.elim
end
end Go.Fs
namespace Go.Fs
open Go.RowKit (Below)
theorem zbu (f:AV → AV) (cs:List AV) (i:Nat) (h:i < cs.length):(cs.map f).getD i .undef = f (cs.getD i .undef):=by
 simp [List.getD,h]
theorem zfd (f:List AV → List AV) (es:List (List AV)) (i:Nat) (h:i < es.length):(es.map f).getD i [] = f (es.getD i []):=by
 simp [List.getD,h]
theorem zbV {cs:List AV} {i:Nat} (h:i < cs.length):cs.getD i .undef ∈ cs:=by
 simp [List.getD,h]
theorem zjG {es:List (List AV)} {i:Nat} (h:i < es.length):es.getD i [] ∈ es:=by
 simp [List.getD,h]
section
variable {P:Program} {X:Nat → Prop} {w0:W0} {w w':World} {m0:Nat} {κ κ':Kn} {ρ:Lc} {τ:Tc} {st:St} {a:Act}
def VecKn (κ κ':Kn) (ρ:Lc) (τ:Tc) (mem:List AObj):Prop :=
 ∀ l es sz s b c,zaa mem l = .vec es sz s → τ l = some (b,c) → (∀ i,i < es.length → (es.getD i []).length = sz) ∧ ∃ vs:Array Value,vs.size = c ∧ es.length * sz ≤ c ∧
  (∀ i j,i < es.length → j < sz → Rep κ ρ ((es.getD i []).getD j .undef) (vs.getD (i * sz + j) Go.undef)) ∧ ∀ o,o < vs.size → κ' b o = some (vs.getD o Go.undef)
theorem zf0 {mem M:List AObj} {f:AV → AV} (hMv:∀ l es sz s,zaa M l = .vec es sz s → zaa mem l = .vec es sz s) (hv:VecKn κ κ' ρ τ M) (hf:∀ {v x},Rep κ ρ v x → Rep κ' noLc (f v) x) {v:AV} {x:Value} (h:Rep κ ρ v x) (ht:TokOK τ mem v x):Rep κ' noLc (zbW f M v) x:=by
 cases h with
 | vec l s off len sz a cap hnl =>
  simp only [zbW]
  split
  ·rename_i es sz' s' hm
   split
   ·rename_i e
    subst e
    obtain ⟨es',s'',k1,_,k3⟩:=ht.vec l s off len sz rfl trivial
    rw [hMv _ _ _ _ hm] at k1
    cases k1
    obtain ⟨a',cap',q1,q2,q3,q4⟩:=k3 rfl
    cases q1
    have hlt:((es.drop off).take len).length = len:=by simp; omega
    have hget:∀ i,i < len → ((es.drop off).take len).getD i [] = es.getD (off + i) []:=fun i hi => by simp [List.getD,hi]
    by_cases hl0:len = 0
    ·subst hl0
     simp only [List.take_zero,List.map_nil]
     cases a with
     | none =>
      rcases q4 with rfl | ⟨b,c,_,q,_⟩
      ·exact .slnil _
      ·cases q
     | some ad =>
      obtain ⟨b,o,sp⟩:=ad
      have hsp:=hnl.2 _ rfl
      simp only at hsp
      subst hsp
      rcases q4 with rfl | ⟨b',c,r1,r2,r3⟩
      ·exact .sl [] .no _ _ _ 0 (fun _ _ => Go.undef) (fun i hi => by simp at hi) (fun i j hi => by simp at hi) (fun i j hi => by simp at hi) (fun e => by cases e) (Nat.zero_le _)
      ·cases r2
       exact .sl [] .no _ _ _ 0 (fun _ _ => Go.undef) (fun i hi => by simp at hi) (fun i j hi => by simp at hi) (fun i j hi => by simp at hi) (fun e => by cases e) (Nat.zero_le _)
    rcases q4 with q4 | ⟨b,c,r1,rfl,r3⟩
    ·omega
    obtain ⟨g0,vs,g1,g2,g3,g4⟩:=hv l es sz s b c hm r1
    have:=Rep.sl (κ:=κ') (ρ:=noLc) (((es.drop off).take len).map fun e => e.map f) .no b (off * sz) cap sz (fun i j => vs.getD ((off + i) * sz + j) Go.undef)
     (fun i hi => by
      have hi':i < len:=by rw [czz,hlt] at hi; exact hi
      rw [zfd _ _ _ (by rw [hlt]; exact hi'),hget i hi']
      simpa using g0 (off + i) (by omega))
     (fun i j hi hj => by
      have hi':i < len:=by rw [czz,hlt] at hi; exact hi
      have h1:(off + i + 1) * sz ≤ es.length * sz:=czq sz (by omega)
      rw [Nat.add_mul] at h1
      rw [← Nat.add_mul]
      exact g4 _ (by omega))
     (fun i j hi hj => by
      have hi':i < len:=by rw [czz,hlt] at hi; exact hi
      rw [zfd _ _ _ (by rw [hlt]; exact hi'),hget i hi',zbu _ _ _ (by rw [g0 _ (by omega)]; exact hj)]
      exact hf (g3 _ _ (by omega) hj))
     (fun e => by cases e) (by simp; omega)
    rw [czz,hlt] at this
    exact this
   ·exact .undef _
  ·exact .undef _
 | vp l s i off ad =>
  simp only [zbW]
  split
  ·rename_i es sz' s' hm
   split
   ·rename_i e
    subst e
    obtain ⟨es',sz,s'',k1,_,k3⟩:=ht.vp l s i off rfl trivial
    rw [hMv _ _ _ _ hm] at k1
    cases k1
    obtain ⟨b,c,r1,r2,r3⟩:=k3 rfl
    cases r3
    obtain ⟨g0,vs,g1,g2,g3,g4⟩:=hv l es _ s b c hm r1
    refine .ref _ off b (i * sz') (fun j => vs.getD (i * sz' + j) Go.undef) (fun j hj => ?_) (fun j hj => ?_)
    ·rw [czz,g0 i r2] at hj
     have h1:(i + 1) * sz' ≤ es.length * sz':=czq sz' r2
     rw [Nat.add_mul] at h1
     exact g4 _ (by omega)
    ·rw [czz] at hj
     rw [zbu _ _ _ hj]
     rw [g0 i r2] at hj
     exact hf (g3 i j r2 hj)
   ·exact .undef _
  ·exact .undef _
 | undef x => exact hf (.undef x)
 | int k n => exact hf (.int k n)
 | bool b => exact hf (.bool b)
 | nilp => exact hf .nilp
 | nilf => exact hf .nilf
 | agg cs vs hs h => exact hf (.agg cs vs hs h)
 | tup cs vs hs h => exact hf (.tup cs vs hs h)
 | slnil tk => exact hf (.slnil tk)
 | sl es tk b o cap sz val hsz hk h ht' hcap => exact hf (.sl es tk b o cap sz val hsz hk h ht' hcap)
 | ref es off b o val hk h => exact hf (.ref es off b o val hk h)
 | ptr l off b hl => exact hf (.ptr l off b hl)
 | arr l off len sz b cap hl hcap => exact hf (.arr l off len sz b cap hl hcap)
 | fn f fst cap vs ws h1 h2 h3 h4 => exact hf (.fn f fst cap vs ws h1 h2 h3 h4)
 | mpr ks vs b es hm hl hs hk h => exact hf (.mpr ks vs b es hm hl hs hk h)
 | mp l b hl => exact hf (.mp l b hl)
 | yld l b hl => exact hf (.yld l b hl)
 | onlyIf g v x h h0 => exact hf (.onlyIf g v x h h0)
theorem zlx {mem M:List AObj} (hMv:∀ l es sz s,zaa M l = .vec es sz s → zaa mem l = .vec es sz s) (hle:κ.le κ')
  (hc:∀ l cs b,zaa M l = .cells cs → ρ l = some b → ∃ vs:Array Value,vs.size = cs.length ∧ (∀ i,i < cs.length → Rep κ ρ (cs.getD i .undef) (vs.getD i Go.undef) ∧ TokOK τ mem (cs.getD i .undef) (vs.getD i Go.undef)) ∧ ∀ o,o < vs.size → κ' b o = some (vs.getD o Go.undef))
  (hv:VecKn κ κ' ρ τ M)
  (hcm:∀ l ks vs b,zaa M l = .map ks vs → ρ l = some b → ∃ es,RepMap κ ρ ks vs es ∧ κ'.m b = some es) :
  ∀ (n:Nat) {v:AV} {x:Value},Rep κ ρ v x → Rep κ' noLc (zb5 n M v) x
 | 0,v,x,_ => .undef x
 | n + 1,v,x,h => by
  have ih:∀ {v:AV} {x:Value},Rep κ ρ v x → Rep κ' noLc (zb5 n M v) x:=fun h => zlx hMv hle hc hv hcm n h
  cases h with
  | undef x => exact .undef x
  | int k n => exact .int k n
  | bool b => exact .bool b
  | nilp => exact .nilp
  | nilf => exact .nilf
  | agg cs vs hs h =>
   exact .agg _ _ (by simpa using hs) (fun i hi => by rw [zbu _ _ _ (by simpa using hi)]; exact ih (h i (by simpa using hi)))
  | tup cs vs hs h =>
   exact .tup _ _ (by simpa using hs) (fun i hi => by rw [zbu _ _ _ (by simpa using hi)]; exact ih (h i (by simpa using hi)))
  | slnil tk => exact .slnil _
  | sl es tk b o cap sz val hsz hk h ht hcap =>
   have:=Rep.sl (κ:=κ') (ρ:=noLc) (es.map fun e => e.map (zb5 n M)) .no b o cap sz val
    (fun i hi => by rw [zfd _ _ _ (by simpa using hi)]; simpa using hsz i (by simpa using hi))
    (fun i j hi hj => hle.c _ _ _ (hk i j (by simpa using hi) hj))
    (fun i j hi hj => by
     have hi':i < es.length:=by simpa using hi
     rw [zfd _ _ _ hi',zbu _ _ _ (by rw [hsz i hi']; exact hj)]
     exact ih (h i j hi' hj))
    (fun e => by cases e) (by simpa using hcap)
   simpa [zb5] using this
  | ref es off b o val hk h =>
   exact .ref _ off b o val (fun j hj => hle.c _ _ _ (hk j (by simpa using hj))) (fun j hj => by rw [zbu _ _ _ (by simpa using hj)]; exact ih (h j (by simpa using hj)))
  | ptr l off b hl =>
   unfold zb5
   split
   ·rename_i cs hm
    obtain ⟨vs,h1,h2,h3⟩:=hc l cs b hm hl
    have:=Rep.ref (κ:=κ') (ρ:=noLc) (cs.map (zbW (zb5 n M) M)) off b 0 (fun j => vs.getD j Go.undef)
     (fun j hj => by rw [Nat.zero_add]; exact h3 j (by rw [h1]; simpa using hj)) (fun j hj => by rw [zbu _ _ _ (by simpa using hj)]; exact zf0 hMv hv ih (h2 j (by simpa using hj)).1 (h2 j (by simpa using hj)).2)
    simpa using this
   ·exact .undef _
  | arr l off len sz b cap hl hcap =>
   unfold zb5
   split
   ·rename_i cs hm
    split
    ·rename_i hfit
     obtain ⟨vs,h1,h2,h3⟩:=hc l cs b hm hl
     have hlen:=zel sz len ((cs.drop off).map (zbW (zb5 n M) M))
     have hij:∀ i j,i < len → j < sz → off + (i * sz + j) < cs.length:=fun i j hi hj => by
      have:(i + 1) * sz ≤ len * sz:=czq sz (by omega)
      rw [Nat.add_mul] at this
      omega
     have:=Rep.sl (κ:=κ') (ρ:=noLc) (zc4 sz len ((cs.drop off).map (zbW (zb5 n M) M))) .no b off cap sz (fun i j => vs.getD (off + (i * sz + j)) Go.undef)
      (fun i hi => by
       rw [hlen] at hi
       rw [zdr _ _ _ _ hi]
       have:(i + 1) * sz ≤ len * sz:=czq sz (by omega)
       rw [Nat.add_mul] at this
       simp
       omega)
      (fun i j hi hj => by
       rw [hlen] at hi
       have:=hij i j hi hj
       rw [Nat.add_assoc]
       exact h3 _ (by omega))
      (fun i j hi hj => by
       rw [hlen] at hi
       have:=hij i j hi hj
       rw [zdr _ _ _ _ hi,zeY _ _ _ _ hj,zbu _ _ _ (by simp; omega)]
       have e:(cs.drop off).getD (i * sz + j) .undef = cs.getD (off + (i * sz + j)) .undef:=by simp [List.getD]
       rw [e]
       exact zf0 hMv hv ih (h2 _ this).1 (h2 _ this).2)
      (fun e => by cases e) (by rw [hlen]; exact hcap)
     rw [hlen] at this
     exact this
    ·exact .undef _
   ·exact .undef _
  | fn f fst cap vs ws h1 h2 h3 h4 =>
   exact .fn f _ _ vs ws (by simpa using h1) (by simpa using h2) (fun i hi => by rw [zbu _ _ _ (by simpa using hi)]; exact ih (h3 i (by simpa using hi)))
    (fun i hi => by rw [zbu _ _ _ (by simpa using hi)]; exact ih (h4 i (by simpa using hi)))
  | mpr ks vs b es hm hl hs hk h =>
   exact .mpr _ _ b es (hle.m _ _ hm) (by simpa using hl) hs hk (fun i hi => by rw [zbu _ _ _ (by omega)]; exact ih (h i hi))
  | mp l b hl =>
   unfold zb5
   split
   ·rename_i ks vs hm
    obtain ⟨es,h1,h2⟩:=hcm l ks vs b hm hl
    exact .mpr _ _ b es h2 (by simpa using h1.1) h1.2.1 h1.2.2.1 (fun i hi => by rw [zbu _ _ _ (by have:=h1.1; omega)]; exact ih (h1.2.2.2 i hi))
   ·exact .undef _
  | yld l b hl => exact .undef _
  | onlyIf g v x h h0 => exact .undef _
  | vec l s off len sz a cap h => exact .undef _
  | vp l s i off a => exact .undef _
theorem zhl {mem:List AObj}:∀ (n:Nat) {v:AV} {x:Value},imm n v → Rep κ ρ v x → Rep κ noLc (zb5 n mem v) x
 | 0,v,x,hi,_ => by simp [imm] at hi
 | n + 1,v,x,hi,h => by
  have ih:∀ {v:AV} {x:Value},imm n v → Rep κ ρ v x → Rep κ noLc (zb5 n mem v) x:=fun hi h => zhl n hi h
  cases h with
  | undef x => exact .undef x
  | int k n => exact .int k n
  | bool b => exact .bool b
  | nilp => exact .nilp
  | nilf => exact .nilf
  | agg cs vs hs h =>
   simp only [imm] at hi
   exact .agg _ _ (by simpa using hs) (fun i hl => by rw [zbu _ _ _ (by simpa using hl)]; exact ih (hi _ (zbV (by simpa using hl))) (h i (by simpa using hl)))
  | tup cs vs hs h =>
   simp only [imm] at hi
   exact .tup _ _ (by simpa using hs) (fun i hl => by rw [zbu _ _ _ (by simpa using hl)]; exact ih (hi _ (zbV (by simpa using hl))) (h i (by simpa using hl)))
  | slnil tk => exact .slnil _
  | sl es tk b o cap sz val hsz hk h ht hcap =>
   simp only [imm] at hi
   have:=Rep.sl (κ:=κ) (ρ:=noLc) (es.map fun e => e.map (zb5 n mem)) .no b o cap sz val
    (fun i hl => by rw [zfd _ _ _ (by simpa using hl)]; simpa using hsz i (by simpa using hl))
    (fun i j hl hj => hk i j (by simpa using hl) hj)
    (fun i j hl hj => by
     have hl':i < es.length:=by simpa using hl
     have hj':j < (es.getD i []).length:=by rw [hsz i hl']; exact hj
     rw [zfd _ _ _ hl',zbu _ _ _ hj']
     exact ih (hi _ (zjG hl') _ (zbV hj')) (h i j hl' hj))
    (fun e => by cases e) (by simpa using hcap)
   simpa [zb5] using this
  | ref es off b o val hk h =>
   simp only [imm] at hi
   exact .ref _ off b o val (fun j hj => hk j (by simpa using hj)) (fun j hj => by rw [zbu _ _ _ (by simpa using hj)]; exact ih (hi _ (zbV (by simpa using hj))) (h j (by simpa using hj)))
  | ptr l off b hl => simp [imm] at hi
  | arr l off len sz b cap hl hcap => simp [imm] at hi
  | fn f fst cap vs ws h1 h2 h3 h4 =>
   simp only [imm] at hi
   exact .fn f _ _ vs ws (by simpa using h1) (by simpa using h2) (fun i hl => by rw [zbu _ _ _ (by simpa using hl)]; exact ih (hi.1 _ (zbV (by simpa using hl))) (h3 i (by simpa using hl)))
    (fun i hl => by rw [zbu _ _ _ (by simpa using hl)]; exact ih (hi.2 _ (zbV (by simpa using hl))) (h4 i (by simpa using hl)))
  | mpr ks vs b es hm hl hs hk h =>
   simp only [imm] at hi
   exact .mpr _ _ b es hm (by simpa using hl) hs hk (fun i hl' => by rw [zbu _ _ _ (by omega)]; exact ih (hi _ (zbV (by omega))) (h i hl'))
  | mp l b hl => simp [imm] at hi
  | yld l b hl => simp [imm] at hi
  | onlyIf g v x h h0 => simp [imm] at hi
  | vec l s off len sz a cap h => simp [imm] at hi
  | vp l s i off a => simp [imm] at hi
theorem zru {ρ':Lc}:∀ (n:Nat) {v:AV} {x:Value},ziM n v → Rep κ ρ v x → Rep κ' ρ' v x
 | 0,v,x,hi,_ => by simp [ziM] at hi
 | n + 1,v,x,hi,h => by
  have ih:∀ {v:AV} {x:Value},ziM n v → Rep κ ρ v x → Rep κ' ρ' v x:=fun hi h => zru n hi h
  cases h with
  | undef x => exact .undef x
  | int k n => exact .int k n
  | bool b => exact .bool b
  | nilp => exact .nilp
  | nilf => exact .nilf
  | agg cs vs hs h =>
   simp only [ziM] at hi
   exact .agg _ _ hs (fun i hl => ih (hi _ (zbV hl)) (h i hl))
  | tup cs vs hs h =>
   simp only [ziM] at hi
   exact .tup _ _ hs (fun i hl => ih (hi _ (zbV hl)) (h i hl))
  | slnil tk => simp [ziM] at hi
  | sl es tk b o cap sz val hsz hk h ht hcap => simp [ziM] at hi
  | ref es off b o val hk h => simp [ziM] at hi
  | ptr l off b hl => simp [ziM] at hi
  | arr l off len sz b cap hl hcap => simp [ziM] at hi
  | fn f fst cap vs ws h1 h2 h3 h4 => simp [ziM] at hi
  | mpr ks vs b es hm hl hs hk h => simp [ziM] at hi
  | mp l b hl => simp [ziM] at hi
  | yld l b hl => simp [ziM] at hi
  | onlyIf g v x h h0 => simp [ziM] at hi
  | vec l s off len sz a cap h => simp [ziM] at hi
  | vp l s i off a => simp [ziM] at hi
def zfc (w:World):Kn:=⟨fun b o => w.cell? ⟨b,o,none⟩,fun b => match w.heap[b]? with
 | some (.map es n) => if n = es.size then some es else none
 | _ => none⟩
theorem zeB (w:World):zdN (zfc w) w:=⟨fun _ _ _ h => h,fun b es h => by
 simp only [zfc] at h
 split at h
 ·rename_i es' n hh
  split at h
  ·rename_i e
   cases h
   rw [hh,e]
  ·cases h
 ·cases h⟩
theorem zlU (h:zdN κ w):κ.le (zfc w):=⟨h.c,fun b es hb => by
 simp only [zfc,h.m b es hb,if_true]⟩
def zdq:AObj → Bool
 | .cells _ => true
 | .map _ _ => true
 | .iter _ _ _ => true
 | .vec _ _ _ => true
 | _ => false
theorem RelM.vecKn {mem M:List AObj} (hm:RelM κ ρ τ X mem w) (hM:∀ l,zdq (zaa M l) = true → zaa mem l = zaa M l):VecKn κ (zfc w) ρ τ M:=fun l es sz s b c hl hb => by
 have ho:=hm.obj l
 rw [hM l (by rw [hl]; rfl),hl] at ho
 obtain ⟨h0,h1⟩:=ho
 rcases h1 with ⟨h1,_⟩ | ⟨b',c',vs,T,g1,_,_,g4,g5,g6,g7⟩
 ·rw [hb] at h1; cases h1
 ·rw [hb] at g1
  cases g1
  exact ⟨h0,vs,g5,g6,g7,fun o ho => zcI g4 ho⟩
theorem RelM.cellsKn {mem M:List AObj} (hm:RelM κ ρ τ X mem w) (hM:∀ l,zdq (zaa M l) = true → zaa mem l = zaa M l):∀ l cs b,zaa M l = .cells cs → ρ l = some b → ∃ vs:Array Value,vs.size = cs.length ∧ (∀ i,i < cs.length → Rep κ ρ (cs.getD i .undef) (vs.getD i Go.undef) ∧ TokOK τ mem (cs.getD i .undef) (vs.getD i Go.undef)) ∧ ∀ o,o < vs.size → zfc w b o = some (vs.getD o Go.undef):=fun l cs b hl hb => by
 have ho:=hm.obj l
 have hl':zaa mem l = .cells cs:=by rw [hM l (by rw [hl]; rfl),hl]
 rw [hl'] at ho
 obtain ⟨b',vs,T,h1,_,_,h4,h5,h6⟩:=ho
 obtain rfl:b = b':=by rw [hb] at h1; exact czK h1
 exact ⟨vs,h5,fun i hi => ⟨h6 i hi,hm.toks l cs b vs T hl' hb h4 i hi⟩,fun o ho => zcI h4 ho⟩
theorem RelM.mapKn {mem M:List AObj} (hm:RelM κ ρ τ X mem w) (hM:∀ l,zdq (zaa M l) = true → zaa mem l = zaa M l):∀ l ks vs b,zaa M l = .map ks vs → ρ l = some b → ∃ es,RepMap κ ρ ks vs es ∧ (zfc w).m b = some es:=fun l ks vs b hl hb => by
 have ho:=hm.obj l
 rw [hM l (by rw [hl]; rfl),hl] at ho
 obtain ⟨b',es,h1,_,_,h4,h5⟩:=ho
 obtain rfl:b = b':=by rw [hb] at h1; exact czK h1
 exact ⟨es,h5,by simp only [zfc,h4,if_true]⟩
theorem zlr {mem M:List AObj} (hM:∀ l,zdq (zaa M l) = true → zaa mem l = zaa M l):∀ l es sz s,zaa M l = .vec es sz s → zaa mem l = .vec es sz s:=fun l es sz s hl => by rw [hM l (by rw [hl]; rfl),hl]
theorem zly {mem M:List AObj} (hm:RelM κ ρ τ X mem w) (hM:∀ l,zdq (zaa M l) = true → zaa mem l = zaa M l) (n:Nat) {v:AV} {x:Value} (h:Rep κ ρ v x):Rep (zfc w) noLc (zb5 n M v) x :=
 zlx (zlr hM) (zlU hm.know) (hm.cellsKn hM) (hm.vecKn hM) (hm.mapKn hM) n h
theorem snapF_all {mem M:List AObj} (hm:RelM κ ρ τ X mem w) (hM:∀ l,zdq (zaa M l) = true → zaa mem l = zaa M l) (n:Nat) {v:AV} {x:Value} (h:Rep κ ρ v x) (ht:TokOK τ mem v x):Rep (zfc w) noLc (zbW (zb5 n M) M v) x :=
 zf0 (zlr hM) (hm.vecKn hM) (fun h => zly hm hM n h) h ht
theorem zmE {mem M:List AObj} {n:Nat} (hMv:∀ l es sz s,zaa M l = .vec es sz s → zaa mem l = .vec es sz s) (hv:VecKn κ κ' ρ τ M)
  (hf:∀ (n:Nat) {v:AV} {x:Value},Rep κ ρ v x → Rep κ' noLc (zb5 n M v) x) {v:AV} {x:Value} (h:Rep κ ρ v x) (ht:TokOK τ mem v x):Rep κ' noLc (zdT n M v) x:=by
 cases v with
 | agg cs =>
  obtain ⟨vs,rfl,h1,h2⟩:=h.agg_inv
  refine .agg _ _ (by simpa using h1) fun i hi => ?_
  have hi':i < cs.length:=by simpa using hi
  rw [zbu _ _ _ hi']
  by_cases ha:∃ ds,(cs.getD i .undef).un = .agg ds
  ·
   obtain ⟨ds,hd⟩:=ha
   cases hc:cs.getD i .undef with
   | agg es => exact hf _ (by have:=h2 i hi'; rwa [hc] at this)
   | onlyIf g u => exact hf _ (by have:=h2 i hi'; rwa [hc] at this)
   | _ => rw [hc] at hd; simp [AV.un] at hd
  ·exact zf0 hMv hv (fun h => hf _ h) (h2 i hi') ((ht.agg _ _ rfl trivial rfl i hi').full fun ds hd => ha ⟨ds,hd⟩)
 | _ => exact zf0 hMv hv (fun h => hf _ h) h ht
theorem snapG_all {mem M:List AObj} (hm:RelM κ ρ τ X mem w) (hM:∀ l,zdq (zaa M l) = true → zaa mem l = zaa M l) (n:Nat) {v:AV} {x:Value} (h:Rep κ ρ v x) (ht:TokOK τ mem v x):Rep (zfc w) noLc (zdT n M v) x :=
 zmE (zlr hM) (hm.vecKn hM) (fun n _ _ h => zly hm hM n h) h ht
theorem zmF {mem:List AObj} {n:Nat} {v:AV} {x:Value} (hi:imm n v) (h:Rep κ ρ v x):Rep κ noLc (zbW (zb5 n mem) mem v) x:=by
 have e:zbW (zb5 n mem) mem v = zb5 n mem v:=by
  cases n with
  | zero => simp [imm] at hi
  | succ n => cases v <;> simp [imm] at hi <;> rfl
 rw [e]
 exact zhl n hi h
theorem snapG_imm {mem:List AObj} {n:Nat} {v:AV} {x:Value} (hi:imm n v) (h:Rep κ ρ v x):Rep κ noLc (zdT n mem v) x:=by
 cases v with
 | agg cs =>
  obtain ⟨vs,rfl,h1,h2⟩:=h.agg_inv
  cases n with
  | zero => simp [imm] at hi
  | succ n =>
   simp only [imm] at hi
   refine .agg _ _ (by simpa using h1) fun i hi2 => ?_
   have hi':i < cs.length:=by simpa using hi2
   rw [zbu _ _ _ hi']
   exact zmF (hi _ (zbV hi')) (h2 i hi')
 | _ => exact zmF hi h
def zaz (P:Program) (Φ:zaJ):Prop:=∀ g s args p r,Φ g = some s → s args = some (p,r) → p → zkn P g args r
def Pics (κ:Kn) (w:World) (imms:Prop) (sn:List AV) (vs:Array Value):Prop :=
 vs.size = sn.length ∧ (imms → ∀ i,i < sn.length → Rep κ noLc (sn.getD i .undef) (vs.getD i Go.undef)) ∧ ∀ i,i < sn.length → Rep (zfc w) noLc (sn.getD i .undef) (vs.getD i Go.undef)
theorem Pics.append {imms:Prop} {a b:List AV} {vs us:Array Value} (h:Pics κ w imms a vs) (h':Pics κ w imms b us):Pics κ w imms (a ++ b) (vs ++ us):=by
 refine ⟨by rw [Array.size_append,czc,h.1,h'.1],fun hi => ?_,?_⟩
 ·exact (RepL.append ⟨h.1,h.2.1 hi⟩ ⟨h'.1,h'.2.1 hi⟩).2
 ·exact (RepL.append ⟨h.1,h.2.2⟩ ⟨h'.1,h'.2.2⟩).2
theorem Pics.plain {imms:Prop} {mem M:List AObj} (hm:RelM κ ρ τ X mem w) (hM:∀ l,zdq (zaa M l) = true → zaa mem l = zaa M l) {cs:List AV} {vs:Array Value} (hl:vs.size = cs.length) (hr:∀ i,i < cs.length → Rep κ ρ (cs.getD i .undef) (vs.getD i Go.undef))
  (hi:imms → ∀ a ∈ cs,imm 9 a):Pics κ w imms (cs.map (zb5 9 M)) vs:=by
 refine ⟨by simpa using hl,fun h i hi' => ?_,fun i hi' => ?_⟩
 ·have hi':i < cs.length:=by simpa using hi'
  rw [zbu _ _ _ hi']
  exact zhl 9 (hi h _ (zbV hi')) (hr i hi')
 ·have hi':i < cs.length:=by simpa using hi'
  rw [zbu _ _ _ hi']
  exact zly hm hM 9 (hr i hi')
theorem Pics.full {imms:Prop} {mem M:List AObj} (hm:RelM κ ρ τ X mem w) (hM:∀ l,zdq (zaa M l) = true → zaa mem l = zaa M l) {cs:List AV} {vs:Array Value} (hl:vs.size = cs.length) (hr:∀ i,i < cs.length → Rep κ ρ (cs.getD i .undef) (vs.getD i Go.undef))
  (ht:∀ i,i < cs.length → TokOK τ mem (cs.getD i .undef) (vs.getD i Go.undef)) (hi:imms → ∀ a ∈ cs,imm 9 a):Pics κ w imms (cs.map (zdT 9 M)) vs:=by
 refine ⟨by simpa using hl,fun h i hi' => ?_,fun i hi' => ?_⟩
 ·have hi':i < cs.length:=by simpa using hi'
  rw [zbu _ _ _ hi']
  exact snapG_imm (hi h _ (zbV hi')) (hr i hi')
 ·have hi':i < cs.length:=by simpa using hi'
  rw [zbu _ _ _ hi']
  exact snapG_all hm hM 9 (hr i hi') (ht i hi')
theorem znH {g:FuncId} {sn:List AV} {imms:Prop} {r:AV} {vs:Array Value} (hk:zdN κ w)
  (hc:zaP P g sn (· = r)) (hs:imms ∨ ziM 9 r) (hp:Pics κ w imms sn vs) :
  CallsIn Fence.wide 0 P g vs w (fun e w' => ∃ x κ',e = .returned x ∧ Rep κ' ρ r x ∧ Grow κ w κ' w'):=by
 rcases hs with hs | hs
 ·refine (hc.2 κ w vs hk hp.1 (hp.2.1 hs)).mono ?_
  rintro e w' ⟨x,κ',r',rfl,rfl,h2,h3⟩
  exact ⟨x,κ',rfl,h2.mono (Kn.le_refl _) (noLc_le _),h3⟩
 ·refine (hc.2 (zfc w) w vs (zeB w) hp.1 hp.2.2).mono ?_
  rintro e w' ⟨x,κ',r',rfl,rfl,h2,h3⟩
  have hl1:=zlU hk
  exact ⟨x,κ,rfl,zru 9 hs h2,Kn.le_refl _,⟨fun b o v hv => h3.know.c _ _ _ (h3.le.c _ _ _ (hl1.c _ _ _ hv)),fun b es hv => h3.know.m _ _ (h3.le.m _ _ (hl1.m _ _ hv))⟩,h3.below,fun _ _ _ => rfl,fun _ _ => rfl⟩
theorem zdu {g:FuncId} {args:Array Value} (h:Ent P g):(callFunc g args).run P w = .ok (.enter g args) w:=by
 obtain ⟨fn,h1,h2,h3⟩:=h
 simp only [callFunc,Sem.run_bind,run_program,Result.andThen_ok,h1,h2,h3,czp,if_false,Sem.run_pure]
end
end Go.Fs
namespace Go.Fs
open Go.RowKit (Below)
section
variable {P:Program} {Φ:zaJ} {X:Nat → Prop} {w0:W0} {w w':World} {m0:Nat} {κ κ':Kn} {ρ:Lc} {τ:Tc} {st:St} {a:Act}
theorem Rel.extend (h:Rel X w0 m0 κ ρ τ st a w) (k:Nat):Rel X w0 m0 κ ρ τ { st with mem:=st.mem ++ List.replicate k AObj.dead } a w ∧
  Ext m0 κ ρ τ st.mem κ ρ τ (st.mem ++ List.replicate k AObj.dead):=by
 have hm:∀ l,zaa (st.mem ++ List.replicate k AObj.dead) l = zaa st.mem l:=fun l => by
  unfold zaa
  simp only [List.getD]
  by_cases hl:l < st.mem.length
  ·rw [czi hl]
  ·rw [czj (by omega),czB (show st.mem.length ≤ l by omega),List.getElem?_replicate]
   split <;> rfl
 have hst:∀ m,TStep m τ st.mem τ (st.mem ++ List.replicate k AObj.dead):=fun m => TStep.same (fun l _ => hm l) (fun _ _ => rfl)
 have htok:∀ v x,TokOK τ st.mem v x → TokOK τ (st.mem ++ List.replicate k AObj.dead) v x:=fun v x hv => hv.move (hst _)
 refine ⟨⟨h.defers,h.size,h.tm,fun i => htok _ _ (h.tk i),⟨fun l => by rw [hm]; exact h.mem.obj l,fun l l' b hl hl' => h.mem.inj l l' b (by rw [← hm]; exact hl) (by rw [← hm]; exact hl'),h.mem.know,
  fun l hl => h.mem.dom l (by simp at hl; omega),fun l cs b vs T hl hb hh i hi => htok _ _ (h.mem.toks l cs b vs T (by rw [← hm]; exact hl) hb hh i hi)⟩,h.frm,h.xlt,by have:=h.prot; simp; omega,h.prm,h.kx⟩,
  Kn.le_refl _,fun _ _ _ q => q,hst _⟩
theorem Rel.mkTokAt (h:Rel X w0 m0 κ ρ τ st a w) {L:Nat} (hL:L < st.mem.length) (hm0:m0 ≤ L) (hdead:zaa st.mem L = .dead) (n sz:Nat) :
  Rel X w0 m0 κ ρ (zcm τ L none) { st with mem:=st.mem.set L (.tok n sz) } a w ∧
  Ext m0 κ ρ τ st.mem κ ρ (zcm τ L none) (st.mem.set L (.tok n sz)):=by
 have hst:∀ m,TStep m τ st.mem (zcm τ L none) (st.mem.set L (.tok n sz)):=fun m => by
  refine ⟨fun l k s _ hm => ?_,fun l es s0 s _ hm => ?_⟩
  ·have hne:l ≠ L:=fun e' => by rw [e',hdead] at hm; cases hm
   exact ⟨k,by rw [zaD _ _ _ _ hL,if_neg hne]; exact hm,czf _,fun _ => by unfold zcm; rw [if_neg hne]⟩
  ·have hne:l ≠ L:=fun e' => by rw [e',hdead] at hm; cases hm
   exact ⟨es,s,by rw [zaD _ _ _ _ hL,if_neg hne]; exact hm,czf _,fun _ => ⟨rfl,by unfold zcm; rw [if_neg hne]⟩⟩
 have htok:∀ v x,TokOK τ st.mem v x → TokOK (zcm τ L none) (st.mem.set L (.tok n sz)) v x:=fun v x hv => hv.move (hst _)
 have hblk:∀ l,blk ρ (zcm τ L none) l (zaa (st.mem.set L (.tok n sz)) l) = if l = L then none else blk ρ τ l (zaa st.mem l):=fun l => by
  rw [zaD _ _ _ _ hL]
  split
  ·rename_i e; subst e; simp [blk,zcm]
  ·rename_i e
   cases zaa st.mem l <;> simp [blk,zcm,e]
 refine ⟨⟨h.defers,h.size,h.tm,fun i => htok _ _ (h.tk i),⟨fun l => ?_,fun l l' b hl hl' => ?_,h.mem.know,fun l hl => h.mem.dom l (by simpa using hl),?_⟩,h.frm,h.xlt,by simpa using h.prot,h.prm,h.kx⟩,
  Kn.le_refl _,fun _ _ _ q => q,hst _⟩
 ·rw [zaD _ _ _ _ hL]
  split
  ·rename_i e; subst e; exact .inl (by simp [zcm])
  ·rename_i e
   have ho:=h.mem.obj l
   cases hm:zaa st.mem l with
   | tok k s =>
    rw [hm] at ho
    unfold RelObj zcm
    rw [if_neg e]
    exact ho
   | vec es s0 s =>
    rw [hm] at ho
    unfold RelObj zcm
    rw [if_neg e]
    exact ho
   | _ => rw [hm] at ho; exact ho
 ·rw [hblk] at hl hl'
  split at hl <;> split at hl'
  ·cases hl
  ·cases hl
  ·cases hl'
  ·exact h.mem.inj l l' b hl hl'
 ·intro l cs b vs T hl hb hh i hi
  rw [zaD _ _ _ _ hL] at hl
  split at hl
  ·cases hl
  ·exact htok _ _ (h.mem.toks l cs b vs T hl hb hh i hi)
theorem Rel.mkVecAt (h:Rel X w0 m0 κ ρ τ st a w) {L:Nat} (hL:L < st.mem.length) (hm0:m0 ≤ L) (hdead:zaa st.mem L = .dead) (sz:Nat) :
  Rel X w0 m0 κ ρ (zcm τ L none) { st with mem:=st.mem.set L (.vec [] sz 0) } a w ∧
  Ext m0 κ ρ τ st.mem κ ρ (zcm τ L none) (st.mem.set L (.vec [] sz 0)):=by
 have hst:∀ m,TStep m τ st.mem (zcm τ L none) (st.mem.set L (.vec [] sz 0)):=fun m => by
  refine ⟨fun l k s _ hm => ?_,fun l es s0 s _ hm => ?_⟩
  ·have hne:l ≠ L:=fun e' => by rw [e',hdead] at hm; cases hm
   exact ⟨k,by rw [zaD _ _ _ _ hL,if_neg hne]; exact hm,czf _,fun _ => by unfold zcm; rw [if_neg hne]⟩
  ·have hne:l ≠ L:=fun e' => by rw [e',hdead] at hm; cases hm
   exact ⟨es,s,by rw [zaD _ _ _ _ hL,if_neg hne]; exact hm,czf _,fun _ => ⟨rfl,by unfold zcm; rw [if_neg hne]⟩⟩
 have htok:∀ v x,TokOK τ st.mem v x → TokOK (zcm τ L none) (st.mem.set L (.vec [] sz 0)) v x:=fun v x hv => hv.move (hst _)
 have hblk:∀ l,blk ρ (zcm τ L none) l (zaa (st.mem.set L (.vec [] sz 0)) l) = if l = L then none else blk ρ τ l (zaa st.mem l):=fun l => by
  rw [zaD _ _ _ _ hL]
  split
  ·rename_i e; subst e; simp [blk,zcm]
  ·rename_i e
   cases zaa st.mem l <;> simp [blk,zcm,e]
 refine ⟨⟨h.defers,h.size,h.tm,fun i => htok _ _ (h.tk i),⟨fun l => ?_,fun l l' b hl hl' => ?_,h.mem.know,fun l hl => h.mem.dom l (by simpa using hl),?_⟩,h.frm,h.xlt,by simpa using h.prot,h.prm,h.kx⟩,
  Kn.le_refl _,fun _ _ _ q => q,hst _⟩
 ·rw [zaD _ _ _ _ hL]
  split
  ·rename_i e; subst e; exact ⟨fun i hi => by simp at hi,.inl ⟨by simp [zcm],rfl⟩⟩
  ·rename_i e
   have ho:=h.mem.obj l
   cases hm:zaa st.mem l with
   | tok k s =>
    rw [hm] at ho
    unfold RelObj zcm
    rw [if_neg e]
    exact ho
   | vec es s0 s =>
    rw [hm] at ho
    unfold RelObj zcm
    rw [if_neg e]
    exact ho
   | _ => rw [hm] at ho; exact ho
 ·rw [hblk] at hl hl'
  split at hl <;> split at hl'
  ·cases hl
  ·cases hl
  ·cases hl'
  ·exact h.mem.inj l l' b hl hl'
 ·intro l cs b vs T hl hb hh i hi
  rw [zaD _ _ _ _ hL] at hl
  split at hl
  ·cases hl
  ·exact htok _ _ (h.mem.toks l cs b vs T hl hb hh i hi)
theorem Rel.mkTokAtB (h:Rel X w0 m0 κ ρ τ st a w) {L:Nat} (hL:L < st.mem.length) (hm0:m0 ≤ L) (hdead:zaa st.mem L = .dead) (n sz:Nat) {b:Nat} {vs:Array Value} {T:TypeId}
  (hX:¬ X b) (hk:∀ o,n * sz ≤ o → κ b o = none) (hh:w.heap[b]? = some (.cells vs T (0,0))) (hne:∀ i,blk ρ τ i (zaa st.mem i) ≠ some b) :
  Rel X w0 m0 κ ρ (zcm τ L (some (b,vs.size))) { st with mem:=st.mem.set L (.tok n sz) } a w ∧
  Ext m0 κ ρ τ st.mem κ ρ (zcm τ L (some (b,vs.size))) (st.mem.set L (.tok n sz)):=by
 have hst:∀ m,TStep m τ st.mem (zcm τ L (some (b,vs.size))) (st.mem.set L (.tok n sz)):=fun m => by
  refine ⟨fun l k s _ hm => ?_,fun l es s0 s _ hm => ?_⟩
  ·have hne:l ≠ L:=fun e' => by rw [e',hdead] at hm; cases hm
   exact ⟨k,by rw [zaD _ _ _ _ hL,if_neg hne]; exact hm,czf _,fun _ => by unfold zcm; rw [if_neg hne]⟩
  ·have hne:l ≠ L:=fun e' => by rw [e',hdead] at hm; cases hm
   exact ⟨es,s,by rw [zaD _ _ _ _ hL,if_neg hne]; exact hm,czf _,fun _ => ⟨rfl,by unfold zcm; rw [if_neg hne]⟩⟩
 have htok:∀ v x,TokOK τ st.mem v x → TokOK (zcm τ L (some (b,vs.size))) (st.mem.set L (.tok n sz)) v x:=fun v x hv => hv.move (hst _)
 have hblk:∀ l,blk ρ (zcm τ L (some (b,vs.size))) l (zaa (st.mem.set L (.tok n sz)) l) = if l = L then some b else blk ρ τ l (zaa st.mem l):=fun l => by
  rw [zaD _ _ _ _ hL]
  split
  ·rename_i e; subst e; simp [blk,zcm]
  ·rename_i e
   cases zaa st.mem l <;> simp [blk,zcm,e]
 refine ⟨⟨h.defers,h.size,h.tm,fun i => htok _ _ (h.tk i),⟨fun l => ?_,fun l l' b' hl hl' => ?_,h.mem.know,fun l hl => h.mem.dom l (by simpa using hl),?_⟩,h.frm,h.xlt,by simpa using h.prot,h.prm,h.kx⟩,
  Kn.le_refl _,fun _ _ _ q => q,hst _⟩
 ·rw [zaD _ _ _ _ hL]
  split
  ·rename_i e; subst e
   exact .inr ⟨b,vs.size,vs,T,by simp [zcm],hX,hk,hh,rfl⟩
  ·rename_i e
   have ho:=h.mem.obj l
   cases hm:zaa st.mem l with
   | tok k s =>
    rw [hm] at ho
    unfold RelObj zcm
    rw [if_neg e]
    exact ho
   | vec es s0 s =>
    rw [hm] at ho
    unfold RelObj zcm
    rw [if_neg e]
    exact ho
   | _ => rw [hm] at ho; exact ho
 ·rw [hblk] at hl hl'
  split at hl <;> split at hl'
  ·omega
  ·cases hl; exact absurd hl' (hne l')
  ·cases hl'; exact absurd hl (hne l)
  ·exact h.mem.inj l l' b' hl hl'
 ·intro l cs b vs T hl hb hh i hi
  rw [zaD _ _ _ _ hL] at hl
  split at hl
  ·cases hl
  ·exact htok _ _ (h.mem.toks l cs b vs T hl hb hh i hi)
theorem Rep.sl_tk {es:List (List AV)} {x:Value} {l:Nat} (h:Rep κ ρ (.sl es .no) x):Rep κ ρ (.sl es (.own l)) x:=by
 cases h with
 | slnil => exact .slnil _
 | sl _ _ b o cap sz val h1 h2 h3 h4 h5 => exact .sl es _ b o cap sz val h1 h2 h3 (fun e => by cases e) h5
theorem Rel.freshAt (h:Rel X w0 m0 κ ρ τ st a w) {L:Nat} (hL:L < st.mem.length) (hm0:m0 ≤ L) (hdead:zaa st.mem L = .dead) {es:List (List AV)} {sz:Nat} {x:Value} {d:Option Tmp}
  (hd:zct st.n d) (hg:Grow κ w κ' w') (hv:Rep κ' ρ (.sl es .no) x) (hr:Room κ' w w' es.length sz x) :
  ∃ τ',Rel X w0 m0 κ' ρ τ' ({ st with mem:=st.mem.set L (.tok es.length sz) }.put d (.sl es (.own L))) (a.put d x) w' ∧ Ext m0 κ ρ τ st.mem κ' ρ τ' (st.mem.set L (.tok es.length sz)):=by
 have h1:Rel X w0 m0 κ' ρ τ st a w':=by
  have:=h.putV hg (d:=none) (v:=.undef) (x:=Go.undef) trivial (.undef _) (zaO rfl)
  simpa [St.put,putT,Act.put] using this
 have hE0:Ext m0 κ ρ τ st.mem κ' ρ τ st.mem:=⟨hg.le,fun _ _ _ q => q,TStep.refl _ _ _⟩
 have hxb:∀ b,X b → b < w.heap.size:=fun b hb => by have:=h.xlt b hb; have:=h.frm.size; omega
 rcases hr with ⟨ad,len,rfl⟩ | ⟨b,cap,vs,T,rfl,hb,hk,hh,hc⟩
 ·obtain ⟨g1,g2⟩:=h1.mkTokAt hL hm0 hdead es.length sz
  refine ⟨_,g1.putV (Grow.refl g1.mem.know) hd hv.sl_tk ?_,hE0.trans g2⟩
  refine ze5 ?_
  exact ⟨_,_,by show zaa (st.mem.set L _) L = _; rw [zaD _ _ _ _ hL,if_pos rfl],czf _,fun _ => ⟨ad,len,len,rfl,.inl rfl⟩⟩
 ·obtain ⟨g1,g2⟩:=h1.mkTokAtB hL hm0 hdead es.length sz (b:=b) (fun q => by have:=hxb b q; omega) hk hh (fun i q => by have:=h.mem.blk_lt q; omega)
  refine ⟨_,g1.putV (Grow.refl g1.mem.know) hd hv.sl_tk ?_,hE0.trans g2⟩
  refine ze5 ?_
  refine ⟨_,_,by show zaa (st.mem.set L _) L = _; rw [zaD _ _ _ _ hL,if_pos rfl],czf _,fun _ => ⟨_,_,cap,rfl,.inr ⟨b,vs.size,rfl,by simp [zcm],hc⟩⟩⟩
theorem callF_use {g:FuncId} {sn:List AV} {imms:Prop} {es:List (List AV)} {sz:Nat} {vs:Array Value} (hk:zdN κ w)
  (hc:zuW P g sn sz es) (hs:imms) (hp:Pics κ w imms sn vs) :
  CallsIn Fence.wide 0 P g vs w (fun e w' => ∃ x κ',e = .returned x ∧ Rep κ' ρ (.sl es .no) x ∧ Grow κ w κ' w' ∧ Room κ' w w' es.length sz x):=by
 refine (hc.2 κ w vs hk hp.1 (hp.2.1 hs)).mono ?_
 rintro e w' ⟨x,κ',rfl,h2,h3,h4⟩
 exact ⟨x,κ',rfl,h2.mono (Kn.le_refl _) (noLc_le _),h3,h4⟩
end
end Go.Fs
