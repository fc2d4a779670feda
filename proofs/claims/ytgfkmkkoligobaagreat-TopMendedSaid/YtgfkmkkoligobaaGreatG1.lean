/- The texts A1, A2, A3, A4, A5, A6, A7, A8, joined. -/
import Derived.Laws.Sem
import Derived.Laws.Cells
import Derived.Laws.IdiomCopy
import Derived.Laws.CopyRow
import Derived.Laws.Rows
import Derived.Laws.Entries
import Derived.CallsIn
import Derived.Below
import Derived.IntWalk
import Derived.ChangeKeysEq
import Derived.RangeFuncIn
import Derived.Laws.StructEq
import Derived.Laws.Small
set_option linter.all false
namespace Go
def cza:=@List.length_cons
def czb:=@List.map_cons
def czc:=@List.length_append
def czd:=@List.append_assoc
def cze:=@List.take_of_length_le
def czf:=@Nat.le_refl
def czg:=@Option.some.injEq
def czh:=@Prod.mk.injEq
def czi:=@List.getElem?_append_left
def czj:=@List.getElem?_append_right
def czk:=@List.not_mem_nil
def czl:=@Bool.and_eq_true
def czm:=@List.take_length
def czn:=@List.mem_cons
def czo:=@Array.getD_eq_getD_getElem?
def czp:=@Bool.false_eq_true
def czq:=@Nat.mul_le_mul_right
def czr:=@Option.map_eq_some_iff
def czs:=@List.cons_append
def czt:=@List.length_set
def czu:=@Int.eq_ofNat_of_zero_le
def czv:=@List.mem_append
def czw:=@List.getElem?_eq_getElem
def czx:=@List.mem_map
def czy:=@List.length_nil
def czz:=@List.length_map
def czA:=@Int.lt_irrefl
def czB:=@List.getElem?_eq_none
def czC:=@List.mem_singleton
def czD:=@List.getElem?_cons_zero
def czE:=@Nat.le_of_not_lt
def czF:=@Int.toNat_natCast
def czG:=@List.all_eq_true
def czH:=@Int.ofNat_lt
def czI:=@Bool.or_eq_true
def czK:=@Option.some.inj
def czO:=@List.length_take
def czQ:=@List.getElem?_drop
def czR:=@List.getElem?_take
def czS:=@List.getElem?_cons_succ
end Go
namespace Go.Fs
open Go.RowKit (Below)
def zer (ks:List Int):Value:=.agg (ks.map (Value.int .i64)).toArray
inductive Tk where
 | no
 | full
 | own (l:Nat)
inductive AV where
 | undef
 | int (k:IntKind) (n:Int)
 | bool (b:Bool)
 | nilp
 | nilf
 | agg (cs:List AV)
 | tup (cs:List AV)
 | sl (es:List (List AV)) (tk:Tk)
 | ref (es:List AV) (off:Nat)
 | ptr (l off:Nat)
 | arr (l off len sz:Nat)
 | fn (f:Fn) (fst cap:List AV)
 | mpr (ks:List (List Int)) (vs:List AV)
 | mp (l:Nat)
 | yld (l:Nat)
 | onlyIf (g:Bool) (v:AV)
 | vec (l s off len sz:Nat)
 | vp (l s i off:Nat)
instance:Inhabited AV:=⟨.undef⟩
def AV.cells:AV → List AV
 | .agg cs => cs
 | v => [v]
def AV.one:AV → Bool
 | .int _ _ | .bool _ | .nilp | .nilf | .sl _ _ | .ref _ _ | .ptr _ _ | .arr _ _ _ _ | .fn _ _ _ | .mpr _ _ | .mp _ | .yld _ | .vec _ _ _ _ _ | .vp _ _ _ _ => true
 | _ => false
structure Kn where
 c:Nat → Nat → Option Value
 m:Nat → Option (Array MapEntry)
instance:CoeFun Kn (fun _ => Nat → Nat → Option Value):=⟨Kn.c⟩
abbrev Lc:=Nat → Option Nat
structure Kn.le (κ κ':Kn):Prop where
 c:∀ b o v,κ b o = some v → κ' b o = some v
 m:∀ b vs,κ.m b = some vs → κ'.m b = some vs
def Lc.le (ρ ρ':Lc):Prop:=∀ l b,ρ l = some b → ρ' l = some b
theorem Kn.le_refl (κ:Kn):κ.le κ:=⟨fun _ _ _ h => h,fun _ _ h => h⟩
theorem Kn.le_trans {a b c:Kn} (h:a.le b) (h':b.le c):a.le c:=⟨fun _ _ _ x => h'.c _ _ _ (h.c _ _ _ x),fun _ _ x => h'.m _ _ (h.m _ _ x)⟩
theorem Lc.le_refl (ρ:Lc):ρ.le ρ:=fun _ _ h => h
theorem Lc.le_trans {a b c:Lc} (h:a.le b) (h':b.le c):a.le c:=fun _ _ x => h' _ _ (h _ _ x)
def noLc:Lc:=fun _ => none
theorem noLc_le (ρ:Lc):noLc.le ρ:=fun _ _ h => by cases h
inductive Rep (κ:Kn) (ρ:Lc):AV → Value → Prop
 | undef (x:Value):Rep κ ρ .undef x
 | int (k:IntKind) (n:Int):Rep κ ρ (.int k n) (.int k n)
 | bool (b:Bool):Rep κ ρ (.bool b) (.bool b)
 | nilp:Rep κ ρ .nilp (.pointer none)
 | nilf:Rep κ ρ .nilf .nilFunc
 | agg (cs:List AV) (vs:Array Value) (hs:vs.size = cs.length)
   (h:∀ i,i < cs.length → Rep κ ρ (cs.getD i .undef) (vs.getD i Go.undef)):Rep κ ρ (.agg cs) (.agg vs)
 | tup (cs:List AV) (vs:Array Value) (hs:vs.size = cs.length)
   (h:∀ i,i < cs.length → Rep κ ρ (cs.getD i .undef) (vs.getD i Go.undef)):Rep κ ρ (.tup cs) (.tuple vs)
 | slnil (tk:Tk):Rep κ ρ (.sl [] tk) (.slice none 0 0)
 | sl (es:List (List AV)) (tk:Tk) (b o cap sz:Nat) (val:Nat → Nat → Value)
   (hsz:∀ i,i < es.length → (es.getD i []).length = sz)
   (hk:∀ i j,i < es.length → j < sz → κ b (o + i * sz + j) = some (val i j))
   (h:∀ i j,i < es.length → j < sz → Rep κ ρ ((es.getD i []).getD j .undef) (val i j))
   (ht:tk = .full → cap = es.length) (hc:es.length ≤ cap) :
   Rep κ ρ (.sl es tk) (.slice (some ⟨b,o,none⟩) es.length cap)
 | ref (es:List AV) (off b o:Nat) (val:Nat → Value)
   (hk:∀ j,j < es.length → κ b (o + j) = some (val j))
   (h:∀ j,j < es.length → Rep κ ρ (es.getD j .undef) (val j)) :
   Rep κ ρ (.ref es off) (.pointer (some ⟨b,o + off,none⟩))
 | ptr (l off b:Nat) (hl:ρ l = some b):Rep κ ρ (.ptr l off) (.pointer (some ⟨b,off,none⟩))
 | arr (l off len sz b cap:Nat) (hl:ρ l = some b) (hc:len ≤ cap):Rep κ ρ (.arr l off len sz) (.slice (some ⟨b,off,none⟩) len cap)
 | fn (f:Fn) (fst cap:List AV) (vs ws:Array Value) (h1:vs.size = fst.length) (h2:ws.size = cap.length)
   (h3:∀ i,i < fst.length → Rep κ ρ (fst.getD i .undef) (vs.getD i Go.undef))
   (h4:∀ i,i < cap.length → Rep κ ρ (cap.getD i .undef) (ws.getD i Go.undef)):Rep κ ρ (.fn f fst cap) (.func f vs ws)
 | mpr (ks:List (List Int)) (vs:List AV) (b:Nat) (es:Array MapEntry) (hm:κ.m b = some es) (hl:vs.length = ks.length) (hs:es.size = ks.length)
   (hk:∀ i,i < ks.length → (es.getD i default).key = zer (ks.getD i []) ∧ (es.getD i default).born = i)
   (h:∀ i,i < ks.length → Rep κ ρ (vs.getD i .undef) ((es.getD i default).val)):Rep κ ρ (.mpr ks vs) (.map (some b))
 | mp (l b:Nat) (hl:ρ l = some b):Rep κ ρ (.mp l) (.map (some b))
 | yld (l b:Nat) (hl:ρ l = some b):Rep κ ρ (.yld l) (.func (.yield b) #[] #[])
 | onlyIf (g:Bool) (v:AV) (x:Value) (h:g = true → Rep κ ρ v x) (h0:g = false → x = Go.undef):Rep κ ρ (.onlyIf g v) x
 | vec (l s off len sz:Nat) (a:Option Addr) (cap:Nat) (h:((a = none → len = 0) ∧ len ≤ cap) ∧ ∀ ad,a = some ad → ad.spot = none):Rep κ ρ (.vec l s off len sz) (.slice a len cap)
 | vp (l s i off:Nat) (a:Addr):Rep κ ρ (.vp l s i off) (.pointer (some a))
theorem Rep.mono {κ κ':Kn} {ρ ρ':Lc} {v:AV} {x:Value} (h:Rep κ ρ v x) (hκ:κ.le κ') (hρ:ρ.le ρ'):Rep κ' ρ' v x:=by
 induction h with
 | undef x => exact .undef x
 | int k n => exact .int k n
 | bool b => exact .bool b
 | nilp => exact .nilp
 | nilf => exact .nilf
 | agg cs vs hs _ ih => exact .agg cs vs hs ih
 | tup cs vs hs _ ih => exact .tup cs vs hs ih
 | slnil tk => exact .slnil tk
 | sl es tk b o cap sz val hsz hk _ ht hc ih =>
  exact .sl es tk b o cap sz val hsz (fun i j hi hj => hκ.c _ _ _ (hk i j hi hj)) ih ht hc
 | ref es off b o val hk _ ih => exact .ref es off b o val (fun j hj => hκ.c _ _ _ (hk j hj)) ih
 | ptr l off b hl => exact .ptr l off b (hρ _ _ hl)
 | arr l off len sz b cap hl hc => exact .arr l off len sz b cap (hρ _ _ hl) hc
 | fn f fst cap vs ws h1 h2 _ _ ih3 ih4 => exact .fn f fst cap vs ws h1 h2 ih3 ih4
 | mpr ks vs b es hm hl hs hk _ ih => exact .mpr ks vs b es (hκ.m _ _ hm) hl hs hk ih
 | mp l b hl => exact .mp l b (hρ _ _ hl)
 | yld l b hl => exact .yld l b (hρ _ _ hl)
 | onlyIf g v x _ h0 ih => exact .onlyIf g v x ih h0
 | vec l s off len sz a cap h => exact .vec l s off len sz a cap h
 | vp l s i off a => exact .vp l s i off a
theorem Rep.one {κ:Kn} {ρ:Lc} {v:AV} {x:Value} (h:Rep κ ρ v x) (h1:v.one = true):x.oneCell' = true:=by
 cases h <;> simp_all [AV.one,Value.oneCell']
theorem Rep.agg_inv {κ:Kn} {ρ:Lc} {cs:List AV} {x:Value} (h:Rep κ ρ (.agg cs) x) :
  ∃ vs:Array Value,x = .agg vs ∧ vs.size = cs.length ∧ ∀ i,i < cs.length → Rep κ ρ (cs.getD i .undef) (vs.getD i Go.undef):=by
 cases h; exact ⟨_,rfl,‹_›,‹_›⟩
def Tk.strip:Tk → Tk
 | .own _ => .no
 | t => t
def AV.strip1:AV → AV
 | .sl es tk => .sl es tk.strip
 | .onlyIf _ _ => .undef
 | .vec _ _ _ _ _ => .undef
 | .vp _ _ _ _ => .undef
 | v => v
def AV.bare:AV → AV
 | .sl es _ => .sl es .no
 | v => v
def AV.soft:AV → AV
 | .sl es tk => .sl es tk.strip
 | v => v
def AV.strip:AV → AV
 | .sl es tk => .sl es tk.strip
 | .onlyIf g v => .onlyIf g v.strip
 | .vec _ _ _ _ _ => .undef
 | .vp _ _ _ _ => .undef
 | .agg cs => .agg (cs.map AV.strip1)
 | v => v
theorem zmA (cs:List AV) (i:Nat):(cs.map AV.strip1).getD i .undef = (cs.getD i .undef).strip1:=by
 simp only [List.getD,List.getElem?_map]
 cases cs[i]? <;> rfl
theorem zdj (cs:List AV) (i:Nat):(cs.map AV.soft).getD i .undef = (cs.getD i .undef).soft:=by
 simp only [List.getD,List.getElem?_map]
 cases cs[i]? <;> rfl
theorem Rep.noTk {κ:Kn} {ρ:Lc} {es:List (List AV)} {tk:Tk} {x:Value} (h:Rep κ ρ (.sl es tk) x):Rep κ ρ (.sl es tk.strip) x:=by
 cases h with
 | slnil tk => exact .slnil _
 | sl es tk b o cap sz val hsz hk hr ht hc => exact .sl es _ b o cap sz val hsz hk hr (fun e => ht (by cases tk <;> simp_all [Tk.strip])) hc
theorem Rep.bare {κ:Kn} {ρ:Lc} {v:AV} {x:Value} (h:Rep κ ρ v x):Rep κ ρ v.bare x:=by
 cases v with
 | sl es tk =>
  cases h with
  | slnil tk => exact .slnil _
  | sl es tk b o cap sz val hsz hk hr ht hc => exact .sl es _ b o cap sz val hsz hk hr (fun e => by cases e) hc
 | _ => exact h
theorem Rep.strip1 {κ:Kn} {ρ:Lc} {v:AV} {x:Value} (h:Rep κ ρ v x):Rep κ ρ v.strip1 x:=by
 cases v with
 | sl es tk => exact h.noTk
 | onlyIf g v => exact .undef _
 | vec => exact .undef _
 | vp => exact .undef _
 | _ => exact h
theorem Rep.soft {κ:Kn} {ρ:Lc} {v:AV} {x:Value} (h:Rep κ ρ v x):Rep κ ρ v.soft x:=by
 cases v with
 | sl es tk => exact h.noTk
 | _ => exact h
theorem Rep.strip {κ:Kn} {ρ:Lc} {v:AV} {x:Value} (h:Rep κ ρ v x):Rep κ ρ v.strip x:=by
 induction h with
 | slnil tk => exact .slnil _
 | sl es tk b o cap sz val hsz hk hr ht hc _ => exact .sl es _ b o cap sz val hsz hk hr (fun e => ht (by cases tk <;> simp_all [Tk.strip])) hc
 | undef x => exact .undef x
 | int k n => exact .int k n
 | bool b => exact .bool b
 | nilp => exact .nilp
 | nilf => exact .nilf
 | agg cs vs hs h _ => exact .agg _ vs (by simpa using hs) (fun i hi => by rw [zmA]; exact (h i (by simpa using hi)).strip1)
 | tup cs vs hs h _ => exact .tup cs vs hs h
 | ref es off b o val hk h _ => exact .ref es off b o val hk h
 | ptr l off b hl => exact .ptr l off b hl
 | arr l off len sz b cap hl hc => exact .arr l off len sz b cap hl hc
 | fn f fst cap vs ws h1 h2 h3 h4 _ _ => exact .fn f fst cap vs ws h1 h2 h3 h4
 | mpr ks vs b es hm hl hs hk h _ => exact .mpr ks vs b es hm hl hs hk h
 | mp l b hl => exact .mp l b hl
 | yld l b hl => exact .yld l b hl
 | onlyIf g v x _ h0 ih => exact .onlyIf g _ x ih h0
 | vec l s off len sz a cap h => exact .undef _
 | vp l s i off a => exact .undef _
theorem zbz (cs:List AV) (i:Nat):(cs.map AV.strip).getD i .undef = (cs.getD i .undef).strip:=by
 simp only [List.getD,List.getElem?_map]
 cases cs[i]? <;> rfl
theorem Rep.int_inv {κ:Kn} {ρ:Lc} {k:IntKind} {n:Int} {x:Value} (h:Rep κ ρ (.int k n) x):x = .int k n:=by cases h; rfl
theorem Rep.bool_inv {κ:Kn} {ρ:Lc} {b:Bool} {x:Value} (h:Rep κ ρ (.bool b) x):x = .bool b:=by cases h; rfl
theorem Rep.ptr_inv {κ:Kn} {ρ:Lc} {l off:Nat} {x:Value} (h:Rep κ ρ (.ptr l off) x):∃ b,ρ l = some b ∧ x = .pointer (some ⟨b,off,none⟩):=by
 cases h; exact ⟨_,‹_›,rfl⟩
theorem Rep.yld_inv {κ:Kn} {ρ:Lc} {l:Nat} {x:Value} (h:Rep κ ρ (.yld l) x):∃ b,ρ l = some b ∧ x = .func (.yield b) #[] #[]:=by
 cases h; exact ⟨_,‹_›,rfl⟩
theorem Rep.mp_inv {κ:Kn} {ρ:Lc} {l:Nat} {x:Value} (h:Rep κ ρ (.mp l) x):∃ b,ρ l = some b ∧ x = .map (some b):=by
 cases h; exact ⟨_,‹_›,rfl⟩
def RepMap (κ:Kn) (ρ:Lc) (ks:List (List Int)) (vs:List AV) (es:Array MapEntry):Prop :=
 vs.length = ks.length ∧ es.size = ks.length ∧ (∀ i,i < ks.length → (es.getD i default).key = zer (ks.getD i []) ∧ (es.getD i default).born = i) ∧
 ∀ i,i < ks.length → Rep κ ρ (vs.getD i .undef) ((es.getD i default).val)
theorem RepMap.mono {κ κ':Kn} {ρ ρ':Lc} {ks:List (List Int)} {vs:List AV} {es:Array MapEntry} (h:RepMap κ ρ ks vs es) (hκ:κ.le κ') (hρ:ρ.le ρ'):RepMap κ' ρ' ks vs es :=
 ⟨h.1,h.2.1,h.2.2.1,fun i hi => (h.2.2.2 i hi).mono hκ hρ⟩
theorem Rep.mpr_inv {κ:Kn} {ρ:Lc} {ks:List (List Int)} {vs:List AV} {x:Value} (h:Rep κ ρ (.mpr ks vs) x):∃ b es,κ.m b = some es ∧ x = .map (some b) ∧ RepMap κ ρ ks vs es:=by
 cases h; exact ⟨_,_,‹_›,rfl,‹_›,‹_›,‹_›,‹_›⟩
end Go.Fs
namespace Go.Fs
inductive AObj where
 | dead
 | cells (cs:List AV)
 | tok (n sz:Nat)
 | deferred
 | loop (s:LoopState) (pend:Option Code) (tm:List (Nat × AV)) (n:Nat) (ps:Array Tmp) (asg body:Code)
 | map (ks:List (List Int)) (vs:List AV)
 | iter (src:AV) (n:Nat) (seen:List Nat)
 | vec (es:List (List AV)) (sz s:Nat)
structure St where
 tm:List (Nat × AV)
 mem:List AObj
 n:Nat
 marks:List Nat
 pr:Nat
def lk:List (Nat × AV) → Nat → AV
 | [],_ => .undef
 | (j,v) :: r,i => if i = j then v else lk r i
def St.get (st:St) (i:Nat):AV:=lk st.tm i
def putT (tm:List (Nat × AV)) (d:Option Tmp) (v:AV):List (Nat × AV) :=
 match d with
 | some d => (d,v) :: tm
 | none => tm
def St.put (st:St) (d:Option Tmp) (v:AV):St:={ st with tm:=putT st.tm d v }
def zbv (n:Nat):Option Tmp → Prop
 | some d => d < n
 | none => True
def zaa (mem:List AObj) (l:Nat):AObj:=mem.getD l .dead
def zgU:Value → AV
 | .int k n => .int k n
 | .bool b => .bool b
 | .pointer none => .nilp
 | .slice none 0 0 => .sl [] .full
 | .nilFunc => .nilf
 | _ => .undef
def ofV:Value → AV
 | .agg cs => .agg (cs.toList.map zgU)
 | v => zgU v
def evT (tm:List (Nat × AV)):Operand → AV
 | .tmp t => lk tm t
 | .const v => ofV v
 | .func f => .fn (.func f) [] []
 | .global _ => .undef
def AV.un:AV → AV
 | .onlyIf _ v => v.un
 | v => v
def AV.av:AV → Prop
 | .onlyIf g v => g = true ∧ v.av
 | _ => True
theorem un_un:∀ v:AV,v.un.un = v.un
 | .onlyIf _ v => un_un v
 | .undef | .int _ _ | .bool _ | .nilp | .nilf | .agg _ | .tup _ | .sl _ _ | .ref _ _ | .ptr _ _ | .arr _ _ _ _ | .fn _ _ _ | .mpr _ _ | .mp _ | .yld _ | .vec _ _ _ _ _ | .vp _ _ _ _ => rfl
theorem zog:∀ v:AV,v.strip.un = v.un.strip
 | .onlyIf _ v => zog v
 | .undef | .int _ _ | .bool _ | .nilp | .nilf | .agg _ | .tup _ | .sl _ _ | .ref _ _ | .ptr _ _ | .arr _ _ _ _ | .fn _ _ _ | .mpr _ _ | .mp _ | .yld _ | .vec _ _ _ _ _ | .vp _ _ _ _ => rfl
def InR:IntKind → Int → Prop
 | .i8,z => -128 ≤ z ∧ z ≤ 127
 | .i16,z => -32768 ≤ z ∧ z ≤ 32767
 | .i32,z => -2147483648 ≤ z ∧ z ≤ 2147483647
 | .i64,z => -9223372036854775808 ≤ z ∧ z ≤ 9223372036854775807
 | .u8,z => 0 ≤ z ∧ z ≤ 255
 | .u16,z => 0 ≤ z ∧ z ≤ 65535
 | .u32,z => 0 ≤ z ∧ z ≤ 4294967295
 | .u64,z => 0 ≤ z ∧ z ≤ 18446744073709551615
theorem zdD {k:IntKind} {z:Int} (h:InR k z):k.wrap z = z:=by
 cases k <;> simp only [InR] at h
 ·exact IntWalk.i8_in z h
 ·exact IntWalk.i16_in z h
 ·exact IntWalk.i32_in z h
 ·exact IntWalk.i64_in z h
 ·exact IntWalk.u8_in z h
 ·exact IntWalk.u16_in z h
 ·exact IntWalk.u32_in z h
 ·exact IntWalk.u64_in z h
/-! The layout of types. -/
def zbu (P:Program) (t:TypeId):Option Nat:=(P.info? t).map (·.size)
def aggD:TypeDesc → Bool
 | .struct _ => true
 | .array _ _ => true
 | _ => false
def zaT (P:Program) (t:TypeId):Option Bool:=(P.underlying t).map aggD
def zbn (P:Program) (t:TypeId) (f:Nat):Option Nat :=
 match P.underlying t with
 | some (.struct fs) =>
  match fs[f]? with
  | some fd =>
   match zbu P fd.type with
   | some (_ + 1) => some fd.offset
   | _ => none
  | none => none
 | _ => none
def zbq (P:Program) (t:TypeId) (f:Nat):Option (Nat × TypeId) :=
 match P.underlying t with
 | some (.struct fs) => (fs[f]?).map fun fd => (fd.offset,fd.type)
 | _ => none
def zaX (P:Program) (t:TypeId):Option (Nat × Nat) :=
 match P.underlying t with
 | some (.array n e) => (zbu P e).map fun s => (n,s)
 | _ => none
def za4 (P:Program) (t:TypeId):Option TypeId :=
 match P.underlying t with
 | some (.array _ e) => some e
 | _ => none
def zbs (P:Program) (t:TypeId):Option (TypeId × Nat) :=
 match P.underlying t with
 | some (.slice e) => (zbu P e).map fun s => (e,s)
 | _ => none
def intOf? (P:Program) (t:TypeId):Option IntKind :=
 match P.underlying t with
 | some (.int k) => some k
 | _ => none
def zaD (P:Program) (t:TypeId):Option (List AV) :=
 match P.info? t with
 | some i => i.zero.map fun v => (ofV v).cells
 | none => none
def zjy (P:Program) (t:TypeId) (cs:List AV) (off:Nat):Option (Prop × AV) :=
 match zaT P t,zbu P t with
 | some true,some n => some (off + n ≤ cs.length,.agg (((cs.drop off).take n).map AV.strip))
 | some false,_ => some (off < cs.length,cs.getD off .undef)
 | _,_ => none
def zp9 (P:Program) (t:TypeId) (cs:List AV) (off:Nat):Option (Prop × AV) :=
 match zaT P t,zbu P t with
 | some true,some n => some (off + n ≤ cs.length,.agg (((cs.drop off).take n).map AV.soft))
 | some false,_ => some (off < cs.length,cs.getD off .undef)
 | _,_ => none
def AV.solid:AV → Bool
 | .agg _ => true
 | v => v.one
def zan (cs:List AV) (off:Nat) (vs:List AV):List AV:=cs.take off ++ vs ++ cs.drop (off + vs.length)
def zeV (place:Nat → Option (Nat × Nat)) (cells:List AV):List (Nat × AV) → Option (List AV)
 | [] => some cells
 | (i,v) :: rest =>
  match place i with
  | none => none
  | some (off,size) =>
   if v.solid = true ∧ v.cells.length = size ∧ off + v.cells.length ≤ cells.length then zeV place (zan cells off v.cells) rest
   else none
def zfN (P:Program) (fs:List Field):Option (List (Nat × Nat)):=fs.mapM fun f => (zbu P f.type).map fun s => (f.offset,s)
def zau (P:Program) (t:TypeId):Option (List (Nat × Nat)) :=
 match P.underlying t with
 | some (.struct fs) => zfN P fs.toList
 | _ => none
def zoQ (P:Program) (t:TypeId) (parts:List (Nat × AV)):Option AV :=
 match zaD P t with
 | some z =>
  match zau P t with
  | some pl => (zeV (fun i => pl[i]?) z parts).map fun cs => .agg (cs.map AV.soft)
  | none =>
   match zaX P t with
   | some (_,s) => (zeV (fun i => some (i * s,s)) z parts).map fun cs => .agg (cs.map AV.soft)
   | none => none
 | none => none
def zb7 (s:Nat):Nat → List AV → List (List AV)
 | 0,_ => []
 | n + 1,cs => cs.take s :: zb7 s n (cs.drop s)
def zbh (z:List AV):Nat → List AV
 | 0 => []
 | n + 1 => z ++ zbh z n
def zc6 (P:Program) (t:TypeId) (len:Nat) (parts:List (Nat × AV)):Option (List (List AV)) :=
 match zbs P t with
 | some (e,s) =>
  match zaD P e with
  | some z => if z.length = s ∧ 0 < s ∧ len * s ≤ 16777216 then (zeV (fun i => some (i * s,s)) (zbh z len) parts).map fun cs => zb7 s len (cs.map AV.strip) else none
  | none => none
 | none => none
def zab:List AV → Option (List Int)
 | [] => some []
 | .int .i64 n :: r => (zab r).map fun l => n :: l
 | _ => none
def zdT (P:Program):Nat → List Field → Bool
 | _,[] => true
 | i, f :: r => f.name != "_" && (f.offset == i && ((intOf? P f.type).isSome && zdT P (i + 1) r))
def zaL (P:Program) (t:TypeId):Option Nat :=
 if P.eqGuardType P.depth t = false ∧ P.stoodInHeld t = false then
  match P.underlying t with
  | some (.struct fs) => if zdT P 0 fs.toList then some fs.size else none
  | some (.array n e) =>
   match zbu P e,intOf? P e with
   | some 1,some _ => some n
   | _,_ => none
  | _ => none
 else none
def flatN (P:Program) (t:TypeId):Option Nat :=
 match intOf? P t with
 | some _ => some 1
 | none =>
  if P.stoodInHeld t = false then
   match P.underlying t with
   | some (.struct fs) => if zdT P 0 fs.toList = true ∧ zbu P t = some fs.size then some fs.size else none
   | some (.array n e) => if (zbu P e = some 1 ∧ (intOf? P e).isSome = true) ∧ zbu P t = some n then some n else none
   | _ => none
  else none
def zch (P:Program):Nat → List Field → Option Nat
 | i,[] => some i
 | i, f :: r => if f.name ≠ "_" ∧ f.offset = i then
   match flatN P f.type with
   | some m => zch P (i + m) r
   | none => none
  else none
def zg0 (P:Program) (t:TypeId):Option Nat :=
 if P.eqGuardType P.depth t = false ∧ P.stoodInHeld t = false then
  match P.underlying t with
  | some (.struct fs) => zch P 0 fs.toList
  | _ => none
 else none
def zaC (P:Program) (t:TypeId):Option Nat :=
 match zaL P t with
 | some n => some n
 | none => zg0 P t
def zaG (P:Program) (t:TypeId):Bool :=
 match P.underlying t with
 | some .bool => true
 | _ => false
def zei:List AV → Option (List Bool)
 | [] => some []
 | .bool b :: r => (zei r).map fun l => b :: l
 | _ => none
def za3 (P:Program) (t:TypeId):Option Nat :=
 if P.eqGuardType P.depth t = false then
  match P.underlying t with
  | some (.array n e) => if zbu P e = some 1 ∧ zaG P e = true then some n else none
  | _ => none
 else none
def eqA (P:Program) (t:TypeId) (cs ds:List AV):Option (Prop × Bool) :=
 match zaC P t with
 | some n =>
  match zab cs,zab ds with
  | some xs,some ys => some (xs.length = n ∧ ys.length = n,decide (xs = ys))
  | _,_ => none
 | none =>
  match za3 P t,zei cs,zei ds with
  | some n,some xs,some ys => some (xs.length = n ∧ ys.length = n,decide (xs = ys))
  | _,_,_ => none
def binA (P:Program) (t:TypeId) (op:BinOp) (a b:AV):Option (Prop × AV) :=
 match a,b with
 | .int k x,.int k' y =>
  match op with
  | .add => some (k = k' ∧ InR k (x + y),.int k (x + y))
  | .sub => some (k = k' ∧ InR k (x - y),.int k (x - y))
  | .mul => some (k = k' ∧ InR k (x * y),.int k (x * y))
  | .quo => some (k = k' ∧ 0 ≤ x ∧ 1 ≤ y ∧ InR k x,.int k (x / y))
  | .rem => some (k = k' ∧ 0 ≤ x ∧ 1 ≤ y,.int k (x % y))
  | .eql => some (k = k',.bool (decide (x = y)))
  | .neq => some (k = k',.bool (!decide (x = y)))
  | .lss => some (k = k',.bool (decide (x < y)))
  | .leq => some (k = k',.bool (decide (x ≤ y)))
  | .gtr => some (k = k',.bool (decide (y < x)))
  | .geq => some (k = k',.bool (decide (y ≤ x)))
  | .shl => some (0 ≤ y ∧ y ≤ k.bits ∧ InR k (x * 2 ^ y.toNat),.int k (x * 2 ^ y.toNat))
  | .shr => some (0 ≤ x ∧ 0 ≤ y ∧ y ≤ k.bits,.int k (x / 2 ^ y.toNat))
  | .and => some (k = k' ∧ 0 ≤ x ∧ 0 ≤ y ∧ InR k x ∧ InR k y,.int k ((x.toNat &&& y.toNat:Nat):Int))
  | .or => some (k = k' ∧ 0 ≤ x ∧ 0 ≤ y ∧ InR k x ∧ InR k y,.int k ((x.toNat ||| y.toNat:Nat):Int))
  | .andNot => some (k = k' ∧ 0 ≤ x ∧ 0 ≤ y ∧ InR k x ∧ InR k y,.int k ((x.toNat - (x.toNat &&& y.toNat):Nat):Int))
  | _ => none
 | .bool x,.bool y =>
  match op with
  | .eql => some (zaG P t = true,.bool (x == y))
  | .neq => some (zaG P t = true,.bool (x != y))
  | _ => none
 | .agg cs,.agg ds =>
  match op with
  | .eql => (eqA P t cs ds).map fun q => (q.1,.bool q.2)
  | .neq => (eqA P t cs ds).map fun q => (q.1,.bool (!q.2))
  | _ => none
 | _,_ => none
def znO (a:AV):Option (Prop × AV) :=
 match a with
 | .sl es _ => some (True,.int .i64 es.length)
 | .arr _ _ len _ => some (True,.int .i64 len)
 | .vec _ _ _ len _ => some (True,.int .i64 len)
 | _ => none
def minA:List AV → Option AV
 | [.int k x,.int _ y] => some (.int k (min x y))
 | _ => none
def maxA:List AV → Option AV
 | [.int k x,.int _ y] => some (.int k (max x y))
 | _ => none
def zhG (P:Program) (mem:List AObj) (t:TypeId) (a:AV):Option (Prop × AV) :=
 match a with
 | .ref es off =>
  match zjy P t es off with
  | some (p,v) => some (p,v.strip)
  | none => none
 | .ptr l off =>
  match zaa mem l with
  | .cells cs => zp9 P t cs off
  | _ => none
 | .vp l s i off =>
  match zaa mem l with
  | .vec es _ s' =>
   match zjy P t (es.getD i []) off with
   | some (p,v) => some (s = s' ∧ p,v.strip)
   | none => none
  | _ => none
 | _ => none
def zgY (P:Program) (t:TypeId) (x i:AV):Option (Prop × AV) :=
 match i with
 | .int _ i =>
  match x with
  | .sl es _ =>
   match zbs P t with
   | some (_,s) => some (0 ≤ i ∧ i < es.length ∧ (es.getD i.toNat []).length = s,.ref (es.getD i.toNat []) 0)
   | none => none
  | .arr l off len sz =>
   match zbs P t with
   | some (_,s) => some (0 ≤ i ∧ i < len ∧ sz = s,.ptr l (off + i.toNat * s))
   | none => none
  | .ref es off =>
   match zaX P t with
   | some (n,s) => some (0 ≤ i ∧ i < n,.ref es (off + i.toNat * s))
   | none => none
  | .ptr l off =>
   match zaX P t with
   | some (n,s) => some (0 ≤ i ∧ i < n,.ptr l (off + i.toNat * s))
   | none => none
  | .vec l s off len sz =>
   match zbs P t with
   | some (_,sz') => some (0 ≤ i ∧ i < len ∧ sz = sz',.vp l s (off + i.toNat) 0)
   | none => none
  | _ => none
 | _ => none
def zgZ (P:Program) (t:TypeId) (x:AV) (f:Nat):Option (Prop × AV) :=
 match zbn P t f with
 | some k =>
  match x with
  | .ref es off => some (True,.ref es (off + k))
  | .ptr l off => some (True,.ptr l (off + k))
  | .vp l s i off => some (True,.vp l s i (off + k))
  | _ => none
 | none => none
def bndA (d:Int):Option AV → Option Int
 | none => some d
 | some (.int _ n) => some n
 | some _ => none
def zoj (P:Program) (t:TypeId) (x:AV) (lo hi:Option AV):Option (Prop × AV) :=
 match x with
 | .sl es _ =>
  match zbs P t,bndA 0 lo,bndA es.length hi with
  | some (_,s),some l,some h => some (0 ≤ l ∧ l ≤ h ∧ h ≤ es.length ∧ (∀ e ∈ es,e.length = s),.sl ((es.drop l.toNat).take (h - l).toNat) .no)
  | _,_,_ => none
 | .ptr b off =>
  match zaX P t with
  | some (n,s) =>
   match bndA 0 lo,bndA n hi with
   | some l,some h => some (0 ≤ l ∧ l ≤ h ∧ h ≤ n ∧ (l < n),.arr b (off + l.toNat * s) (h - l).toNat s)
   | _,_ => none
  | none => none
 | .vec b s off len sz =>
  match zbs P t,bndA 0 lo,bndA len hi with
  | some (_,sz'),some l,some h => some (0 ≤ l ∧ l ≤ h ∧ h ≤ len ∧ sz = sz',.vec b s (off + l.toNat) (h - l).toNat sz)
  | _,_,_ => none
 | _ => none
/-! Maps. -/
def mapOf? (P:Program) (t:TypeId):Option (TypeId × TypeId) :=
 match P.underlying t with
 | some (.map k e) => some (k,e)
 | _ => none
def znE (x:Value):List Int:=x.cells.toList.map fun | .int _ z => z | _ => 0
theorem zi3 (a:List Int):znE (zer a) = a:=by
 simp [znE,zer,Value.cells,Function.comp_def]
structure zrg (P:Program) (k:TypeId) (n:Nat):Prop where
 check:∀ (w:World) (em:Bool) (a:List Int),a.length = n → (Instr.checkKey em 10000 k (zer a)).run P w = .ok () w
 find:∀ (w:World) (a:List Int) (es:List MapEntry),a.length = n → (∀ e ∈ es,∃ b:List Int,b.length = n ∧ e.key = zer b) →
  (Instr.findKey k (zer a) es).run P w = .ok (((es.findIdx? fun e => decide (znE e.key = a))).map fun i => (i,(es.getD i default).val)) w
 stays:∀ (w:World) (a:List Int),a.length = n → (Instr.keyThatStays (zer a) (zer a)).run P w = .ok (zer a) w
def zim (mem:List AObj):AV → Option (List (List Int) × List AV)
 | .mpr ks vs => some (ks,vs)
 | .mp l =>
  match zaa mem l with
  | .map ks vs => some (ks,vs)
  | _ => none
 | _ => none
def za1 (P:Program) (e:TypeId):Option AV :=
 match P.info? e with
 | some i => i.zero.map ofV
 | none => none
def zac (ks:List (List Int)) (k:List Int):Option Nat:=ks.findIdx? fun a => decide (a = k)
def zaq (ks:List (List Int)) (vs:List AV) (k:List Int) (v:AV):AObj :=
 match zac ks k with
 | some i => .map ks (vs.set i v)
 | none => .map (ks ++ [k]) (vs ++ [v])
def keyA (k:List Int):AV:=.agg (k.map (AV.int .i64))
def zfv (P:Program) (mem:List AObj) (t:TypeId) (m k:AV) (ok:Bool):Option (Prop × AV) :=
 match mapOf? P t,zim mem m,k with
 | some (kt,e),some (ks,vs),.agg cs =>
  match zab cs,za1 P e with
  | some a,some z =>
   let v:=match zac ks a with
    | some i => vs.getD i .undef
    | none => z
   some (zrg P kt a.length ∧ ∀ b ∈ ks,b.length = a.length,if ok then .tup [v,.bool (zac ks a).isSome] else v)
  | _,_ => none
 | _,_,_ => none
def zhQ (mem:List AObj) (it:AV):Option (Prop × AV) :=
 match it with
 | .ptr l 0 =>
  match zaa mem l with
  | .iter src n seen =>
   match zim mem src,seen.getLast? with
   | some (ks,vs),some i => some (ks.length = n ∧ i < n,.tup [keyA (ks.getD i []),vs.getD i .undef])
   | _,_ => none
  | _ => none
 | _ => none
def semV (P:Program) (mem:List AObj) (ρ:Operand → AV):Op → Option (Prop × AV)
 | .move x => some (True,ρ x)
 | .assign x => some (True,ρ x)
 | .load t a => zhG P mem t (ρ a)
 | .fieldAddr t x f => zgZ P t (ρ x) f
 | .field t x f =>
  match zbq P t f,ρ x with
  | some (off,ft),.agg cs => zjy P ft cs off
  | _,_ => none
 | .indexAddr t x i => zgY P t (ρ x) (ρ i)
 | .index t x i =>
  match zaX P t,za4 P t,ρ x,ρ i with
  | some (n,s),some e,.agg cs,.int _ i =>
   match zjy P e cs (i.toNat * s) with
   | some (p,v) => some ((0 ≤ i ∧ i < n) ∧ p,v)
   | none => none
  | _,_,_,_ => none
 | .binOp op t x y _ => binA P t op (ρ x) (ρ y)
 | .unOp .not _ x =>
  match ρ x with
  | .bool b => some (True,.bool (!b))
  | _ => none
 | .unOp .neg _ x =>
  match ρ x with
  | .int k n => some (InR k (-n),.int k (-n))
  | _ => none
 | .convert s d x =>
  match intOf? P s,intOf? P d,ρ x with
  | some _,some k,.int _ n => some (InR k n,.int k n)
  | _,_,_ => none
 | .makeFunc fn fst cap => some (True,.fn fn (fst.toList.map fun x => (ρ x).strip) (cap.toList.map fun x => (ρ x).strip))
 | .extract t i =>
  match ρ t with
  | .tup vs => some (i < vs.length,vs.getD i .undef)
  | _ => none
 | .nilCheck x =>
  match ρ x with
  | .ref es off => some (True,.ref es off)
  | .ptr l off => some (True,.ptr l off)
  | .vp l s i off => some (True,.vp l s i off)
  | _ => none
 | .build t parts => (zoQ P t (parts.toList.map fun q => (q.1,ρ q.2))).map fun v => (True,v)
 | .buildSlice t len parts => (zc6 P t len (parts.toList.map fun q => (q.1,ρ q.2))).map fun es => (True,.sl es .full)
 | .slice t x lo hi none => zoj P t (ρ x) (lo.map ρ) (hi.map ρ)
 | .lookup t x k ok => zfv P mem t (ρ x) (ρ k) ok
 | .entry it => zhQ mem (ρ it)
 | .call { callee:=.builtin .len,args:=args,argTypes:=ts } =>
  match args.toList,ts.toList with
  | [x],[t] =>
   match zbs P t with
   | some _ => znO (ρ x)
   | none => none
  | _,_ => none
 | .call { callee:=.builtin .min,args:=args,argTypes:=_ } => (minA (args.toList.map ρ)).map fun v => (True,v)
 | .call { callee:=.builtin .max,args:=args,argTypes:=_ } => (maxA (args.toList.map ρ)).map fun v => (True,v)
 | _ => none
def zel:Op → Bool
 | .move _ => true
 | .assign _ => true
 | .load _ _ => true
 | .indexAddr _ _ _ => true
 | .fieldAddr _ _ _ => true
 | .slice _ _ _ _ _ => true
 | .nilCheck _ => true
 | .build _ _ => true
 | _ => false
def zgz:List Prop → Prop
 | [] => True
 | p :: r => p ∧ zgz r
def pickA (c a b:AV):Option (Prop × AV) :=
 match c.un,a.un,b.un with
 | .bool c',.bool a',.bool b' => some (c.av ∧ (c' = true → a.av) ∧ (c' = false → b.av),.bool (if c' then a' else b'))
 | .bool c',.undef,.bool b' => some (c.av ∧ c' = false ∧ b.av,.bool b')
 | .bool c',.bool a',.undef => some (c.av ∧ c' = true ∧ a.av,.bool a')
 | _,_,_ => none
def sem (P:Program) (st:St) (op:Op):Option (Prop × AV) :=
 match op with
 | .pick c a b => pickA (evT st.tm c) (evT st.tm a) (evT st.tm b)
 | op =>
  match semV P st.mem (fun x => (evT st.tm x).un) op with
  | some (p,v) => some (zgz (op.operands.toList.map fun x => (evT st.tm x).av) ∧ p,if zel op then v else v.strip)
  | none => none
end Go.Fs
namespace Go.Fs
open Go.RowKit (Below)
abbrev Tc:=Nat → Option (Nat × Nat)
def blk (ρ:Lc) (τ:Tc) (l:Nat):AObj → Option Nat
 | .dead => none
 | .tok _ _ => (τ l).map (·.1)
 | .vec _ _ _ => (τ l).map (·.1)
 | _ => ρ l
def RelObj (κ:Kn) (ρ:Lc) (τ:Tc) (X:Nat → Prop) (w:World) (l:Nat):AObj → Prop
 | .dead => True
 | .cells cs => ∃ b vs T,ρ l = some b ∧ ¬ X b ∧ (∀ o,κ b o = none) ∧ w.heap[b]? = some (.cells vs T (0,0)) ∧ vs.size = cs.length ∧
   ∀ i,i < cs.length → Rep κ ρ (cs.getD i .undef) (vs.getD i Go.undef)
 | .tok n sz => τ l = none ∨ ∃ b c vs T,τ l = some (b,c) ∧ ¬ X b ∧ (∀ o,n * sz ≤ o → κ b o = none) ∧ w.heap[b]? = some (.cells vs T (0,0)) ∧ vs.size = c
 | .deferred => ∃ b,ρ l = some b ∧ ¬ X b ∧ w.heap[b]? = some (.deferred (some []))
 | .loop s pend tm n ps asg body => ∃ b lp,ρ l = some b ∧ ¬ X b ∧ w.heap[b]? = some (.loop lp) ∧ (lp.state = s ∧ lp.pending = pend ∧ lp.params = ps ∧ lp.assign = asg ∧ lp.body = body ∧ lp.tmps.size = n) ∧
   ∀ i,Rep κ ρ (lk tm i) (lp.tmps.getD i Go.undef)
 | .map ks vs => ∃ b es,ρ l = some b ∧ ¬ X b ∧ κ.m b = none ∧ w.heap[b]? = some (.map es es.size) ∧ RepMap κ ρ ks vs es
 | .iter src n seen => ∃ b mb,ρ l = some b ∧ ¬ X b ∧ w.heap[b]? = some (.mapIter (some mb) n seen.toArray n) ∧ Rep κ ρ src (.map (some mb))
 | .vec es sz _ => (∀ i,i < es.length → (es.getD i []).length = sz) ∧ ((τ l = none ∧ es = []) ∨ ∃ b c vs T,τ l = some (b,c) ∧ ¬ X b ∧ (∀ o,κ b o = none) ∧ w.heap[b]? = some (.cells vs T (0,0)) ∧ vs.size = c ∧
   es.length * sz ≤ c ∧ ∀ i j,i < es.length → j < sz → Rep κ ρ ((es.getD i []).getD j .undef) (vs.getD (i * sz + j) Go.undef))
theorem RelObj.mono {κ κ':Kn} {ρ ρ':Lc} {τ τ':Tc} {X:Nat → Prop} {w w':World} {l:Nat} {o:AObj} (h:RelObj κ ρ τ X w l o) (hle:κ.le κ') (hρ:ρ.le ρ')
  (hτ:(∀ n sz,o = .tok n sz → τ' l = τ l) ∧ ∀ es sz s,o = .vec es sz s → τ' l = τ l) (hh:∀ b,blk ρ τ l o = some b → w'.heap[b]? = w.heap[b]?)
  (hκ:∀ b,blk ρ τ l o = some b → (∀ x,κ' b x = κ b x) ∧ κ'.m b = κ.m b):RelObj κ' ρ' τ' X w' l o:=by
 cases o with
 | dead => trivial
 | cells cs =>
  obtain ⟨b,vs,T,h1,h2,h3,h4,h5,h6⟩:=h
  exact ⟨b,vs,T,hρ _ _ h1,h2,fun o => by rw [(hκ b h1).1]; exact h3 o,by rw [hh b h1]; exact h4,h5,fun i hi => (h6 i hi).mono hle hρ⟩
 | tok n sz =>
  rcases h with h | ⟨b,c,vs,T,h1,h2,h3,h4,h5⟩
  ·exact .inl (by rw [hτ.1 n sz rfl]; exact h)
  ·have hb:blk ρ τ l (.tok n sz) = some b:=by simp [blk,h1]
   exact .inr ⟨b,c,vs,T,by rw [hτ.1 n sz rfl]; exact h1,h2,fun o ho => by rw [(hκ b hb).1]; exact h3 o ho,by rw [hh b hb]; exact h4,h5⟩
 | deferred =>
  obtain ⟨b,h1,h2,h3⟩:=h
  exact ⟨b,hρ _ _ h1,h2,by rw [hh b h1]; exact h3⟩
 | loop s pend tm n ps asg body =>
  obtain ⟨b,lp,h1,h2,h3,h4,h5⟩:=h
  exact ⟨b,lp,hρ _ _ h1,h2,by rw [hh b h1]; exact h3,h4,fun i => (h5 i).mono hle hρ⟩
 | map ks vs =>
  obtain ⟨b,es,h1,h2,h3,h4,h5⟩:=h
  exact ⟨b,es,hρ _ _ h1,h2,by rw [(hκ b h1).2]; exact h3,by rw [hh b h1]; exact h4,h5.mono hle hρ⟩
 | iter src n seen =>
  obtain ⟨b,mb,h1,h2,h3,h4⟩:=h
  exact ⟨b,mb,hρ _ _ h1,h2,by rw [hh b h1]; exact h3,h4.mono hle hρ⟩
 | vec es sz s =>
  obtain ⟨h0,h⟩:=h
  refine ⟨h0,?_⟩
  rcases h with ⟨h,he⟩ | ⟨b,c,vs,T,h1,h2,h3,h4,h5,h6,h7⟩
  ·exact .inl ⟨by rw [hτ.2 es sz s rfl]; exact h,he⟩
  ·have hb:blk ρ τ l (.vec es sz s) = some b:=by simp [blk,h1]
   exact .inr ⟨b,c,vs,T,by rw [hτ.2 es sz s rfl]; exact h1,h2,fun o => by rw [(hκ b hb).1]; exact h3 o,by rw [hh b hb]; exact h4,h5,h6,fun i j hi hj => (h7 i j hi hj).mono hle hρ⟩
def Fits (τ:Tc) (l sz:Nat) (x:Value):Prop :=
 ∃ a len cap,x = .slice a len cap ∧ (cap = len ∨ ∃ b c,a = some ⟨b,0,none⟩ ∧ τ l = some (b,c) ∧ cap * sz ≤ c)
def OwnOK (τ:Tc) (mem:List AObj) (v:AV) (x:Value):Prop :=
 ∀ es l,v.un = .sl es (.own l) → v.av → ∃ n sz,zaa mem l = .tok n sz ∧ es.length ≤ n ∧ (es.length = n → Fits τ l sz x)
def zn2 (τ:Tc) (l off len sz n:Nat) (x:Value):Prop :=
 ∃ a cap,x = .slice a len cap ∧ len ≤ cap ∧ off + len ≤ n ∧ (cap = 0 ∨ ∃ b c,τ l = some (b,c) ∧ a = some ⟨b,off * sz,none⟩ ∧ (off + cap) * sz ≤ c)
def VpAt (τ:Tc) (l i off sz n:Nat) (x:Value):Prop:=∃ b c,τ l = some (b,c) ∧ i < n ∧ x = .pointer (some ⟨b,i * sz + off,none⟩)
structure Tok1 (τ:Tc) (mem:List AObj) (v:AV) (x:Value):Prop where
 own:OwnOK τ mem v x
 vec:∀ l s off len sz,v.un = .vec l s off len sz → v.av → ∃ es s',zaa mem l = .vec es sz s' ∧ s ≤ s' ∧ (s = s' → zn2 τ l off len sz es.length x)
 vp:∀ l s i off,v.un = .vp l s i off → v.av → ∃ es sz s',zaa mem l = .vec es sz s' ∧ s ≤ s' ∧ (s = s' → VpAt τ l i off sz es.length x)
structure TokOK (τ:Tc) (mem:List AObj) (v:AV) (x:Value):Prop extends Tok1 τ mem v x where
 agg:∀ cs xs,v.un = .agg cs → v.av → x = .agg xs → ∀ i,i < cs.length → Tok1 τ mem (cs.getD i .undef) (xs.getD i Go.undef)
def AV.tk1:AV → Bool
 | .sl _ (.own _) => true
 | .vec _ _ _ _ _ => true
 | .vp _ _ _ _ => true
 | _ => false
def AV.tkB:AV → Bool
 | .agg cs => cs.any fun c => c.un.tk1
 | v => v.tk1
theorem zcz {τ:Tc} {mem:List AObj} {v:AV} {x:Value} (h:v.un.tk1 = false):Tok1 τ mem v x :=
 ⟨fun es l e => by rw [e] at h; simp [AV.tk1] at h,fun l s off len sz e => by rw [e] at h; simp [AV.tk1] at h,fun l s i off e => by rw [e] at h; simp [AV.tk1] at h⟩
theorem zax {τ:Tc} {mem:List AObj} {v:AV} {x:Value} (h:v.un.tkB = false):TokOK τ mem v x:=by
 refine ⟨zcz ?_,fun cs xs e _ _ i hi => zcz ?_⟩
 ·generalize v.un = u at h
  cases u <;> first | rfl | exact h
 ·rw [e] at h
  simp only [AV.tkB,List.any_eq_false] at h
  have:=h (cs.getD i .undef) (by simp [List.getD,hi])
  simpa using this
theorem Tok1.full {τ:Tc} {mem:List AObj} {v:AV} {x:Value} (h:Tok1 τ mem v x) (hv:∀ cs,v.un ≠ .agg cs):TokOK τ mem v x:=⟨h,fun cs _ e => absurd e (hv cs)⟩
theorem zpK (v:AV):v.strip1.un.tk1 = false:=by
 cases v with
 | sl es tk => cases tk <;> rfl
 | _ => rfl
theorem Tok1.soft {τ:Tc} {mem:List AObj} {v:AV} {x:Value} (h:Tok1 τ mem v x):Tok1 τ mem v.soft x:=by
 cases v with
 | sl es tk => exact zcz (by cases tk <;> rfl)
 | _ => exact h
theorem tkB_strip:∀ v:AV,v.strip.tkB = false
 | .sl es tk => by cases tk <;> rfl
 | .onlyIf _ _ => rfl
 | .agg cs => by
  simp only [AV.strip,AV.tkB,List.any_map,List.any_eq_false]
  intro c _
  simp [zpK]
 | .undef | .int _ _ | .bool _ | .nilp | .nilf | .tup _ | .ref _ _ | .ptr _ _ | .arr _ _ _ _ | .fn _ _ _ | .mpr _ _ | .mp _ | .yld _ | .vec _ _ _ _ _ | .vp _ _ _ _ => rfl
theorem TokOK.strip {τ:Tc} {mem:List AObj} {v:AV} (x:Value):TokOK τ mem v.strip x:=zax (by rw [zog]; exact tkB_strip _)
theorem TokOK.bare {τ:Tc} {mem:List AObj} {v:AV} {x:Value} (h:TokOK τ mem v x):TokOK τ mem v.bare x:=by
 cases v with
 | sl es tk => exact zax rfl
 | _ => exact h
structure TStep (m:Nat) (τ:Tc) (mem:List AObj) (τ':Tc) (mem':List AObj):Prop where
 tok:∀ l n sz,l < m → zaa mem l = .tok n sz → ∃ n',zaa mem' l = .tok n' sz ∧ n ≤ n' ∧ (n' = n → τ' l = τ l)
 vec:∀ l es sz s,l < m → zaa mem l = .vec es sz s → ∃ es' s',zaa mem' l = .vec es' sz s' ∧ s ≤ s' ∧ (s' = s → es'.length = es.length ∧ τ' l = τ l)
theorem TStep.refl (m:Nat) (τ:Tc) (mem:List AObj):TStep m τ mem τ mem:=⟨fun _ n _ _ h => ⟨n,h,czf _,fun _ => rfl⟩,fun _ es _ s _ h => ⟨es,s,h,czf _,fun _ => ⟨rfl,rfl⟩⟩⟩
theorem TStep.trans {m:Nat} {τ τ' τ'':Tc} {a b c:List AObj} (h:TStep m τ a τ' b) (h':TStep m τ' b τ'' c):TStep m τ a τ'' c:=by
 refine ⟨fun l n sz hl hm => ?_,fun l es sz s hl hm => ?_⟩
 ·obtain ⟨n',h1,h2,h3⟩:=h.tok l n sz hl hm
  obtain ⟨n'',g1,g2,g3⟩:=h'.tok l n' sz hl h1
  refine ⟨n'',g1,by omega,fun e => ?_⟩
  rw [g3 (by omega),h3 (by omega)]
 ·obtain ⟨es',s',h1,h2,h3⟩:=h.vec l es sz s hl hm
  obtain ⟨es'',s'',g1,g2,g3⟩:=h'.vec l es' sz s' hl h1
  refine ⟨es'',s'',g1,by omega,fun e => ?_⟩
  have a1:=h3 (by omega)
  have a2:=g3 (by omega)
  exact ⟨a2.1.trans a1.1,a2.2.trans a1.2⟩
theorem TStep.le {m k:Nat} {τ τ':Tc} {a b:List AObj} (h:TStep m τ a τ' b) (hk:k ≤ m):TStep k τ a τ' b :=
 ⟨fun l n sz hl => h.tok l n sz (by omega),fun l es sz s hl => h.vec l es sz s (by omega)⟩
theorem TStep.same {m:Nat} {τ τ':Tc} {a b:List AObj} (h:∀ l,l < m → zaa b l = zaa a l) (ht:∀ l,l < m → τ' l = τ l):TStep m τ a τ' b :=
 ⟨fun l n _ hl hm => ⟨n,by rw [h l hl]; exact hm,czf _,fun _ => ht l hl⟩,fun l es _ s hl hm => ⟨es,s,by rw [h l hl]; exact hm,czf _,fun _ => ⟨rfl,ht l hl⟩⟩⟩
theorem zhB {mem:List AObj} {l:Nat} {o:AObj} (h:zaa mem l = o) (ho:o ≠ .dead):l < mem.length:=by
 by_cases h2:l < mem.length
 ·exact h2
 ·unfold zaa at h
  simp [List.getD,czB (czE h2)] at h
  exact absurd h.symm ho
theorem Tok1.move {τ τ':Tc} {mem mem':List AObj} {v:AV} {x:Value} (h:Tok1 τ mem v x) (hs:TStep mem.length τ mem τ' mem'):Tok1 τ' mem' v x:=by
 refine ⟨fun es l e ha => ?_,fun l s off len sz e ha => ?_,fun l s i off e ha => ?_⟩
 ·obtain ⟨n,sz,h1,h2,h3⟩:=h.own es l e ha
  obtain ⟨n',g1,g2,g3⟩:=hs.tok l n sz (zhB h1 (by simp)) h1
  refine ⟨n',sz,g1,by omega,fun e' => ?_⟩
  obtain ⟨a,len,cap,hx,hc⟩:=h3 (by omega)
  exact ⟨a,len,cap,hx,hc.imp id fun ⟨b,c,k1,k2,k3⟩ => ⟨b,c,k1,by rw [g3 (by omega)]; exact k2,k3⟩⟩
 ·obtain ⟨es,s',h1,h2,h3⟩:=h.vec l s off len sz e ha
  obtain ⟨es',s'',g1,g2,g3⟩:=hs.vec l es sz s' (zhB h1 (by simp)) h1
  refine ⟨es',s'',g1,by omega,fun e' => ?_⟩
  have k:=g3 (by omega)
  obtain ⟨a,cap,q1,q2,q3,q4⟩:=h3 (by omega)
  exact ⟨a,cap,q1,q2,by rw [k.1]; exact q3,q4.imp id fun ⟨b,c,r1,r2,r3⟩ => ⟨b,c,by rw [k.2]; exact r1,r2,r3⟩⟩
 ·obtain ⟨es,sz,s',h1,h2,h3⟩:=h.vp l s i off e ha
  obtain ⟨es',s'',g1,g2,g3⟩:=hs.vec l es sz s' (zhB h1 (by simp)) h1
  refine ⟨es',sz,s'',g1,by omega,fun e' => ?_⟩
  have k:=g3 (by omega)
  obtain ⟨b,c,q1,q2,q3⟩:=h3 (by omega)
  exact ⟨b,c,by rw [k.2]; exact q1,by rw [k.1]; exact q2,q3⟩
theorem TokOK.move {τ τ':Tc} {mem mem':List AObj} {v:AV} {x:Value} (h:TokOK τ mem v x) (hs:TStep mem.length τ mem τ' mem'):TokOK τ' mem' v x :=
 ⟨h.toTok1.move hs,fun cs xs e ha ex i hi => (h.agg cs xs e ha ex i hi).move hs⟩
theorem TokOK.only {τ:Tc} {mem:List AObj} {g:Bool} {v:AV} {x:Value} (h:g = true → TokOK τ mem v x):TokOK τ mem (.onlyIf g v) x :=
 ⟨⟨fun es l e ha => (h ha.1).own es l e ha.2,fun l s off len sz e ha => (h ha.1).vec l s off len sz e ha.2,fun l s i off e ha => (h ha.1).vp l s i off e ha.2⟩,fun cs xs e ha ex i hi => (h ha.1).agg cs xs e ha.2 ex i hi⟩
structure zcw (κ:Kn) (w:World):Prop where
 c:∀ b o v,κ b o = some v → w.cell? ⟨b,o,none⟩ = some v
 m:∀ b es,κ.m b = some es → w.heap[b]? = some (.map es es.size)
structure RelM (κ:Kn) (ρ:Lc) (τ:Tc) (X:Nat → Prop) (mem:List AObj) (w:World):Prop where
 obj:∀ l,RelObj κ ρ τ X w l (zaa mem l)
 inj:∀ l l' b,blk ρ τ l (zaa mem l) = some b → blk ρ τ l' (zaa mem l') = some b → l = l'
 know:zcw κ w
 dom:∀ l,mem.length ≤ l → ρ l = none
 toks:∀ l cs b vs T,zaa mem l = .cells cs → ρ l = some b → w.heap[b]? = some (.cells vs T (0,0)) → ∀ i,i < cs.length → TokOK τ mem (cs.getD i .undef) (vs.getD i Go.undef)
structure Grow (κ:Kn) (w:World) (κ':Kn) (w':World):Prop where
 le:κ.le κ'
 know:zcw κ' w'
 below:Below w.heap.size w w'
 old:∀ b o,b < w.heap.size → κ' b o = κ b o
 oldm:∀ b,b < w.heap.size → κ'.m b = κ.m b
theorem zeh {w:World} {b o:Nat} {v:Value} (h:w.cell? ⟨b,o,none⟩ = some v):b < w.heap.size:=by
 unfold World.cell? at h
 by_cases hb:b < w.heap.size
 ·exact hb
 ·simp [Array.getElem?_eq_none (czE hb)] at h
theorem Grow.refl {κ:Kn} {w:World} (h:zcw κ w):Grow κ w κ w :=
 ⟨Kn.le_refl _,h,Below.refl _ _,fun _ _ _ => rfl,fun _ _ => rfl⟩
theorem ze6 {w:World} {b:Nat} {es:Array MapEntry} (o:Obj) (h:w.heap[b]? = some (.map es es.size)):(w.heap.push o)[b]? = some (.map es es.size):=by
 have hb:b < w.heap.size:=by
  by_cases hb:b < w.heap.size
  ·exact hb
  ·simp [Array.getElem?_eq_none (czE hb)] at h
 rw [Array.getElem?_push,if_neg (by omega)]
 exact h
theorem zcG {w:World} {b:Nat} {o:Obj} (h:w.heap[b]? = some o):b < w.heap.size:=by
 by_cases hb:b < w.heap.size
 ·exact hb
 ·simp [Array.getElem?_eq_none (czE hb)] at h
theorem RelM.blk_lt {κ:Kn} {ρ:Lc} {τ:Tc} {X:Nat → Prop} {w:World} {mem:List AObj} (h:RelM κ ρ τ X mem w) {l b:Nat} (hb:blk ρ τ l (zaa mem l) = some b):b < w.heap.size:=by
 have ho:=h.obj l
 cases hm:zaa mem l with
 | dead => rw [hm] at hb; cases hb
 | cells cs =>
  rw [hm] at ho hb
  obtain ⟨b',vs,T,h1,_,_,h4,_⟩:=ho
  simp only [blk] at hb
  rw [hb] at h1; cases h1; exact zcG h4
 | tok n sz =>
  rw [hm] at ho hb
  simp only [blk] at hb
  rcases ho with ho | ⟨b',c,vs,T,h1,_,_,h4,_⟩
  ·rw [ho] at hb; cases hb
  ·rw [h1] at hb; cases hb; exact zcG h4
 | vec es sz s =>
  rw [hm] at ho hb
  simp only [blk] at hb
  rcases ho.2 with ⟨ho,_⟩ | ⟨b',c,vs,T,h1,_,_,h4,_⟩
  ·rw [ho] at hb; cases hb
  ·rw [h1] at hb; cases hb; exact zcG h4
 | deferred =>
  rw [hm] at ho hb
  obtain ⟨b',h1,_,h4⟩:=ho
  simp only [blk] at hb
  rw [hb] at h1; cases h1; exact zcG h4
 | loop s pend tm n ps asg body =>
  rw [hm] at ho hb
  obtain ⟨b',lp,h1,_,h4,_⟩:=ho
  simp only [blk] at hb
  rw [hb] at h1; cases h1; exact zcG h4
 | map ks vs =>
  rw [hm] at ho hb
  obtain ⟨b',es,h1,_,_,h4,_⟩:=ho
  simp only [blk] at hb
  rw [hb] at h1; cases h1; exact zcG h4
 | iter src n seen =>
  rw [hm] at ho hb
  obtain ⟨b',mb,h1,_,h4,_⟩:=ho
  simp only [blk] at hb
  rw [hb] at h1; cases h1; exact zcG h4
theorem zbl (b o n:Nat):(⟨b,o,none⟩:Addr).add n = ⟨b,o + n,none⟩:=by
 unfold Addr.add; split <;> simp_all
section runs
variable {P:Program} {w:World}
theorem zaR {t:TypeId} {n:Nat} (h:zbu P t = some n):(sizeOf t).run P w = .ok n w:=by
 unfold zbu at h
 cases hi:P.info? t with
 | none => simp [hi] at h
 | some i =>
  simp [hi] at h
  simp [sizeOf,run_typeInfo w hi,h,Result.andThen]
theorem zdl {t:TypeId} {b:Bool} (h:zaT P t = some b):(isAgg t).run P w = .ok b w:=by
 unfold zaT at h
 cases hd:P.underlying t with
 | none => simp [hd] at h
 | some d =>
  simp [hd] at h
  subst h
  simp only [isAgg,Sem.run_bind,run_underlying hd,Result.andThen]
  cases d <;> simp [aggD]
theorem zbQ (n:Nat) (f:Nat → Value) (i:Nat) (hi:i < n):(((List.range n).map f).toArray).getD i Go.undef = f i:=by
 simp [hi]
theorem zeB {t:TypeId} {n b o:Nat} (f:Nat → Value) (ha:zaT P t = some true) (hs:zbu P t = some n)
  (hc:∀ j,j < n → w.cell? ⟨b,o + j,none⟩ = some (f j)):(loadVar t ⟨b,o,none⟩).run P w = .ok (.agg ((List.range n).map f).toArray) w:=by
 have hl:(loadCells ⟨b,o,none⟩ n).run P w = .ok ((List.range n).map f).toArray w :=
  run_loadCells w _ n f (fun j hj => by rw [zbl]; exact hc j hj)
 simp only [loadVar,Sem.run_bind,zdl ha,Result.andThen,if_true,zaR hs,hl,Sem.run_pure]
theorem zeA {t:TypeId} {a:Addr} {v:Value} (ha:zaT P t = some false) (hc:w.cell? a = some v) :
  (loadVar t a).run P w = .ok v w:=by
 simp [loadVar,zdl ha,Result.andThen,hc]
theorem zeS (vs:Array Value) (off n i:Nat) (h:off + n ≤ vs.size) (hi:i < n):(vs.extract off (off + n)).getD i Go.undef = vs.getD (off + i) Go.undef:=by
 have h1:i < (vs.extract off (off + n)).size:=by simp; omega
 have h2:off + i < vs.size:=by omega
 simp only [Array.getD,h1,h2,dite_true]
 simp [Array.getInternal_eq_getElem]
theorem zcU (cs:List AV) (off n i:Nat) (hi:i < n):(((cs.drop off).take n).map AV.strip).getD i .undef = (cs.getD (off + i) .undef).strip:=by
 rw [zbz]
 simp [List.getD,hi]
theorem zdG (cs:List AV) (off n i:Nat) (hi:i < n):((cs.drop off).take n).getD i .undef = cs.getD (off + i) .undef:=by
 simp [List.getD,hi]
theorem ziK {κ:Kn} {ρ:Lc} {t:TypeId} {cs:List AV} {vs:Array Value} {off:Nat} {p:Prop} {v:AV} (hs:vs.size = cs.length)
  (hr:∀ i,i < cs.length → Rep κ ρ (cs.getD i .undef) (vs.getD i Go.undef)) (h:zjy P t cs off = some (p,v)) (hp:p) :
  ∃ x,(part t vs off).run P w = .ok x w ∧ Rep κ ρ v x:=by
 unfold zjy at h
 split at h
 ·rename_i n ha hz
  simp only [czg,czh] at h
  obtain ⟨rfl,rfl⟩:=h
  refine ⟨.agg (vs.extract off (off + n)),by simp [part,zdl ha,zaR hz,Result.andThen],.agg _ _ ?_ ?_⟩
  ·simp; omega
  ·intro i hi
   simp at hi
   rw [zeS _ _ _ _ (by omega) (by omega),zcU _ _ _ _ (by omega)]
   exact (hr _ (by omega)).strip
 ·rename_i ha
  simp only [czg,czh] at h
  obtain ⟨rfl,rfl⟩:=h
  refine ⟨vs.getD off Go.undef,?_,hr _ hp⟩
  have h2:off < vs.size:=by omega
  simp [part,zdl ha,Result.andThen,h2]
 ·cases h
theorem ziT {κ:Kn} {ρ:Lc} {t:TypeId} {cs:List AV} {off b o:Nat} {val:Nat → Value} {p:Prop} {v:AV}
  (hc:∀ j,j < cs.length → w.cell? ⟨b,o + j,none⟩ = some (val j))
  (hr:∀ j,j < cs.length → Rep κ ρ (cs.getD j .undef) (val j)) (h:zjy P t cs off = some (p,v)) (hp:p) :
  ∃ x,(loadVar t ⟨b,o + off,none⟩).run P w = .ok x w ∧ Rep κ ρ v x:=by
 unfold zjy at h
 split at h
 ·rename_i n ha hz
  simp only [czg,czh] at h
  obtain ⟨rfl,rfl⟩:=h
  refine ⟨_,zeB (fun j => val (off + j)) ha hz (fun j hj => by rw [Nat.add_assoc]; exact hc _ (by omega)),.agg _ _ ?_ ?_⟩
  ·simp; omega
  ·intro i hi
   simp at hi
   rw [zbQ _ _ _ (by omega),zcU _ _ _ _ (by omega)]
   exact (hr _ (by omega)).strip
 ·rename_i ha
  simp only [czg,czh] at h
  obtain ⟨rfl,rfl⟩:=h
  exact ⟨_,zeA ha (hc _ hp),hr _ hp⟩
 ·cases h
theorem zds (cs:List AV) (off n i:Nat) (hi:i < n):(((cs.drop off).take n).map AV.soft).getD i .undef = (cs.getD (off + i) .undef).soft:=by
 rw [zdj]
 simp [List.getD,hi]
theorem zng {κ:Kn} {ρ:Lc} {τ:Tc} {mem:List AObj} {t:TypeId} {cs:List AV} {off b o:Nat} {val:Nat → Value} {p:Prop} {v:AV}
  (hc:∀ j,j < cs.length → w.cell? ⟨b,o + j,none⟩ = some (val j))
  (hr:∀ j,j < cs.length → Rep κ ρ (cs.getD j .undef) (val j)) (ht:∀ j,j < cs.length → TokOK τ mem (cs.getD j .undef) (val j)) (h:zp9 P t cs off = some (p,v)) (hp:p) :
  ∃ x,(loadVar t ⟨b,o + off,none⟩).run P w = .ok x w ∧ Rep κ ρ v x ∧ TokOK τ mem v x:=by
 unfold zp9 at h
 split at h
 ·rename_i n ha hz
  simp only [czg,czh] at h
  obtain ⟨rfl,rfl⟩:=h
  refine ⟨_,zeB (fun j => val (off + j)) ha hz (fun j hj => by rw [Nat.add_assoc]; exact hc _ (by omega)),.agg _ _ ?_ ?_,zcz rfl,fun cs' xs e _ ex i hi => ?_⟩
  ·simp; omega
  ·intro i hi
   simp at hi
   rw [zbQ _ _ _ (by omega),zds _ _ _ _ (by omega)]
   exact (hr _ (by omega)).soft
  ·cases e
   cases ex
   simp at hi
   rw [zbQ _ _ _ (by omega),zds _ _ _ _ (by omega)]
   exact (ht _ (by omega)).toTok1.soft
 ·rename_i ha
  simp only [czg,czh] at h
  obtain ⟨rfl,rfl⟩:=h
  exact ⟨_,zeA ha (hc _ hp),hr _ hp,ht _ hp⟩
 ·cases h
theorem zbC {w:World} {b o:Nat} {vs:Array Value} {T:TypeId} {fr:Nat × Nat} (h:w.heap[b]? = some (.cells vs T fr)) (ho:o < vs.size) :
  w.cell? ⟨b,o,none⟩ = some (vs.getD o Go.undef):=by
 simp [World.cell?,h,ho]
theorem zhF {κ:Kn} {ρ:Lc} {τ:Tc} {X:Nat → Prop} {mem:List AObj} {t:TypeId} {a v:AV} {x:Value} {p:Prop} (hm:RelM κ ρ τ X mem w)
  (ha:Rep κ ρ a x) (hat:TokOK τ mem a x) (h:zhG P mem t a = some (p,v)) (hp:p):∃ y,(Instr.loadAt t x).run P w = .ok y w ∧ Rep κ ρ v y ∧ TokOK τ mem v y:=by
 unfold zhG at h
 split at h
 ·rename_i es off
  cases ha with
  | ref _ _ b o val hk hr =>
   split at h
   ·rename_i q u hq
    obtain ⟨rfl,rfl⟩:=Prod.mk.inj (czK h)
    obtain ⟨y,hy,hv⟩:=ziT (w:=w) (P:=P) (fun j hj => hm.know.c _ _ _ (hk j hj)) hr hq hp
    exact ⟨y,by simp [Instr.loadAt,Instr.sureAddr,hy],hv.strip,TokOK.strip _⟩
   ·cases h
 ·rename_i l off
  split at h
  ·rename_i cs hl
   obtain ⟨b,hb,rfl⟩:=ha.ptr_inv
   have ho:=hm.obj l
   rw [hl] at ho
   obtain ⟨b',vs,T,hb',_,_,hh,hs,hr⟩:=ho
   obtain rfl:b = b':=by rw [hb] at hb'; exact czK hb'
   obtain ⟨y,hy,hv,hvt⟩:=zng (w:=w) (P:=P) (b:=b) (o:=0) (val:=fun j => vs.getD j Go.undef)
    (fun j hj => by simp only [Nat.zero_add]; exact zbC hh (by omega)) hr (hm.toks l cs b vs T hl hb hh) h hp
   simp only [Nat.zero_add] at hy
   exact ⟨y,by simp [Instr.loadAt,Instr.sureAddr,hy],hv,hvt⟩
  ·cases h
 ·rename_i l s i off
  split at h
  ·rename_i es sz s' hl
   split at h
   ·rename_i q u hq
    obtain ⟨rfl,rfl⟩:=Prod.mk.inj (czK h)
    obtain ⟨rfl,hq'⟩:=hp
    obtain ⟨es',sz',s'',k1,_,k3⟩:=hat.vp l s i off rfl trivial
    rw [hl] at k1
    cases k1
    obtain ⟨b,c,g1,g2,rfl⟩:=k3 rfl
    have ho:=hm.obj l
    rw [hl] at ho
    obtain ⟨e0,e1⟩:=ho
    rcases e1 with ⟨e1,_⟩ | ⟨b',c',vs,T,f1,_,_,f4,f5,f6,f7⟩
    ·rw [g1] at e1; cases e1
    rw [g1] at f1
    cases f1
    have hli:=e0 i g2
    have hlt:i * sz + sz ≤ c:=by
     have:(i + 1) * sz ≤ es.length * sz:=czq sz g2
     rw [Nat.add_mul] at this; omega
    obtain ⟨y,hy,hv⟩:=ziT (w:=w) (P:=P) (b:=b) (o:=i * sz) (val:=fun j => vs.getD (i * sz + j) Go.undef)
     (fun j hj => zbC f4 (by rw [hli] at hj; omega)) (fun j hj => f7 i j g2 (by rw [hli] at hj; exact hj)) hq hq'
    exact ⟨y,by simp [Instr.loadAt,Instr.sureAddr,hy],hv.strip,TokOK.strip _⟩
   ·cases h
  ·cases h
 ·cases h
end runs
end Go.Fs
namespace Go.Fs
open Go.RowKit (Below)
section
variable {P:Program} {w:World}
theorem zeC (op:BinOp) (t:TypeId) (x y:Operand) (k k':IntKind) (a b:Int):(eqGuard op t x y (.int k a) (.int k' b)).run P w = .ok () w:=by
 cases op <;> simp [eqGuard]
theorem zgF (op:BinOp) (t:TypeId) (x y:Operand) (a b:Bool):(eqGuard op t x y (.bool a) (.bool b)).run P w = .ok () w:=by
 cases op <;> simp [eqGuard]
theorem inR_le {k:IntKind} {x z:Int} (h:InR k x) (h0:0 ≤ z) (h1:z ≤ x):InR k z:=by
 cases k <;> simp only [InR] at * <;> omega
theorem zcF {k:IntKind} {x:Int} (h:InR k x) (h0:0 ≤ x):(BitVec.ofInt k.bits x).toNat = x.toNat:=by
 simp only [BitVec.toNat_ofInt]
 rw [Int.emod_eq_of_lt h0]
 cases k <;> simp only [InR,IntKind.bits] at * <;> omega
theorem zj7 {n:Nat} (a b:BitVec n):(a &&& ~~~b).toNat = a.toNat - (a.toNat &&& b.toNat):=by
 have h1:(a &&& ~~~b) &&& (a &&& b) = 0#n:=by
  ext i hi
  simp
  intro _ h _
  exact h
 have h2:=BitVec.add_eq_or_of_and_eq_zero _ _ h1
 have h3:(a &&& ~~~b) ||| (a &&& b) = a:=by
  ext i hi
  simp
  cases a[i] <;> cases b[i] <;> rfl
 have h4:(a &&& ~~~b) = a - (a &&& b):=by
  rw [h3] at h2
  rw [BitVec.eq_sub_iff_add_eq]
  exact h2
 rw [h4,BitVec.toNat_sub_of_le,BitVec.toNat_and]
 rw [BitVec.le_def,BitVec.toNat_and]
 exact Nat.and_le_left
theorem or_in {k:IntKind} {x y:Int} (hx:InR k x) (hy:InR k y) (h0:0 ≤ x) (h1:0 ≤ y):InR k ((x.toNat ||| y.toNat:Nat):Int):=by
 have key:∀ m:Nat,x < 2 ^ m → y < 2 ^ m → ((x.toNat ||| y.toNat:Nat):Int) < 2 ^ m:=by
  intro m hx hy
  have:x.toNat ||| y.toNat < 2 ^ m:=Nat.or_lt_two_pow (by
   have:((x.toNat:Nat):Int) < ((2 ^ m:Nat):Int):=by push_cast; omega
   exact_mod_cast this) (by
   have:((y.toNat:Nat):Int) < ((2 ^ m:Nat):Int):=by push_cast; omega
   exact_mod_cast this)
  exact_mod_cast this
 cases k <;> simp only [InR] at *
 ·have:=key 7 (by omega) (by omega); omega
 ·have:=key 15 (by omega) (by omega); omega
 ·have:=key 31 (by omega) (by omega); omega
 ·have:=key 63 (by omega) (by omega); omega
 ·have:=key 8 (by omega) (by omega); omega
 ·have:=key 16 (by omega) (by omega); omega
 ·have:=key 32 (by omega) (by omega); omega
 ·have:=key 64 (by omega) (by omega); omega
theorem zfx:∀ {cs:List AV} {xs:List Int},zab cs = some xs → xs.length = cs.length ∧ ∀ j,j < cs.length → cs.getD j .undef = .int .i64 (xs.getD j 0)
 | [],xs,h => by simp [zab] at h; subst h; exact ⟨rfl,fun j hj => by simp at hj⟩
 | c :: r,xs,h => by
  unfold zab at h
  split at h
  ·rename_i heq; cases heq
  ·rename_i n r' heq
   obtain ⟨rfl,rfl⟩:=List.cons.inj heq
   simp only [czr] at h
   obtain ⟨l,hl,rfl⟩:=h
   obtain ⟨h1,h2⟩:=zfx hl
   refine ⟨by simp [h1],fun j hj => ?_⟩
   cases j with
   | zero => simp
   | succ j => simpa using h2 j (by simpa using hj)
  ·cases h
theorem intOf?_some {t:TypeId} (h:(intOf? P t).isSome = true):∃ k,P.underlying t = some (.int k):=by
 unfold intOf? at h
 split at h
 ·exact ⟨_,‹_›⟩
 ·simp at h
theorem aggOf_int {t:TypeId} {k:IntKind} (h:P.underlying t = some (.int k)):zaT P t = some false:=by simp [zaT,h,aggD]
theorem zbE {t:TypeId} {k:IntKind} {vs:Array Value} {off:Nat} (h:P.underlying t = some (.int k)) (ho:off < vs.size) :
  (part t vs off).run P w = .ok (vs.getD off Go.undef) w:=by
 simp [part,zdl (aggOf_int h),Result.andThen,ho]
theorem zd0 (xs:List Int) (i:Nat) (h:i < xs.length):xs.drop i = xs.getD i 0 :: xs.drop (i + 1):=by
 rw [List.drop_eq_getElem_cons h]
 simp [List.getD,h]
theorem zcS (d:Nat) {vs ws:Array Value} {xs ys:List Int} (hv:∀ j,j < xs.length → vs.getD j Go.undef = .int .i64 (xs.getD j 0))
  (hw:∀ j,j < ys.length → ws.getD j Go.undef = .int .i64 (ys.getD j 0)) (h1:vs.size = xs.length) (h2:ws.size = ys.length) (h3:xs.length = ys.length) :
  ∀ (fs:List Field) (i:Nat),zdT P i fs = true → i + fs.length = xs.length →
   (Op.eqFields (d + 1) vs ws fs).run P w = .ok (decide (xs.drop i = ys.drop i)) w
 | [],i,_,hi => by
  simp at hi
  subst hi
  simp [Op.eqFields,h3]
 | f :: r,i,hf,hi => by
  simp only [zdT,czl,bne_iff_ne,ne_eq,beq_iff_eq] at hf
  obtain ⟨hn,rfl,hk,hr⟩:=hf
  obtain ⟨k,hk⟩:=intOf?_some hk
  simp only [cza] at hi
  have ih:=zcS d hv hw h1 h2 h3 r (f.offset + 1) hr (by omega)
  have e1:(part f.type vs f.offset).run P w = .ok (.int .i64 (xs.getD f.offset 0)) w:=by rw [zbE hk (by omega),hv _ (by omega)]
  have e2:(part f.type ws f.offset).run P w = .ok (.int .i64 (ys.getD f.offset 0)) w:=by rw [zbE hk (by omega),hw _ (by omega)]
  simp only [Op.eqFields,hn,ne_eq,not_false_eq_true,if_true,Sem.run_bind,e1,e2,Result.andThen_ok,run_equalIn_int w d _ _ _ _ _ hk]
  rw [zd0 xs _ (by omega),zd0 ys _ (by omega)]
  by_cases hh:xs.getD f.offset 0 = ys.getD f.offset 0
  ·simp only [hh,beq_self_eq_true,Bool.not_true,czp,if_false,ih,List.cons.injEq,true_and]
  ·have hb:(xs.getD f.offset 0 == ys.getD f.offset 0) = false:=by rw [beq_eq_false_iff_ne]; exact hh
   simp only [hb,Bool.not_false,if_true,Sem.run_pure,List.cons.injEq,hh,false_and,decide_false]
theorem zdk (d n:Nat) {e:TypeId} {k:IntKind} (he:P.underlying e = some (.int k)) (hs:P.cellsOf e = 1) {vs ws:Array Value} {xs ys:List Int} (hv:∀ j,j < xs.length → vs.getD j Go.undef = .int .i64 (xs.getD j 0))
  (hw:∀ j,j < ys.length → ws.getD j Go.undef = .int .i64 (ys.getD j 0)) (h1:vs.size = xs.length) (h2:ws.size = ys.length) (h3:xs.length = ys.length) :
  ∀ (m i:Nat),i + m = xs.length →
   (Op.eqItems (d + 1) e (P.cellsOf e) vs ws (List.range' i m)).run P w = .ok (decide (xs.drop i = ys.drop i)) w
 | 0,i,hi => by
  simp at hi
  subst hi
  simp [Op.eqItems,h3]
 | m + 1,i,hi => by
  have ih:=zdk d n he hs hv hw h1 h2 h3 m (i + 1) (by omega)
  have e1:(part e vs (i * P.cellsOf e)).run P w = .ok (.int .i64 (xs.getD i 0)) w:=by rw [hs,Nat.mul_one,zbE he (by omega),hv _ (by omega)]
  have e2:(part e ws (i * P.cellsOf e)).run P w = .ok (.int .i64 (ys.getD i 0)) w:=by rw [hs,Nat.mul_one,zbE he (by omega),hw _ (by omega)]
  simp only [List.range'_succ,Op.eqItems,Sem.run_bind,e1,e2,Result.andThen_ok,run_equalIn_int w d _ _ _ _ _ he]
  rw [zd0 xs _ (by omega),zd0 ys _ (by omega)]
  by_cases hh:xs.getD i 0 = ys.getD i 0
  ·simp only [hh,beq_self_eq_true,Bool.not_true,czp,if_false,ih,List.cons.injEq,true_and]
  ·have hb:(xs.getD i 0 == ys.getD i 0) = false:=by rw [beq_eq_false_iff_ne]; exact hh
   simp only [hb,Bool.not_false,if_true,Sem.run_pure,List.cons.injEq,hh,false_and,decide_false]
theorem zgQ {κ:Kn} {ρ:Lc} {cs:List AV} {vs:Array Value} {xs:List Int} (hs:vs.size = cs.length)
  (hr:∀ i,i < cs.length → Rep κ ρ (cs.getD i .undef) (vs.getD i Go.undef)) (h:zab cs = some xs) :
  vs.size = xs.length ∧ ∀ j,j < xs.length → vs.getD j Go.undef = .int .i64 (xs.getD j 0):=by
 obtain ⟨h1,h2⟩:=zfx h
 refine ⟨by omega,fun j hj => ?_⟩
 have:=hr j (by omega)
 rw [h2 j (by omega)] at this
 exact this.int_inv
theorem zcn {t:TypeId} {m:Nat} {vs:Array Value} {off:Nat} (ha:zaT P t = some true) (hs:zbu P t = some m) (h:off + m ≤ vs.size) :
  (part t vs off).run P w = .ok (.agg (vs.extract off (off + m))) w:=by
 simp [part,zdl ha,zaR hs,Result.andThen]
theorem zqJ (xs ys:List Int) (i m:Nat) (hx:i + m ≤ xs.length) (hy:i + m ≤ ys.length) :
  decide (xs.drop i = ys.drop i) = (decide ((xs.drop i).take m = (ys.drop i).take m) && decide (xs.drop (i + m) = ys.drop (i + m))):=by
 rw [← Bool.decide_and,decide_eq_decide]
 rw [← List.drop_drop,← List.drop_drop]
 constructor
 ·intro h; rw [h]; exact ⟨rfl,rfl⟩
 ·rintro ⟨h1,h2⟩
  rw [← List.take_append_drop m (xs.drop i),← List.take_append_drop m (ys.drop i),h1,h2]
theorem zc1 {vs:Array Value} {xs:List Int} (hv:∀ j,j < xs.length → vs.getD j Go.undef = .int .i64 (xs.getD j 0)) (h1:vs.size = xs.length) {i m:Nat} (hi:i + m ≤ xs.length) :
  (vs.extract i (i + m)).size = ((xs.drop i).take m).length ∧ ∀ j,j < ((xs.drop i).take m).length → (vs.extract i (i + m)).getD j Go.undef = .int .i64 (((xs.drop i).take m).getD j 0):=by
 have hl:((xs.drop i).take m).length = m:=by simp; omega
 refine ⟨by rw [hl]; simp; omega,fun j hj => ?_⟩
 rw [hl] at hj
 rw [zeS _ _ _ _ (by omega) hj,hv _ (by omega)]
 congr 1
 simp [List.getD,hj]
theorem zi0 {t:TypeId} {m:Nat} (h:flatN P t = some m):(m = 1 ∧ ∃ k,P.underlying t = some (.int k)) ∨
  (P.stoodInHeld t = false ∧ ∃ fs,P.underlying t = some (.struct fs) ∧ zdT P 0 fs.toList = true ∧ zbu P t = some m ∧ m = fs.size) ∨
  ∃ e q i,P.underlying t = some (.array m e) ∧ zbu P t = some m ∧ P.underlying e = some (.int q) ∧ P.info? e = some i ∧ P.cellsOf e = 1:=by
 unfold flatN at h
 split at h
 ·rename_i k hk
  left
  exact ⟨by simpa using h.symm,intOf?_some (by rw [hk]; rfl)⟩
 ·right
  split at h
  ·rename_i hs
   split at h
   ·rename_i fs hu
    split at h
    ·rename_i hf
     simp at h
     subst h
     exact .inl ⟨hs,fs,hu,hf.1,hf.2,rfl⟩
    ·cases h
   ·rename_i n e hu
    split at h
    ·rename_i hf
     simp at h
     subst h
     obtain ⟨⟨h1,h2⟩,h3⟩:=hf
     obtain ⟨q,hq⟩:=intOf?_some h2
     unfold zbu at h1
     cases hi:P.info? e with
     | none => simp [hi] at h1
     | some i => exact .inr ⟨e,q,i,hu,h3,hq,hi,by simp [Program.cellsOf,hi] at *; exact h1⟩
    ·cases h
   ·cases h
  ·cases h
theorem zdN (d:Nat) {vs ws:Array Value} {xs ys:List Int} (hv:∀ j,j < xs.length → vs.getD j Go.undef = .int .i64 (xs.getD j 0))
  (hw:∀ j,j < ys.length → ws.getD j Go.undef = .int .i64 (ys.getD j 0)) (h1:vs.size = xs.length) (h2:ws.size = ys.length) (h3:xs.length = ys.length) :
  ∀ (fs:List Field) (i n:Nat),zch P i fs = some n → n = xs.length → i ≤ n ∧
   (Op.eqFields (d + 2) vs ws fs).run P w = .ok (decide (xs.drop i = ys.drop i)) w
 | [],i,n,hf,hn => by
  simp [zch] at hf
  subst hf
  subst hn
  simp [Op.eqFields,h3]
 | f :: r,i,n,hf,hn => by
  unfold zch at hf
  split at hf
  ·rename_i hfo
   obtain ⟨hnm,rfl⟩:=hfo
   split at hf
   ·rename_i m hm
    obtain ⟨hle,ih⟩:=zdN d hv hw h1 h2 h3 r (f.offset + m) n hf hn
    refine ⟨by omega,?_⟩
    rw [zqJ xs ys f.offset m (by omega) (by omega)]
    have hq:∃ q:Bool,q = decide ((xs.drop f.offset).take m = (ys.drop f.offset).take m) ∧ ∃ e1 e2,(part f.type vs f.offset).run P w = .ok e1 w ∧ (part f.type ws f.offset).run P w = .ok e2 w ∧
      (Op.equalIn (d + 2) f.type e1 e2).run P w = .ok q w:=by
     rcases zi0 hm with ⟨rfl,k,hk⟩ | ⟨hst,fs',hu,hif,hsz,hms⟩ | ⟨e,q,i',hu,hsz,hue,hi,hc⟩
     ·refine ⟨xs.getD f.offset 0 == ys.getD f.offset 0,?_,_,_,by rw [zbE hk (by omega),hv _ (by omega)],by rw [zbE hk (by omega),hw _ (by omega)],by rw [run_equalIn_int w (d + 1) _ _ _ _ _ hk]⟩
      rw [zd0 xs _ (by omega),zd0 ys _ (by omega)]
      by_cases hh:xs.getD f.offset 0 = ys.getD f.offset 0
      ·rw [hh]; simp
      ·have hb:(xs.getD f.offset 0 == ys.getD f.offset 0) = false:=by rw [beq_eq_false_iff_ne]; exact hh
       rw [hb]
       simp only [List.take_succ_cons,List.take_zero,List.cons.injEq,hh,false_and,decide_false]
     ·have hagg:zaT P f.type = some true:=by simp [zaT,hu,aggD]
      obtain ⟨a1,a2⟩:=zc1 hv h1 (i:=f.offset) (m:=m) (by omega)
      obtain ⟨b1,b2⟩:=zc1 hw h2 (i:=f.offset) (m:=m) (by omega)
      have hl1:((xs.drop f.offset).take m).length = m:=by simp; omega
      have hl2:((ys.drop f.offset).take m).length = m:=by simp; omega
      refine ⟨_,rfl,_,_,zcn hagg hsz (by omega),zcn hagg hsz (by omega),?_⟩
      have hfo:P.fieldsOf f.type = fs':=by simp [Program.fieldsOf,hu]
      rw [run_equalIn_struct w (d + 1) f.type _ _ (by rw [hfo]; exact hu) hst,hfo]
      have:=zcS (P:=P) (w:=w) d a2 b2 a1 b1 (by omega) fs'.toList 0 hif (by rw [hl1]; simp; omega)
      simpa using this
     ·have hagg:zaT P f.type = some true:=by simp [zaT,hu,aggD]
      obtain ⟨a1,a2⟩:=zc1 hv h1 (i:=f.offset) (m:=m) (by omega)
      obtain ⟨b1,b2⟩:=zc1 hw h2 (i:=f.offset) (m:=m) (by omega)
      have hl1:((xs.drop f.offset).take m).length = m:=by simp; omega
      have hl2:((ys.drop f.offset).take m).length = m:=by simp; omega
      refine ⟨_,rfl,_,_,zcn hagg hsz (by omega),zcn hagg hsz (by omega),?_⟩
      rw [run_equalIn_array w (d + 1) _ _ hu hi,List.range_eq_range']
      have:=zdk (P:=P) (w:=w) d m hue hc a2 b2 a1 b1 (by omega) m 0 (by omega)
      simpa using this
    obtain ⟨q,hqe,e1,e2,g1,g2,g3⟩:=hq
    simp only [Op.eqFields,hnm,ne_eq,not_false_eq_true,if_true,Sem.run_bind,g1,g2,Result.andThen_ok,g3]
    rw [← hqe]
    cases q
    ·simp
    ·simp [ih]
   ·cases hf
  ·cases hf
theorem zqG {κ:Kn} {ρ:Lc} {t:TypeId} {cs ds:List AV} {vs ws:Array Value} {n:Nat} {xs ys:List Int} (hk:zaL P t = some n) (hx:zab cs = some xs) (hy:zab ds = some ys) (hl1:xs.length = n) (hl2:ys.length = n)
  (hs1:vs.size = cs.length) (hr1:∀ i,i < cs.length → Rep κ ρ (cs.getD i .undef) (vs.getD i Go.undef))
  (hs2:ws.size = ds.length) (hr2:∀ i,i < ds.length → Rep κ ρ (ds.getD i .undef) (ws.getD i Go.undef)) :
  P.eqGuardType P.depth t = false ∧ (Op.equal t (.agg vs) (.agg ws)).run P w = .ok (decide (xs = ys)) w:=by
 ·skip
  obtain ⟨a1,a2⟩:=zgQ hs1 hr1 hx
  obtain ⟨b1,b2⟩:=zgQ hs2 hr2 hy
  unfold zaL at hk
  split at hk
  ·rename_i hg
   refine ⟨hg.1,?_⟩
   split at hk
   ·rename_i fs hu
    split at hk
    ·rename_i hf
     simp at hk
     have hfo:P.fieldsOf t = fs:=by simp [Program.fieldsOf,hu]
     show (Op.equalIn (9999 + 1) t _ _).run P w = _
     rw [run_equalIn_struct w _ t vs ws (by rw [hfo]; exact hu) hg.2,hfo]
     have:=zcS (P:=P) (w:=w) 9998 a2 b2 a1 b1 (by omega) fs.toList 0 hf (by simp; omega)
     simpa using this
    ·cases hk
   ·rename_i m e hu
    split at hk
    ·rename_i q h1 h2
     simp at hk
     subst hk
     have hue:P.underlying e = some (.int q):=by
      unfold intOf? at h2
      split at h2
      ·rename_i hh; simp at h2; subst h2; exact hh
      ·cases h2
     unfold zbu at h1
     cases hi:P.info? e with
     | none => simp [hi] at h1
     | some i =>
      have hc:P.cellsOf e = 1:=by simp [Program.cellsOf,hi] at *; exact h1
      show (Op.equalIn (9999 + 1) t _ _).run P w = _
      rw [run_equalIn_array w 9999 vs ws hu hi,List.range_eq_range']
      have:=zdk (P:=P) (w:=w) 9998 m hue hc a2 b2 a1 b1 (by omega) m 0 (by omega)
      simpa using this
    ·cases hk
   ·cases hk
  ·cases hk
theorem zgx:∀ {cs:List AV} {xs:List Bool},zei cs = some xs → xs.length = cs.length ∧ ∀ j,j < cs.length → cs.getD j .undef = .bool (xs.getD j false)
 | [],xs,h => by simp [zei] at h; subst h; exact ⟨rfl,fun j hj => by simp at hj⟩
 | c :: r,xs,h => by
  unfold zei at h
  split at h
  ·rename_i heq; cases heq
  ·rename_i n r' heq
   obtain ⟨rfl,rfl⟩:=List.cons.inj heq
   simp only [czr] at h
   obtain ⟨l,hl,rfl⟩:=h
   obtain ⟨h1,h2⟩:=zgx hl
   refine ⟨by simp [h1],fun j hj => ?_⟩
   cases j with
   | zero => simp
   | succ j => simpa using h2 j (by simpa using hj)
  ·cases h
theorem zkF {κ:Kn} {ρ:Lc} {cs:List AV} {vs:Array Value} {xs:List Bool} (hs:vs.size = cs.length)
  (hr:∀ i,i < cs.length → Rep κ ρ (cs.getD i .undef) (vs.getD i Go.undef)) (h:zei cs = some xs) :
  vs.size = xs.length ∧ ∀ j,j < xs.length → vs.getD j Go.undef = .bool (xs.getD j false):=by
 obtain ⟨h1,h2⟩:=zgx h
 refine ⟨by omega,fun j hj => ?_⟩
 have:=hr j (by omega)
 rw [h2 j (by omega)] at this
 exact this.bool_inv
theorem znR {t:TypeId} (ht:zaG P t = true):P.underlying t = some .bool:=by
 unfold zaG at ht
 split at ht
 ·assumption
 ·cases ht
theorem zfH {t:TypeId} {vs:Array Value} {off:Nat} (h:P.underlying t = some .bool) (ho:off < vs.size) :
  (part t vs off).run P w = .ok (vs.getD off Go.undef) w:=by
 simp [part,zdl (show zaT P t = some false by simp [zaT,h,aggD]),Result.andThen,ho]
theorem zi2 (xs:List Bool) (i:Nat) (h:i < xs.length):xs.drop i = xs.getD i false :: xs.drop (i + 1):=by
 rw [List.drop_eq_getElem_cons h]
 simp [List.getD,h]
theorem zek (d n:Nat) {e:TypeId} (he:P.underlying e = some .bool) (hs:P.cellsOf e = 1) {vs ws:Array Value} {xs ys:List Bool} (hv:∀ j,j < xs.length → vs.getD j Go.undef = .bool (xs.getD j false))
  (hw:∀ j,j < ys.length → ws.getD j Go.undef = .bool (ys.getD j false)) (h1:vs.size = xs.length) (h2:ws.size = ys.length) (h3:xs.length = ys.length) :
  ∀ (m i:Nat),i + m = xs.length →
   (Op.eqItems (d + 1) e (P.cellsOf e) vs ws (List.range' i m)).run P w = .ok (decide (xs.drop i = ys.drop i)) w
 | 0,i,hi => by
  simp at hi
  subst hi
  simp [Op.eqItems,h3]
 | m + 1,i,hi => by
  have ih:=zek d n he hs hv hw h1 h2 h3 m (i + 1) (by omega)
  have e1:(part e vs (i * P.cellsOf e)).run P w = .ok (.bool (xs.getD i false)) w:=by rw [hs,Nat.mul_one,zfH he (by omega),hv _ (by omega)]
  have e2:(part e ws (i * P.cellsOf e)).run P w = .ok (.bool (ys.getD i false)) w:=by rw [hs,Nat.mul_one,zfH he (by omega),hw _ (by omega)]
  simp only [List.range'_succ,Op.eqItems,Sem.run_bind,e1,e2,Result.andThen_ok,run_equalIn_bool w d _ _ _ he]
  rw [zi2 xs _ (by omega),zi2 ys _ (by omega)]
  by_cases hh:xs.getD i false = ys.getD i false
  ·simp only [hh,beq_self_eq_true,Bool.not_true,czp,if_false,ih,List.cons.injEq,true_and]
  ·have hb:(xs.getD i false == ys.getD i false) = false:=by rw [beq_eq_false_iff_ne]; exact hh
   simp only [hb,Bool.not_false,if_true,Sem.run_pure,List.cons.injEq,hh,false_and,decide_false]
theorem zqF {κ:Kn} {ρ:Lc} {t:TypeId} {cs ds:List AV} {vs ws:Array Value} {n:Nat} {xs ys:List Bool} (hk:za3 P t = some n) (hx:zei cs = some xs) (hy:zei ds = some ys) (hl1:xs.length = n) (hl2:ys.length = n)
  (hs1:vs.size = cs.length) (hr1:∀ i,i < cs.length → Rep κ ρ (cs.getD i .undef) (vs.getD i Go.undef))
  (hs2:ws.size = ds.length) (hr2:∀ i,i < ds.length → Rep κ ρ (ds.getD i .undef) (ws.getD i Go.undef)) :
  P.eqGuardType P.depth t = false ∧ (Op.equal t (.agg vs) (.agg ws)).run P w = .ok (decide (xs = ys)) w:=by
 obtain ⟨a1,a2⟩:=zkF hs1 hr1 hx
 obtain ⟨b1,b2⟩:=zkF hs2 hr2 hy
 unfold za3 at hk
 split at hk
 ·rename_i hg
  refine ⟨hg,?_⟩
  split at hk
  ·rename_i m e hu
   split at hk
   ·rename_i h12
    obtain ⟨h1,h2⟩:=h12
    simp at hk
    subst hk
    have hue:=znR h2
    unfold zbu at h1
    cases hi:P.info? e with
    | none => simp [hi] at h1
    | some i =>
     have hc:P.cellsOf e = 1:=by simp [Program.cellsOf,hi] at *; exact h1
     show (Op.equalIn (9999 + 1) t _ _).run P w = _
     rw [run_equalIn_array w 9999 vs ws hu hi,List.range_eq_range']
     have:=zek (P:=P) (w:=w) 9998 m hue hc a2 b2 a1 b1 (by omega) m 0 (by omega)
     simpa using this
   ·cases hk
  ·cases hk
 ·cases hk
theorem zhP {κ:Kn} {ρ:Lc} {t:TypeId} {cs ds:List AV} {vs ws:Array Value} {p:Prop} {r:Bool} (h:eqA P t cs ds = some (p,r)) (hp:p)
  (hs1:vs.size = cs.length) (hr1:∀ i,i < cs.length → Rep κ ρ (cs.getD i .undef) (vs.getD i Go.undef))
  (hs2:ws.size = ds.length) (hr2:∀ i,i < ds.length → Rep κ ρ (ds.getD i .undef) (ws.getD i Go.undef)) :
  P.eqGuardType P.depth t = false ∧ (Op.equal t (.agg vs) (.agg ws)).run P w = .ok r w:=by
 unfold eqA at h
 split at h
 rotate_left
 ·split at h
  ·rename_i n xs ys hk hx hy
   simp only [czg,czh] at h
   obtain ⟨rfl,rfl⟩:=h
   exact zqF hk hx hy hp.1 hp.2 hs1 hr1 hs2 hr2
  ·cases h
 rename_i n hk2
 split at h
 ·rename_i xs ys hx hy
  simp only [czg,czh] at h
  obtain ⟨rfl,rfl⟩:=h
  obtain ⟨hl1,hl2⟩:=hp
  unfold zaC at hk2
  split at hk2
  ·rename_i n' hk
   simp only [czg] at hk2
   subst hk2
   exact zqG hk hx hy hl1 hl2 hs1 hr1 hs2 hr2
  ·obtain ⟨a1,a2⟩:=zgQ hs1 hr1 hx
   obtain ⟨b1,b2⟩:=zgQ hs2 hr2 hy
   unfold zg0 at hk2
   split at hk2
   ·rename_i hg
    refine ⟨hg.1,?_⟩
    split at hk2
    ·rename_i fs hu
     have hfo:P.fieldsOf t = fs:=by simp [Program.fieldsOf,hu]
     show (Op.equalIn (9999 + 1) t _ _).run P w = _
     rw [run_equalIn_struct w _ t vs ws (by rw [hfo]; exact hu) hg.2,hfo]
     have:=(zdN (P:=P) (w:=w) 9997 a2 b2 a1 b1 (by omega) fs.toList 0 n hk2 (by omega)).2
     simpa using this
    ·cases hk2
   ·cases hk2
 ·cases h
theorem zqT {κ:Kn} {ρ:Lc} {op:BinOp} {t:TypeId} {xo yo:Operand} {a b v:AV} {x y:Value} {p:Prop}
  (ha:Rep κ ρ a x) (hb:Rep κ ρ b y) (h:binA P t op a b = some (p,v)) (hp:p) :
  ∃ z,(do eqGuard op t xo yo x y; binOp op t x y:Sem Value).run P w = .ok z w ∧ Rep κ ρ v z:=by
 unfold binA at h
 split at h
 ·rename_i k n k' m
  obtain rfl:=ha.int_inv
  obtain rfl:=hb.int_inv
  simp only [Sem.run_bind,zeC,Result.andThen]
  cases op <;> simp only [czg,czh,reduceCtorEq] at h <;> obtain ⟨rfl,rfl⟩:=h
  case add => obtain ⟨rfl,hp⟩:=hp; exact ⟨_,by simp [binOp,Op.intArith,zdD hp],.int _ _⟩
  case sub => obtain ⟨rfl,hp⟩:=hp; exact ⟨_,by simp [binOp,Op.intArith,zdD hp],.int _ _⟩
  case mul => obtain ⟨rfl,hp⟩:=hp; exact ⟨_,by simp [binOp,Op.intArith,zdD hp],.int _ _⟩
  case quo =>
   obtain ⟨rfl,h0,h1,hr⟩:=hp
   have e:n.tdiv m = n / m:=Int.tdiv_eq_ediv_of_nonneg h0
   have h2:InR k (n / m):=inR_le hr (Int.ediv_nonneg h0 (by omega)) (Int.ediv_le_self _ h0)
   exact ⟨_,by simp [binOp,Op.intDiv,e,zdD h2,show ¬ m = 0 by omega],.int _ _⟩
  case rem =>
   obtain ⟨rfl,h0,h1⟩:=hp
   have e:n.tmod m = n % m:=Int.tmod_eq_emod_of_nonneg h0
   exact ⟨_,by simp [binOp,Op.intDiv,e,show ¬ m = 0 by omega],.int _ _⟩
  case eql => subst hp; exact ⟨.bool (n == m),by simp [binOp,Op.intCmp],by rw [show (n == m) = decide (n = m) from rfl]; exact .bool _⟩
  case neq => subst hp; exact ⟨.bool (n != m),by simp [binOp,Op.intCmp],by rw [show (n != m) = !decide (n = m) from rfl]; exact .bool _⟩
  case lss => subst hp; exact ⟨_,by simp [binOp,Op.intCmp],.bool _⟩
  case leq => subst hp; exact ⟨_,by simp [binOp,Op.intCmp],.bool _⟩
  case gtr => subst hp; exact ⟨_,by simp [binOp,Op.intCmp],.bool _⟩
  case geq => subst hp; exact ⟨_,by simp [binOp,Op.intCmp],.bool _⟩
  case shl =>
   obtain ⟨h0,h1,hr⟩:=hp
   have hm:min m.toNat k.bits = m.toNat:=by omega
   exact ⟨_,by simp [binOp,Op.shift,hm,zdD hr,show ¬ m < 0 by omega],.int _ _⟩
  case shr =>
   obtain ⟨hx,h0,h1⟩:=hp
   have hm:min m.toNat k.bits = m.toNat:=by omega
   have e:n.fdiv (2 ^ m.toNat) = n / 2 ^ m.toNat:=Int.fdiv_eq_ediv_of_nonneg _ (Int.pow_nonneg (by omega))
   exact ⟨_,by simp [binOp,Op.shift,hm,e,show ¬ m < 0 by omega],.int _ _⟩
  case and =>
   obtain ⟨rfl,h0,h1,hx,hy⟩:=hp
   have h2:InR k ((n.toNat &&& m.toNat:Nat):Int):=inR_le hx (by omega) (by have:=@Nat.and_le_left n.toNat m.toNat; omega)
   exact ⟨_,by simp only [binOp,Op.intBits,ne_eq,not_true_eq_false,if_false,BitVec.toNat_and,zcF hx h0,zcF hy h1,zdD h2,Sem.run_pure],.int _ _⟩
  case or =>
   obtain ⟨rfl,h0,h1,hx,hy⟩:=hp
   have h2:=or_in hx hy h0 h1
   exact ⟨_,by simp only [binOp,Op.intBits,ne_eq,not_true_eq_false,if_false,BitVec.toNat_or,zcF hx h0,zcF hy h1,zdD h2,Sem.run_pure],.int _ _⟩
  case andNot =>
   obtain ⟨rfl,h0,h1,hx,hy⟩:=hp
   have h2:InR k ((n.toNat - (n.toNat &&& m.toNat):Nat):Int):=inR_le hx (by omega) (by omega)
   exact ⟨_,by simp only [binOp,Op.intBits,ne_eq,not_true_eq_false,if_false,zj7,zcF hx h0,zcF hy h1,zdD h2,Sem.run_pure],.int _ _⟩
 ·rename_i c d
  obtain rfl:=ha.bool_inv
  obtain rfl:=hb.bool_inv
  simp only [Sem.run_bind,zgF,Result.andThen]
  have hb:∀ {t},zaG P t = true → P.underlying t = some .bool:=by
   intro t ht
   unfold zaG at ht
   split at ht
   ·assumption
   ·cases ht
  cases op <;> simp only [czg,czh,reduceCtorEq] at h <;> obtain ⟨rfl,rfl⟩:=h
  case eql => exact ⟨.bool (c == d),by simp [binOp,run_equal_bool w t c d (hb hp)],.bool _⟩
  case neq => exact ⟨.bool (c != d),by simp [binOp,run_equal_bool w t c d (hb hp)]; cases c <;> cases d <;> rfl,.bool _⟩
 ·rename_i cs ds
  obtain ⟨vs,rfl,hs1,hr1⟩:=ha.agg_inv
  obtain ⟨ws,rfl,hs2,hr2⟩:=hb.agg_inv
  cases op <;> simp only [czr,czh,reduceCtorEq] at h
  case eql =>
   obtain ⟨⟨q,r⟩,hq,rfl,rfl⟩:=h
   obtain ⟨h1,h2⟩:=zhP (w:=w) hq hp hs1 hr1 hs2 hr2
   exact ⟨.bool r,by simp [run_eqGuard_agg w _ _ _ _ _ _ h1,binOp,h2],.bool _⟩
  case neq =>
   obtain ⟨⟨q,r⟩,hq,rfl,rfl⟩:=h
   obtain ⟨h1,h2⟩:=zhP (w:=w) hq hp hs1 hr1 hs2 hr2
   exact ⟨.bool (!r),by simp [run_eqGuard_agg w _ _ _ _ _ _ h1,binOp,h2],.bool _⟩
 ·cases h
end
end Go.Fs
namespace Go.Fs
open Go.RowKit (Below)
section
variable {P:Program} {w:World}
theorem Rep.cells {κ:Kn} {ρ:Lc} {v:AV} {x:Value} (h:Rep κ ρ v x) (hs:v.solid = true) :
  x.cells.size = v.cells.length ∧ ∀ i,i < v.cells.length → Rep κ ρ (v.cells.getD i .undef) (x.cells.getD i Go.undef):=by
 cases h with
 | agg cs vs h1 h2 => exact ⟨h1,h2⟩
 | int k n => exact ⟨rfl,fun i hi => by
                     obtain rfl:i = 0:=by simpa [AV.cells] using hi
                     exact .int _ _⟩
 | bool b => exact ⟨rfl,fun i hi => by
                    obtain rfl:i = 0:=by simpa [AV.cells] using hi
                    exact .bool _⟩
 | nilp => exact ⟨rfl,fun i hi => by
                   obtain rfl:i = 0:=by simpa [AV.cells] using hi
                   exact .nilp⟩
 | nilf => exact ⟨rfl,fun i hi => by
                   obtain rfl:i = 0:=by simpa [AV.cells] using hi
                   exact .nilf⟩
 | slnil tok => exact ⟨rfl,fun i hi => by
                      obtain rfl:i = 0:=by simpa [AV.cells] using hi
                      exact .slnil _⟩
 | sl es tok b o cap sz val h1 h2 h3 h4 h5 => exact ⟨rfl,fun i hi => by
   obtain rfl:i = 0:=by simpa [AV.cells] using hi
   exact .sl es tok b o cap sz val h1 h2 h3 h4 h5⟩
 | ref es off b o val h1 h2 => exact ⟨rfl,fun i hi => by
   obtain rfl:i = 0:=by simpa [AV.cells] using hi
   exact .ref es off b o val h1 h2⟩
 | ptr l off b hl => exact ⟨rfl,fun i hi => by
   obtain rfl:i = 0:=by simpa [AV.cells] using hi
   exact .ptr l off b hl⟩
 | arr l off len sz b cap hl hc => exact ⟨rfl,fun i hi => by
   obtain rfl:i = 0:=by simpa [AV.cells] using hi
   exact .arr l off len sz b cap hl hc⟩
 | fn f fst cap vs ws h1 h2 h3 h4 => exact ⟨rfl,fun i hi => by
   obtain rfl:i = 0:=by simpa [AV.cells] using hi
   exact .fn f fst cap vs ws h1 h2 h3 h4⟩
 | mpr ks vs b es h1 h2 h3 h4 h5 => exact ⟨rfl,fun i hi => by
   obtain rfl:i = 0:=by simpa [AV.cells] using hi
   exact .mpr ks vs b es h1 h2 h3 h4 h5⟩
 | mp l b hl => exact ⟨rfl,fun i hi => by
   obtain rfl:i = 0:=by simpa [AV.cells] using hi
   exact .mp l b hl⟩
 | yld l b hl => exact ⟨rfl,fun i hi => by
   obtain rfl:i = 0:=by simpa [AV.cells] using hi
   exact .yld l b hl⟩
 | vec l s off len sz a cap h => exact ⟨rfl,fun i hi => by
   obtain rfl:i = 0:=by simpa [AV.cells] using hi
   exact .vec l s off len sz a cap h⟩
 | vp l s i off a => exact ⟨rfl,fun j hi => by
   obtain rfl:j = 0:=by simpa [AV.cells] using hi
   exact .vp l s i off a⟩
 | undef x => simp [AV.solid,AV.one] at hs
 | tup cs vs h1 h2 => simp [AV.solid,AV.one] at hs
 | onlyIf g v x h h0 => simp [AV.solid,AV.one] at hs
def RepL (κ:Kn) (ρ:Lc) (cs:List AV) (vs:Array Value):Prop :=
 vs.size = cs.length ∧ ∀ i,i < cs.length → Rep κ ρ (cs.getD i .undef) (vs.getD i Go.undef)
theorem zeR (cs vs:List AV) (off i:Nat) (h:off + vs.length ≤ cs.length) :
  (zan cs off vs).getD i .undef = if off ≤ i ∧ i < off + vs.length then vs.getD (i - off) .undef else cs.getD i .undef:=by
 unfold zan
 simp only [List.getD,czd]
 by_cases h1:i < off
 ·rw [czi (by simp; omega),if_neg (by omega),czR]
  simp [h1]
 ·rw [czj (by simp; omega)]
  simp only [czO,Nat.min_eq_left (show off ≤ cs.length by omega)]
  by_cases h2:i < off + vs.length
  ·rw [czi (by omega),if_pos (by omega)]
  ·rw [czj (by omega),if_neg (by omega),czQ]
   congr 2
   omega
theorem zbI (cs vs:List AV) (off:Nat) (h:off + vs.length ≤ cs.length):(zan cs off vs).length = cs.length:=by
 simp [zan]; omega
theorem zla (xs:List Value) (off:Nat):∀ (j:Nat) (cells:Array Value),off + j + xs.length ≤ cells.size →
  ((xs.zipIdx j).foldl (fun cs (c,j) => cs.setIfInBounds (off + j) c) cells).size = cells.size ∧
  ∀ i,((xs.zipIdx j).foldl (fun cs (c,j) => cs.setIfInBounds (off + j) c) cells).getD i Go.undef =
   if off + j ≤ i ∧ i < off + j + xs.length then xs.getD (i - (off + j)) Go.undef else cells.getD i Go.undef:=by
 induction xs with
 | nil => intro j cells _; simp; intro i h1 h2; omega
 | cons x xs ih =>
  intro j cells h
  simp only [cza] at h
  simp only [List.zipIdx_cons,List.foldl_cons]
  obtain ⟨h1,h2⟩:=ih (j + 1) (cells.setIfInBounds (off + j) x) (by simp; omega)
  refine ⟨by rw [h1]; simp,fun i => ?_⟩
  rw [h2 i]
  have e0:off + (j + 1) = off + j + 1:=by omega
  rw [e0]
  by_cases ha:off + j + 1 ≤ i ∧ i < off + j + 1 + xs.length
  ·rw [if_pos ha,if_pos (by simp; omega)]
   obtain ⟨d,rfl⟩:∃ d,i = off + j + 1 + d:=⟨i - (off + j + 1),by omega⟩
   have:off + j + 1 + d - (off + j) = d + 1:=by omega
   rw [this,show off + j + 1 + d - (off + j + 1) = d by omega]
   simp
  ·rw [if_neg ha]
   by_cases hb:i = off + j
   ·subst hb
    rw [if_pos (by simp)]
    have hlt:off + j < cells.size:=by omega
    simp [Array.getD,hlt]
   ·rw [if_neg (by simp; omega)]
    simp only [Array.getD,Array.size_setIfInBounds]
    split
    ·rename_i hi
     simp only [Array.getInternal_eq_getElem]
     rw [Array.getElem_setIfInBounds_ne]
     exact fun h => hb h.symm
    ·rfl
theorem zdZ {κ:Kn} {ρ:Lc} {place placeC:Nat → Option (Nat × Nat)} (hpl:∀ i,place i = placeC i) :
  ∀ {parts:List (Nat × AV)} {partsC:List (Nat × Value)} {cells cells':List AV} {vs:Array Value},
   partsC.length = parts.length → (∀ i,i < parts.length → (partsC.getD i (0,Go.undef)).1 = (parts.getD i (0,.undef)).1 ∧ Rep κ ρ (parts.getD i (0,.undef)).2 (partsC.getD i (0,Go.undef)).2) →
   RepL κ ρ cells vs → zeV place cells parts = some cells' → ∃ vs',Instr.fill placeC vs partsC = some vs' ∧ RepL κ ρ cells' vs'
 | [],[],cells,cells',vs,_,_,hc,h => by simp [zeV] at h; subst h; exact ⟨vs,rfl,hc⟩
 | [],_ :: _,_,_,_,hl,_,_,_ => by simp at hl
 | _ :: _,[],_,_,_,hl,_,_,_ => by simp at hl
 | (i,v) :: rest,(i',x) :: restC,cells,cells',vs,hl,hr,hc,h => by
  have h0:=hr 0 (by simp)
  simp only [List.getD_cons_zero] at h0
  obtain ⟨rfl,hv⟩:=h0
  unfold zeV at h
  split at h
  ·cases h
  ·rename_i off size hp
   split at h
   ·rename_i hcond
    obtain ⟨hsolid,hsize,hfit⟩:=hcond
    obtain ⟨e1,e2⟩:=hv.cells hsolid
    have hcs:=hc.1
    obtain ⟨f1,f2⟩:=zla x.cells.toList off 0 vs (by simp; omega)
    have hnext:RepL κ ρ (zan cells off v.cells) (x.cells.zipIdx.foldl (fun cs (c,j) => cs.setIfInBounds (off + j) c) vs):=by
     have hz:x.cells.zipIdx.foldl (fun cs (c,j) => cs.setIfInBounds (off + j) c) vs = (x.cells.toList.zipIdx 0).foldl (fun cs (c,j) => cs.setIfInBounds (off + j) c) vs:=by
      rw [← Array.foldl_toList,Array.toList_zipIdx]
     rw [hz]
     refine ⟨by rw [f1,zbI _ _ _ hfit]; exact hcs,fun k hk => ?_⟩
     rw [zbI _ _ _ hfit] at hk
     rw [f2 k,zeR _ _ _ _ hfit]
     simp only [Nat.add_zero,Array.length_toList,e1]
     split
     ·rename_i hin
      have:=e2 (k - off) (by omega)
      rw [show x.cells.toList.getD (k - off) Go.undef = x.cells.getD (k - off) Go.undef by simp [List.getD,czo]]
      exact this
     ·exact hc.2 k hk
    obtain ⟨vs',hf,hR⟩:=zdZ hpl (parts:=rest) (partsC:=restC) (by simpa using hl) (fun k hk => by simpa using hr (k + 1) (by simpa using hk)) hnext h
    refine ⟨vs',?_,hR⟩
    unfold Instr.fill
    rw [← hpl,hp]
    dsimp only
    rw [if_neg (by rw [e1]; simp; omega)]
    exact hf
   ·cases h
theorem tok_cells {κ:Kn} {ρ:Lc} {τ:Tc} {mem:List AObj} {v:AV} {x:Value} (hr:Rep κ ρ v x) (ht:TokOK τ mem v x) (hs:v.solid = true) (i:Nat) (hi:i < v.cells.length) :
  Tok1 τ mem (v.cells.getD i .undef) (x.cells.getD i Go.undef):=by
 have one:v.cells = [v] → x.cells.getD 0 Go.undef = x → Tok1 τ mem (v.cells.getD i .undef) (x.cells.getD i Go.undef):=fun h1 h2 => by
  rw [h1] at hi ⊢
  obtain rfl:i = 0:=by simpa using hi
  rw [h2]
  exact ht.toTok1
 cases hr with
 | agg cs vs h1 h2 => exact ht.agg cs vs rfl trivial rfl i hi
 | undef => simp [AV.solid,AV.one] at hs
 | tup => simp [AV.solid,AV.one] at hs
 | onlyIf => simp [AV.solid,AV.one] at hs
 | _ => exact one rfl rfl
theorem zjQ {κ:Kn} {ρ:Lc} {τ:Tc} {mem:List AObj} {place placeC:Nat → Option (Nat × Nat)} (hpl:∀ i,place i = placeC i) :
  ∀ {parts:List (Nat × AV)} {partsC:List (Nat × Value)} {cells cells':List AV} {vs vs':Array Value},
   partsC.length = parts.length → (∀ i,i < parts.length → (partsC.getD i (0,Go.undef)).1 = (parts.getD i (0,.undef)).1 ∧ Rep κ ρ (parts.getD i (0,.undef)).2 (partsC.getD i (0,Go.undef)).2) →
   (∀ i,i < parts.length → TokOK τ mem (parts.getD i (0,.undef)).2 (partsC.getD i (0,Go.undef)).2) →
   vs.size = cells.length → (∀ i,i < cells.length → Tok1 τ mem (cells.getD i .undef) (vs.getD i Go.undef)) → zeV place cells parts = some cells' → Instr.fill placeC vs partsC = some vs' →
   ∀ i,i < cells'.length → Tok1 τ mem (cells'.getD i .undef) (vs'.getD i Go.undef)
 | [],[],cells,cells',vs,vs',_,_,_,_,hc,h,hf => by
  simp [zeV] at h
  simp [Instr.fill] at hf
  subst h; subst hf
  exact hc
 | [],_ :: _,_,_,_,_,hl,_,_,_,_,_,_ => by simp at hl
 | _ :: _,[],_,_,_,_,hl,_,_,_,_,_,_ => by simp at hl
 | (i,v) :: rest,(i',x) :: restC,cells,cells',vs,vs',hl,hr,ht,hz,hc,h,hf => by
  have h0:=hr 0 (by simp)
  have t0:=ht 0 (by simp)
  simp only [List.getD_cons_zero] at h0 t0
  obtain ⟨rfl,hv⟩:=h0
  unfold zeV at h
  split at h
  ·cases h
  ·rename_i off size hp
   split at h
   ·rename_i hcond
    obtain ⟨hsolid,hsize,hfit⟩:=hcond
    obtain ⟨e1,e2⟩:=hv.cells hsolid
    obtain ⟨f1,f2⟩:=zla x.cells.toList off 0 vs (by simp; omega)
    unfold Instr.fill at hf
    rw [← hpl,hp] at hf
    dsimp only at hf
    rw [if_neg (by rw [e1]; simp; omega)] at hf
    have hzz:x.cells.zipIdx.foldl (fun cs (c,j) => cs.setIfInBounds (off + j) c) vs = (x.cells.toList.zipIdx 0).foldl (fun cs (c,j) => cs.setIfInBounds (off + j) c) vs:=by
     rw [← Array.foldl_toList,Array.toList_zipIdx]
    refine zjQ hpl (parts:=rest) (partsC:=restC) (by simpa using hl) (fun k hk => by simpa using hr (k + 1) (by simpa using hk)) (fun k hk => by simpa using ht (k + 1) (by simpa using hk)) ?_ (fun k hk => ?_) h hf
    ·rw [hzz,f1,zbI _ _ _ hfit]; exact hz
    ·rw [zbI _ _ _ hfit] at hk
     rw [hzz,f2 k,zeR _ _ _ _ hfit]
     simp only [Nat.add_zero,Array.length_toList,e1]
     split
     ·rename_i hin
      have:=tok_cells hv t0 hsolid (k - off) (by omega)
      rw [show x.cells.toList.getD (k - off) Go.undef = x.cells.getD (k - off) Go.undef by simp [List.getD,czo]]
      exact this
     ·exact hc k hk
   ·cases h
theorem zjs {κ:Kn} {ρ:Lc} (v:Value):Rep κ ρ (zgU v) v:=by
 unfold zgU
 split
 ·exact .int _ _
 ·exact .bool _
 ·exact .nilp
 ·exact .slnil _
 ·exact .nilf
 ·exact .undef _
theorem zmN {κ:Kn} {ρ:Lc} (v:Value):Rep κ ρ (ofV v) v:=by
 unfold ofV
 split
 ·rename_i cs
  refine .agg _ _ (by simp) fun i hi => ?_
  simp at hi
  have:((cs.toList.map zgU).getD i .undef) = zgU (cs.getD i Go.undef):=by simp [List.getD,hi]
  rw [this]
  exact zjs _
 ·exact zjs _
theorem zcZ {κ:Kn} {ρ:Lc} {t:TypeId} {z:List AV} (h:zaD P t = some z):∃ v,(zeroValue t).run P w = .ok v w ∧ RepL κ ρ z v.cells:=by
 unfold zaD at h
 split at h
 ·rename_i i hi
  cases hz:i.zero with
  | none => simp [hz] at h
  | some v =>
   simp [hz] at h
   subst h
   refine ⟨v,by simp [zeroValue,run_typeInfo w hi,hz],?_⟩
   unfold ofV
   split
   ·rename_i cs
    exact (zmN (κ:=κ) (ρ:=ρ) (.agg cs)).cells rfl
   ·rename_i hv
    have h1:v.cells = #[v]:=by cases v <;> first | rfl | exact absurd rfl (hv _)
    have h2:(zgU v).cells = [zgU v]:=by
     unfold zgU; split <;> rfl
    rw [h1,h2]
    exact ⟨rfl,fun i hi => by
                 obtain rfl:i = 0:=by simpa using hi
                 exact zjs v⟩
 ·cases h
theorem zp6 {fs:List Field} {pl:List (Nat × Nat)} (h:zfN P fs = some pl) :
  (fs.mapM (fun f => (do pure (f.offset,← sizeOf f.type):Sem (Nat × Nat)))).run P w = .ok pl w:=by
 induction fs generalizing pl with
 | nil => simp [zfN] at h; subst h; simp
 | cons f r ih =>
  unfold zfN at h
  rw [List.mapM_cons] at h
  simp only [bind,Option.bind_eq_some_iff,czr,pure,czg] at h
  obtain ⟨q,⟨s,hs,rfl⟩,pl',hpl,rfl⟩:=h
  rw [List.mapM_cons]
  have e1:=zaR (w:=w) hs
  simp only [Sem.run_bind,e1,Result.andThen_ok,Sem.run_pure]
  rw [ih hpl]
  simp
end
end Go.Fs
namespace Go.Fs
open Go.RowKit (Below)
section
variable {P:Program} {w:World}
theorem zii {t:TypeId} {pl:List (Nat × Nat)} (h:zau P t = some pl):∃ fs,P.underlying t = some (.struct fs) ∧ zfN P fs.toList = some pl:=by
 unfold zau at h
 split at h
 ·exact ⟨_,‹_›,h⟩
 ·cases h
theorem zd2 {t:TypeId} {n s:Nat} (h:zaX P t = some (n,s)):∃ e,P.underlying t = some (.array n e) ∧ zbu P e = some s ∧ za4 P t = some e:=by
 unfold zaX at h
 split at h
 ·rename_i hu
  simp only [czr,czh] at h
  obtain ⟨s',hs,rfl,rfl⟩:=h
  exact ⟨_,hu,hs,by simp [za4,hu]⟩
 ·cases h
theorem zbp {t e:TypeId} {s:Nat} (h:zbs P t = some (e,s)):P.underlying t = some (.slice e) ∧ zbu P e = some s:=by
 unfold zbs at h
 split at h
 ·rename_i hu
  simp only [czr,czh] at h
  obtain ⟨s',hs,rfl,rfl⟩:=h
  exact ⟨hu,hs⟩
 ·cases h
theorem zoc {t:TypeId} {z:List AV} (h:zaD P t = some z):∀ i,(z.getD i .undef).un.tk1 = false:=by
 have key:∀ v,(zgU v).un.tk1 = false:=by
  intro v
  unfold zgU
  split <;> rfl
 unfold zaD at h
 split at h
 ·rename_i i hi
  cases hz:i.zero with
  | none => simp [hz] at h
  | some v =>
   simp [hz] at h
   subst h
   intro j
   unfold ofV
   split
   ·rename_i cs
    simp only [AV.cells,List.getD,List.getElem?_map]
    cases cs.toList[j]? with
    | none => rfl
    | some y => exact key y
   ·rename_i hv
    have:(zgU v).cells = [zgU v]:=by
     unfold zgU
     split <;> rfl
    rw [this]
    cases j with
    | zero => exact key v
    | succ j => simp [List.getD]; rfl
 ·cases h
theorem agg_tok {τ:Tc} {mem:List AObj} {cs:List AV} {vs:Array Value} (h:∀ i,i < cs.length → Tok1 τ mem (cs.getD i .undef) (vs.getD i Go.undef)):TokOK τ mem (.agg (cs.map AV.soft)) (.agg vs) :=
 ⟨zcz rfl,fun cs' xs e _ ex i hi => by
  cases e
  cases ex
  rw [zdj]
  exact (h i (by simpa using hi)).soft⟩
theorem znP {κ:Kn} {ρ:Lc} {t:TypeId} {parts:List (Nat × AV)} {partsC:Array (Nat × Value)} {v:AV}
  (hl:partsC.size = parts.length) (hr:∀ i,i < parts.length → (partsC.toList.getD i (0,Go.undef)).1 = (parts.getD i (0,.undef)).1 ∧ Rep κ ρ (parts.getD i (0,.undef)).2 (partsC.toList.getD i (0,Go.undef)).2)
  {τ:Tc} {mem:List AObj} (ht:∀ i,i < parts.length → TokOK τ mem (parts.getD i (0,.undef)).2 (partsC.toList.getD i (0,Go.undef)).2)
  (h:zoQ P t parts = some v):∃ x,(Instr.build t partsC).run P w = .ok x w ∧ Rep κ ρ v x ∧ TokOK τ mem v x:=by
 unfold zoQ at h
 split at h
 ·rename_i z hz
  obtain ⟨zv,hzv,hzr⟩:=zcZ (w:=w) (κ:=κ) (ρ:=ρ) hz
  split at h
  ·rename_i pl hpl
   obtain ⟨fs,hu,hp⟩:=zii hpl
   simp only [czr] at h
   obtain ⟨cs,hf,rfl⟩:=h
   obtain ⟨vs',hfill,hR⟩:=zdZ (place:=fun i => pl[i]?) (placeC:=(pl.toArray[·]?)) (by simp) (by simpa using hl) hr hzr hf
   have hT:=zjQ (τ:=τ) (mem:=mem) (place:=fun i => pl[i]?) (placeC:=(pl.toArray[·]?)) (by simp) (by simpa using hl) hr ht hzr.1 (fun i _ => zcz (zoc hz i)) hf hfill
   refine ⟨.agg vs',?_,.agg _ _ (by rw [hR.1]; simp) (fun i hi => by rw [zdj]; exact (hR.2 i (by simpa using hi)).soft),agg_tok hT⟩
   have hm:=zp6 (w:=w) hp
   simp only [Instr.build,Sem.run_bind,hzv,Result.andThen_ok,run_underlying hu,Array.mapM_eq_mapM_toList,Sem.run_map,hm,hfill,Sem.run_pure]
  ·split at h
   ·rename_i n s ha
    obtain ⟨e,hu,hs,_⟩:=zd2 ha
    simp only [czr] at h
    obtain ⟨cs,hf,rfl⟩:=h
    obtain ⟨vs',hfill,hR⟩:=zdZ (place:=fun i => some (i * s,s)) (placeC:=fun i => some (i * s,s)) (fun _ => rfl) (by simpa using hl) hr hzr hf
    have hT:=zjQ (τ:=τ) (mem:=mem) (place:=fun i => some (i * s,s)) (placeC:=fun i => some (i * s,s)) (fun _ => rfl) (by simpa using hl) hr ht hzr.1 (fun i _ => zcz (zoc hz i)) hf hfill
    refine ⟨.agg vs',?_,.agg _ _ (by rw [hR.1]; simp) (fun i hi => by rw [zdj]; exact (hR.2 i (by simpa using hi)).soft),agg_tok hT⟩
    simp only [Instr.build,Sem.run_bind,hzv,Result.andThen_ok,run_underlying hu,zaR hs,hfill,Sem.run_pure]
   ·cases h
 ·cases h
theorem zaP (z:List AV):∀ n,(zbh z n).length = n * z.length
 | 0 => by simp [zbh]
 | n + 1 => by simp [zbh,zaP z n,Nat.add_mul]; omega
theorem zbJ (z:List AV) (hz:0 < z.length):∀ n i,i < n * z.length → (zbh z n).getD i .undef = z.getD (i % z.length) .undef
 | 0,i,h => by simp at h
 | n + 1,i,h => by
  unfold zbh
  simp only [List.getD]
  by_cases hi:i < z.length
  ·rw [czi hi,Nat.mod_eq_of_lt hi]
  ·rw [czj (by omega)]
   have ih:=zbJ z hz n (i - z.length) (by rw [Nat.add_mul] at h; omega)
   simp only [List.getD] at ih
   rw [ih]
   congr 2
   conv => rhs; rw [show i = (i - z.length) + z.length by omega]
   rw [Nat.add_mod_right]
theorem zc5 (s:Nat):∀ n cs,(zb7 s n cs).length = n
 | 0,_ => rfl
 | n + 1,cs => by simp [zb7,zc5 s n]
theorem zcc (s:Nat):∀ n cs i,i < n → (zb7 s n cs).getD i [] = (cs.drop (i * s)).take s
 | 0,_,_,h => by omega
 | n + 1,cs,0,_ => by simp [zb7]
 | n + 1,cs,i + 1,h => by
  have:=zcc s n (cs.drop s) i (by omega)
  simp only [zb7,List.getD_cons_succ,this,List.drop_drop]
  congr 2
  rw [Nat.add_mul]; omega
theorem zj0 {κ:Kn} {ρ:Lc} {t:TypeId} {len:Nat} {parts:List (Nat × AV)} {partsC:Array (Nat × Value)} {es:List (List AV)}
  (hk:zcw κ w)
  (hl:partsC.size = parts.length) (hr:∀ i,i < parts.length → (partsC.toList.getD i (0,Go.undef)).1 = (parts.getD i (0,.undef)).1 ∧ Rep κ ρ (parts.getD i (0,.undef)).2 (partsC.toList.getD i (0,Go.undef)).2)
  (h:zc6 P t len parts = some es) :
  ∃ x w' κ',(Instr.buildSlice t len partsC).run P w = .ok x w' ∧ Rep κ' ρ (.sl es .full) x ∧ Grow κ w κ' w':=by
 unfold zc6 at h
 split at h
 ·rename_i e s hsl
  obtain ⟨hu,hs⟩:=zbp hsl
  split at h
  ·rename_i z hz
   obtain ⟨zv,hzv,hzr⟩:=zcZ (w:=w) (κ:=κ) (ρ:=ρ) hz
   split at h
   ·rename_i hcond
    obtain ⟨hzl,hs0,hlim⟩:=hcond
    simp only [czr] at h
    obtain ⟨cs,hf,rfl⟩:=h
    have hbase:RepL κ ρ (zbh z len) ((Array.range (len * s)).map (zv.cells[· % zv.cells.size]!)):=by
     refine ⟨by simp [zaP,hzl],fun i hi => ?_⟩
     rw [zaP] at hi
     rw [zbJ z (by omega) len i hi]
     have h1:=hzr.2 (i % z.length) (Nat.mod_lt _ (by omega))
     have h3:i < len * s:=by rw [← hzl]; exact hi
     have h2:((Array.range (len * s)).map (zv.cells[· % zv.cells.size]!)).getD i Go.undef = zv.cells.getD (i % z.length) Go.undef:=by
      have hlt:i % z.length < zv.cells.size:=by rw [hzr.1]; exact Nat.mod_lt _ (by omega)
      simp [Array.getD,h3,hzr.1,getElem!_pos,Nat.mod_lt,show 0 < z.length by omega]
     rw [h2]
     exact h1
    obtain ⟨vs',hfill,hR⟩:=zdZ (place:=fun i => some (i * s,s)) (placeC:=fun i => some (i * s,s)) (fun _ => rfl) (by simpa using hl) hr hbase hf
    have hcs:cs.length = len * s:=by
     have:∀ {parts:List (Nat × AV)} {cells cells':List AV},zeV (fun i => some (i * s,s)) cells parts = some cells' → cells'.length = cells.length:=by
      intro parts
      induction parts with
      | nil => intro cells cells' h; simp [zeV] at h; rw [h]
      | cons q r ih =>
       intro cells cells' h
       unfold zeV at h
       dsimp only at h
       split at h
       ·rename_i hc
        rw [ih h,zbI _ _ _ hc.2.2]
       ·cases h
     rw [this hf,zaP,hzl]
    let κ':Kn:=⟨fun b o => if b = w.heap.size then (if o < len * s then some (vs'.getD o Go.undef) else none) else κ b o,κ.m⟩
    have hlt:∀ b o v,κ b o = some v → b ≠ w.heap.size:=fun b o v hh => by have:=zeh (hk.c b o v hh); omega
    have hle:κ.le κ':=⟨fun b o v hh => by simp only [κ',if_neg (hlt b o v hh)]; exact hh,fun _ _ h => h⟩
    have hsz:=hR.1
    refine ⟨.slice (some ⟨w.heap.size,0,none⟩) len len,{ w with heap:=w.heap.push (.cells vs' e) },κ',?_,?_,?_⟩
    ·have hlim':¬ (len * s > 2 ^ 24):=by omega
     simp only [Instr.buildSlice,Sem.run_bind,run_underlying hu,Result.andThen_ok,zaR hs,hlim',if_false]
     by_cases h0:len * s = 0
     ·simp only [h0,if_true,Sem.run_bind,Sem.run_pure,Result.andThen_ok]
      have hsame:(Array.range 0).map (fun x => (#[]:Array Value)[x % (#[]:Array Value).size]!) = (Array.range (len * s)).map (zv.cells[· % zv.cells.size]!):=by simp [h0]
      rw [hsame,hfill]
      simp [newRow]
     ·simp only [h0,if_false,Sem.run_bind,hzv,Sem.run_pure,Result.andThen_ok,hfill]
      simp [newRow]
    ·have hlen:=zc5 s len (cs.map AV.strip)
     have:=Rep.sl (κ:=κ') (ρ:=ρ) (zb7 s len (cs.map AV.strip)) .full w.heap.size 0 len s (fun i j => vs'.getD (i * s + j) Go.undef)
      (fun i hi => by rw [zcc s len (cs.map AV.strip) i (by omega)]; simp; have:(i + 1) * s ≤ len * s:=czq s (by omega); rw [Nat.add_mul] at this; omega)
      (fun i j hi hj => by
       have:(i + 1) * s ≤ len * s:=czq s (by omega)
       rw [Nat.add_mul] at this
       simp only [κ',if_true,Nat.zero_add]
       rw [if_pos (by omega)])
      (fun i j hi hj => by
       have:(i + 1) * s ≤ len * s:=czq s (by omega)
       rw [Nat.add_mul] at this
       rw [zcc s len (cs.map AV.strip) i (by omega),zdG _ _ _ _ hj,zbz]
       exact ((hR.2 _ (by omega)).mono hle (Lc.le_refl _)).strip)
      (fun _ => hlen.symm) (by omega)
     rw [hlen] at this
     exact this
    ·refine ⟨hle,⟨?_,fun b es h => ze6 _ (hk.m b es h)⟩,?_,?_,fun _ _ => rfl⟩
     ·intro b o v hh
      by_cases hb:b = w.heap.size
      ·subst hb
       simp only [κ',if_true] at hh
       split at hh
       ·rename_i ho
        simp at hh
        subst hh
        simp [World.cell?,show o < vs'.size by omega]
       ·cases hh
      ·simp only [κ',if_neg hb] at hh
       have h1:=hk.c b o v hh
       have h2:=zeh h1
       rw [← h1]
       simp [World.cell?,Array.getElem?_push,show ¬ b = w.heap.size by omega]
     ·exact (Below.refl w.heap.size w).alloc (czf _) (.cells vs' e)
     ·intro b o hb
      simp only [κ',if_neg (show ¬ b = w.heap.size by omega)]
   ·cases h
  ·cases h
 ·cases h
theorem znQ {κ:Kn} {ρ:Lc} {t:TypeId} {len:Nat} {parts:List (Nat × AV)} {partsC:Array (Nat × Value)} {es:List (List AV)}
  (hl:partsC.size = parts.length) (hr:∀ i,i < parts.length → (partsC.toList.getD i (0,Go.undef)).1 = (parts.getD i (0,.undef)).1 ∧ Rep κ ρ (parts.getD i (0,.undef)).2 (partsC.toList.getD i (0,Go.undef)).2)
  (h:zc6 P t len parts = some es) :
  ∃ e s vs',zbs P t = some (e,s) ∧ (Instr.buildSlice t len partsC).run P w = .ok (.slice (some ⟨w.heap.size,0,none⟩) len len) { w with heap:=w.heap.push (.cells vs' e) } ∧ vs'.size = len * s ∧ es.length = len ∧
   (∀ i,i < len → (es.getD i []).length = s) ∧ ∀ i j,i < len → j < s → Rep κ ρ ((es.getD i []).getD j .undef) (vs'.getD (i * s + j) Go.undef):=by
 unfold zc6 at h
 split at h
 ·rename_i e s hsl
  obtain ⟨hu,hs⟩:=zbp hsl
  split at h
  ·rename_i z hz
   obtain ⟨zv,hzv,hzr⟩:=zcZ (w:=w) (κ:=κ) (ρ:=ρ) hz
   split at h
   ·rename_i hcond
    obtain ⟨hzl,hs0,hlim⟩:=hcond
    simp only [czr] at h
    obtain ⟨cs,hf,rfl⟩:=h
    have hbase:RepL κ ρ (zbh z len) ((Array.range (len * s)).map (zv.cells[· % zv.cells.size]!)):=by
     refine ⟨by simp [zaP,hzl],fun i hi => ?_⟩
     rw [zaP] at hi
     rw [zbJ z (by omega) len i hi]
     have h1:=hzr.2 (i % z.length) (Nat.mod_lt _ (by omega))
     have h3:i < len * s:=by rw [← hzl]; exact hi
     have h2:((Array.range (len * s)).map (zv.cells[· % zv.cells.size]!)).getD i Go.undef = zv.cells.getD (i % z.length) Go.undef:=by
      have hlt:i % z.length < zv.cells.size:=by rw [hzr.1]; exact Nat.mod_lt _ (by omega)
      simp [Array.getD,h3,hzr.1,getElem!_pos,Nat.mod_lt,show 0 < z.length by omega]
     rw [h2]
     exact h1
    obtain ⟨vs',hfill,hR⟩:=zdZ (place:=fun i => some (i * s,s)) (placeC:=fun i => some (i * s,s)) (fun _ => rfl) (by simpa using hl) hr hbase hf
    have hcs:cs.length = len * s:=by
     have:∀ {parts:List (Nat × AV)} {cells cells':List AV},zeV (fun i => some (i * s,s)) cells parts = some cells' → cells'.length = cells.length:=by
      intro parts
      induction parts with
      | nil => intro cells cells' h; simp [zeV] at h; rw [h]
      | cons q r ih =>
       intro cells cells' h
       unfold zeV at h
       dsimp only at h
       split at h
       ·rename_i hc
        rw [ih h,zbI _ _ _ hc.2.2]
       ·cases h
     rw [this hf,zaP,hzl]
    refine ⟨e,s,vs',hsl,?_,by rw [hR.1,hcs],zc5 _ _ _,fun i hi => ?_,fun i j hi hj => ?_⟩
    ·have hlim':¬ (len * s > 2 ^ 24):=by omega
     simp only [Instr.buildSlice,Sem.run_bind,run_underlying hu,Result.andThen_ok,zaR hs,hlim',if_false]
     by_cases h0:len * s = 0
     ·simp only [h0,if_true,Sem.run_bind,Sem.run_pure,Result.andThen_ok]
      have hsame:(Array.range 0).map (fun x => (#[]:Array Value)[x % (#[]:Array Value).size]!) = (Array.range (len * s)).map (zv.cells[· % zv.cells.size]!):=by simp [h0]
      rw [hsame,hfill]
      simp [newRow]
     ·simp only [h0,if_false,Sem.run_bind,hzv,Sem.run_pure,Result.andThen_ok,hfill]
      simp [newRow]
    ·have:(i + 1) * s ≤ len * s:=czq s (by omega)
     rw [Nat.add_mul] at this
     rw [zcc s len (cs.map AV.strip) i hi]
     simp
     omega
    ·have:(i + 1) * s ≤ len * s:=czq s (by omega)
     rw [Nat.add_mul] at this
     rw [zcc s len (cs.map AV.strip) i hi,zdG _ _ _ _ hj,zbz]
     exact (hR.2 _ (by omega)).strip
   ·cases h
  ·cases h
 ·cases h
end
end Go.Fs
namespace Go.Fs
open Go.RowKit (Below)
section
variable {P:Program} {w:World}
def Yields (P:Program) (e:Operand → Value) (o:Oper) (κ:Kn) (ρ:Lc) (τ:Tc) (mem:List AObj) (w:World) (v:AV):Prop :=
 ∃ x w' κ',(execOp e o).run P w = .ok (.value x) w' ∧ Rep κ' ρ v x ∧ Grow κ w κ' w' ∧ (zel o.op = true → TokOK τ mem v x)
theorem zbf {e:Operand → Value} {o:Oper} {κ:Kn} {ρ:Lc} {τ:Tc} {mem:List AObj} {v:AV} {s:Sem Value} {x:Value} (hk:zcw κ w)
  (he:(execOp e o).run P w = (do pure (.value (← s)):Sem Next).run P w) (hs:s.run P w = .ok x w) (hr:Rep κ ρ v x)
  (ht:zel o.op = true → TokOK τ mem v x:=by (intro q; simp [zel] at q)):Yields P e o κ ρ τ mem w v :=
 ⟨x,w,κ,by rw [he]; simp [hs],hr,Grow.refl hk,ht⟩
theorem idx_sl {κ:Kn} {ρ:Lc} {t e:TypeId} {s:Nat} {es:List (List AV)} {tok:Tk} {x:Value} {k:IntKind} {i:Int} (hx:Rep κ ρ (.sl es tok) x)
  (hsl:zbs P t = some (e,s)) (h0:0 ≤ i) (h1:i < es.length) (h2:(es.getD i.toNat []).length = s) :
  ∃ y,(Instr.indexAt t x (.int k i)).run P w = .ok y w ∧ Rep κ ρ (.ref (es.getD i.toNat []) 0) y:=by
 obtain ⟨hu,hs⟩:=zbp hsl
 cases hx with
 | slnil => simp at h1; omega
 | sl es tok b o cap sz val hsz hk hr ht hc =>
  have hi:i.toNat < es.length:=by omega
  have hz:sz = s:=by rw [← h2]; exact (hsz _ hi).symm
  subst hz
  refine ⟨.pointer (some ⟨b,o + i.toNat * sz,none⟩),?_,?_⟩
  ·simp only [Instr.indexAt,asIntOf,Sem.run_bind,Sem.run_pure,Result.andThen_ok,run_underlying hu]
   rw [if_pos ⟨h0,h1⟩]
   simp [zaR hs,zbl]
  ·have:=Rep.ref (κ:=κ) (ρ:=ρ) (es.getD i.toNat []) 0 b (o + i.toNat * sz) (fun j => val i.toNat j)
    (fun j hj => hk _ _ hi (by rw [hsz _ hi] at hj; exact hj)) (fun j hj => hr _ _ hi (by rw [hsz _ hi] at hj; exact hj))
   simpa using this
theorem zjL {κ:Kn} {ρ:Lc} {τ:Tc} {mem:List AObj} {t:TypeId} {a ia v:AV} {x iv:Value} {p:Prop}
  (hx:Rep κ ρ a x) (hxt:TokOK τ mem a x) (hi:Rep κ ρ ia iv) (h:zgY P t a ia = some (p,v)) (hp:p) :
  ∃ y,(Instr.indexAt t x iv).run P w = .ok y w ∧ Rep κ ρ v y ∧ TokOK τ mem v y:=by
 unfold zgY at h
 split at h
 ·rename_i k i
  obtain rfl:=hi.int_inv
  split at h
  ·rename_i es tok
   split at h
   ·rename_i e s hsl
    simp only [czg,czh] at h
    obtain ⟨rfl,rfl⟩:=h
    obtain ⟨y,h1,h2⟩:=idx_sl (w:=w) hx hsl hp.1 hp.2.1 hp.2.2
    exact ⟨y,h1,h2,zax rfl⟩
   ·cases h
  ·rename_i l off len sz
   split at h
   ·rename_i e s hsl
    simp only [czg,czh] at h
    obtain ⟨rfl,rfl⟩:=h
    obtain ⟨hu,hs⟩:=zbp hsl
    cases hx with
    | arr _ _ _ _ b cap hl hc =>
     refine ⟨_,?_,.ptr l _ b hl,zax rfl⟩
     simp only [Instr.indexAt,asIntOf,Sem.run_bind,Sem.run_pure,Result.andThen_ok,run_underlying hu]
     rw [if_pos ⟨hp.1,hp.2.1⟩]
     simp [zaR hs,zbl]
   ·cases h
  ·rename_i es off
   split at h
   ·rename_i n s ha
    simp only [czg,czh] at h
    obtain ⟨rfl,rfl⟩:=h
    obtain ⟨e,hu,hs,_⟩:=zd2 ha
    cases hx with
    | ref _ _ b o val hk hr =>
     refine ⟨.pointer (some ⟨b,o + (off + i.toNat * s),none⟩),?_,.ref _ _ b o val hk hr,zax rfl⟩
     simp only [Instr.indexAt,asIntOf,Sem.run_bind,Sem.run_pure,Result.andThen_ok,run_underlying hu,Instr.sureAddr]
     rw [if_pos hp]
     simp [zaR hs,zbl,Nat.add_assoc]
   ·cases h
  ·rename_i l off
   split at h
   ·rename_i n s ha
    simp only [czg,czh] at h
    obtain ⟨rfl,rfl⟩:=h
    obtain ⟨e,hu,hs,_⟩:=zd2 ha
    obtain ⟨b,hb,rfl⟩:=hx.ptr_inv
    refine ⟨_,?_,.ptr l _ b hb,zax rfl⟩
    simp only [Instr.indexAt,asIntOf,Sem.run_bind,Sem.run_pure,Result.andThen_ok,run_underlying hu,Instr.sureAddr]
    rw [if_pos hp]
    simp [zaR hs,zbl]
   ·cases h
  ·rename_i l s off len sz
   split at h
   ·rename_i e sz' hsl
    simp only [czg,czh] at h
    obtain ⟨rfl,rfl⟩:=h
    obtain ⟨h0,h1,rfl⟩:=hp
    obtain ⟨hu,hs⟩:=zbp hsl
    obtain ⟨es,s',k1,k2,k3⟩:=hxt.vec l s off len sz rfl trivial
    cases hx with
    | vec _ _ _ _ _ ad cap hnl =>
     cases ad with
     | none => have:=hnl.1.1 rfl; omega
     | some ad =>
     have hy:(Instr.indexAt t (.slice (some ad) len cap) (.int k i)).run P w = .ok (.pointer (some (ad.add (i.toNat * sz)))) w:=by
      simp only [Instr.indexAt,asIntOf,Sem.run_bind,Sem.run_pure,Result.andThen_ok,run_underlying hu]
      rw [if_pos ⟨h0,h1⟩]
      simp [zaR hs]
     refine ⟨_,hy,.vp _ _ _ _ _,?_⟩
     refine Tok1.full ⟨fun es l e => by simp [AV.un] at e,fun l s off len sz e => by simp [AV.un] at e,fun l' s'' i' off' e _ => ?_⟩ (fun ds e => by cases e)
     cases e
     refine ⟨es,sz,s',k1,k2,fun e' => ?_⟩
     obtain ⟨a',cap',q1,q2,q3,q4⟩:=k3 e'
     cases q1
     rcases q4 with q4 | ⟨b,c,r1,r2,r3⟩
     ·omega
     ·cases r2
      exact ⟨b,c,r1,by omega,by rw [zbl,Nat.add_mul,Nat.add_zero]⟩
   ·cases h
  ·cases h
 ·cases h
theorem zqd {t:TypeId} {f k:Nat} (h:zbn P t f = some k):∃ fs fd n,P.underlying t = some (.struct fs) ∧ fs[f]? = some fd ∧ zbu P fd.type = some (n + 1) ∧ fd.offset = k:=by
 unfold zbn at h
 split at h
 ·rename_i fs hu
  split at h
  ·rename_i fd hf
   split at h
   ·rename_i n hs
    simp at h
    exact ⟨fs,fd,n,hu,hf,hs,h⟩
   ·cases h
  ·cases h
 ·cases h
theorem zjO {κ:Kn} {ρ:Lc} {τ:Tc} {mem:List AObj} {t:TypeId} {f:Nat} {a v:AV} {x:Value} {p:Prop} (hx:Rep κ ρ a x) (hxt:TokOK τ mem a x) (h:zgZ P t a f = some (p,v)) :
  ∃ y,(Instr.fieldAt t x f).run P w = .ok y w ∧ Rep κ ρ v y ∧ TokOK τ mem v y:=by
 unfold zgZ at h
 split at h
 ·rename_i k hk
  obtain ⟨fs,fd,n,hu,hf,hs,rfl⟩:=zqd hk
  split at h
  ·rename_i es off
   simp only [czg,czh] at h
   obtain ⟨rfl,rfl⟩:=h
   cases hx with
   | ref _ _ b o val hk' hr =>
    refine ⟨.pointer (some ⟨b,o + (off + fd.offset),none⟩),?_,.ref _ _ b o val hk' hr,zax rfl⟩
    simp [Instr.fieldAt,run_underlying hu,hf,Instr.sureAddr,fieldPlace,zaR hs,zbl,Nat.add_assoc]
  ·rename_i l off
   simp only [czg,czh] at h
   obtain ⟨rfl,rfl⟩:=h
   obtain ⟨b,hb,rfl⟩:=hx.ptr_inv
   refine ⟨_,?_,.ptr l _ b hb,zax rfl⟩
   simp [Instr.fieldAt,run_underlying hu,hf,Instr.sureAddr,fieldPlace,zaR hs,zbl]
  ·rename_i l s i off
   simp only [czg,czh] at h
   obtain ⟨rfl,rfl⟩:=h
   obtain ⟨es,sz,s',k1,k2,k3⟩:=hxt.vp l s i off rfl trivial
   cases hx with
   | vp _ _ _ _ ad =>
    refine ⟨.pointer (some (ad.add fd.offset)),by simp [Instr.fieldAt,run_underlying hu,hf,Instr.sureAddr,fieldPlace,zaR hs],.vp _ _ _ _ _,?_⟩
    refine Tok1.full ⟨fun es l e => by simp [AV.un] at e,fun l s off len sz e => by simp [AV.un] at e,fun l' s'' i' off' e _ => ?_⟩ (fun ds e => by cases e)
    cases e
    refine ⟨es,sz,s',k1,k2,fun e' => ?_⟩
    obtain ⟨b,c,q1,q2,q3⟩:=k3 e'
    cases q3
    exact ⟨b,c,q1,q2,by rw [zbl,Nat.add_assoc]⟩
  ·cases h
 ·cases h
theorem zd1 {κ:Kn} {ρ:Lc} {d:Int} {a:Option AV} {x:Option Value} {n:Int} (h:bndA d a = some n)
  (hr:∀ v,a = some v → ∃ y,x = some y ∧ Rep κ ρ v y) (hn:a = none → x = none):(a = none ∧ x = none ∧ n = d) ∨ (∃ k,x = some (.int k n)):=by
 cases a with
 | none => simp [bndA] at h; exact .inl ⟨rfl,hn rfl,h.symm⟩
 | some v =>
  obtain ⟨y,rfl,hv⟩:=hr v rfl
  unfold bndA at h
  split at h
  ·rename_i heq; cases heq
  ·rename_i k m heq
   cases heq
   simp at h
   subst h
   exact .inr ⟨k,by rw [hv.int_inv]⟩
  ·cases h
theorem zcm {isSl:Bool} {len cap:Nat} {lo hi:Option Value} {l h:Int} (h0:0 ≤ l) (h1:l ≤ h) (h2:h ≤ cap)
  (hlo:(lo = none ∧ l = 0) ∨ ∃ k,lo = some (.int k l)) (hhi:(hi = none ∧ h = len) ∨ ∃ k,hi = some (.int k h)) :
  (Instr.sliceBounds isSl len cap lo hi none).run P w = .ok (l.toNat,h.toNat,cap) w:=by
 have e:((h.toNat:Nat):Int) = h:=by omega
 rcases hlo with ⟨rfl,rfl⟩ | ⟨k,rfl⟩ <;> rcases hhi with ⟨rfl,rfl⟩ | ⟨k',rfl⟩
 ·simp [Instr.sliceBounds]
 ·simp [Instr.sliceBounds,Instr.sliceBound,asIntOf,show (0:Int) ≤ h by omega,h2]
 ·simp [Instr.sliceBounds,Instr.sliceBound,asIntOf,h0,h1]
 ·simp [Instr.sliceBounds,Instr.sliceBound,asIntOf,show (0:Int) ≤ h by omega,h2,e,h0,h1]
theorem zmJ {κ:Kn} {ρ:Lc} {τ:Tc} {mem:List AObj} {t:TypeId} {a v:AV} {x:Value} {lo hi:Option AV} {lov hiv:Option Value} {p:Prop}
  (hx:Rep κ ρ a x) (hxt:TokOK τ mem a x) (hlo:∀ v,lo = some v → ∃ y,lov = some y ∧ Rep κ ρ v y) (hlo':lo = none → lov = none)
  (hhi:∀ v,hi = some v → ∃ y,hiv = some y ∧ Rep κ ρ v y) (hhi':hi = none → hiv = none)
  (h:zoj P t a lo hi = some (p,v)) (hp:p):∃ y,(Instr.sliceAt t x lov hiv none).run P w = .ok y w ∧ Rep κ ρ v y ∧ TokOK τ mem v y:=by
 unfold zoj at h
 split at h
 ·rename_i es tok
  split at h
  ·rename_i e s l h' hsl hl hh
   simp only [czg,czh] at h
   obtain ⟨rfl,rfl⟩:=h
   obtain ⟨h0,h1,h2,h3⟩:=hp
   obtain ⟨hu,hs⟩:=zbp hsl
   have bl:=zd1 hl hlo hlo'
   have bh:=zd1 hh hhi hhi'
   cases hx with
   | slnil =>
    simp only [czy,Int.natCast_zero] at h2
    obtain rfl:l = 0:=by omega
    obtain rfl:h' = 0:=by omega
    have hb:=zcm (P:=P) (w:=w) (isSl:=true) (len:=0) (cap:=0) (lo:=lov) (hi:=hiv) (l:=0) (h:=0) (by omega) (by omega) (by simp)
     (bl.imp (fun q => ⟨q.2.1,rfl⟩) id) (bh.imp (fun q => ⟨q.2.1,by simp⟩) id)
    refine ⟨.slice none 0 0,?_,.slnil .no,zax rfl⟩
    simp [Instr.sliceAt,Instr.slice,run_underlying hu,hb,zaR hs]
   | sl es tok b o cap sz val hsz hk hr ht hc =>
    have hb:=zcm (P:=P) (w:=w) (isSl:=true) (len:=es.length) (cap:=cap) (lo:=lov) (hi:=hiv) (l:=l) (h:=h') h0 h1 (by omega)
     (bl.imp (fun q => ⟨q.2.1,q.2.2⟩) id) (bh.imp (fun q => ⟨q.2.1,q.2.2⟩) id)
    have hlen:((es.drop l.toNat).take (h' - l).toNat).length = h'.toNat - l.toNat:=by simp; omega
    refine ⟨.slice (some (if cap = l.toNat then ⟨b,o,none⟩ else ⟨b,o + l.toNat * s,none⟩)) (h'.toNat - l.toNat) (cap - l.toNat),?_,?_,zax rfl⟩
    ·simp only [Instr.sliceAt,Instr.slice,Sem.run_bind,run_underlying hu,Result.andThen_ok,hb,zaR hs,Sem.run_pure]
     split <;> simp [zbl]
    ·have hget:∀ i,i < h'.toNat - l.toNat → ((es.drop l.toNat).take (h' - l).toNat).getD i [] = es.getD (l.toNat + i) []:=by
      intro i hi
      simp [List.getD,show i < (h' - l).toNat by omega]
     by_cases hcl:cap = l.toNat
     ·rw [if_pos hcl]
      have hz:h'.toNat - l.toNat = 0:=by omega
      have:=Rep.sl (κ:=κ) (ρ:=ρ) ((es.drop l.toNat).take (h' - l).toNat) .no b o (cap - l.toNat) s (fun _ _ => Go.undef)
       (fun i hi => by omega) (fun i j hi _ => by omega) (fun i j hi _ => by omega) (fun ht => by cases ht) (by omega)
      rw [hlen] at this
      exact this
     ·rw [if_neg hcl]
      have hss:∀ i,i < h'.toNat - l.toNat → sz = s:=fun i hi => by
       rw [← hsz (l.toNat + i) (by omega)]
       refine h3 _ ?_
       have:l.toNat + i < es.length:=by omega
       simp [List.getD,this]
      have:=Rep.sl (κ:=κ) (ρ:=ρ) ((es.drop l.toNat).take (h' - l).toNat) .no b (o + l.toNat * s) (cap - l.toNat) s (fun i j => val (l.toNat + i) j)
       (fun i hi => by rw [hlen] at hi; rw [hget i hi,← hss i hi]; exact hsz _ (by omega))
       (fun i j hi hj => by
        rw [hlen] at hi
        have e:=hss i hi
        subst e
        have:=hk (l.toNat + i) j (by omega) hj
        rw [Nat.add_mul] at this
        rw [← this]
        congr 1
        omega)
       (fun i j hi hj => by
        rw [hlen] at hi
        have e:=hss i hi
        subst e
        rw [hget i hi]
        exact hr _ _ (by omega) hj)
       (fun ht => by cases ht) (by omega)
      rw [hlen] at this
      exact this
  ·cases h
 ·rename_i l off
  split at h
  ·rename_i n s ha
   obtain ⟨e,hu,hs,_⟩:=zd2 ha
   split at h
   ·rename_i lb hb' hl hh
    simp only [czg,czh] at h
    obtain ⟨rfl,rfl⟩:=h
    obtain ⟨h0,h1,h2,h3⟩:=hp
    have bl:=zd1 hl hlo hlo'
    have bh:=zd1 hh hhi hhi'
    obtain ⟨b,hbb,rfl⟩:=hx.ptr_inv
    have hb:=zcm (P:=P) (w:=w) (isSl:=false) (len:=n) (cap:=n) (lo:=lov) (hi:=hiv) (l:=lb) (h:=hb') h0 h1 (by omega)
     (bl.imp (fun q => ⟨q.2.1,q.2.2⟩) id) (bh.imp (fun q => ⟨q.2.1,q.2.2⟩) id)
    have e1:hb'.toNat - lb.toNat = (hb' - lb).toNat:=by omega
    refine ⟨.slice (some ⟨b,off + lb.toNat * s,none⟩) (hb' - lb).toNat (n - lb.toNat),?_,.arr l _ _ _ b _ hbb (by omega),zax rfl⟩
    simp only [Instr.sliceAt,Sem.run_bind,run_underlying hu,Result.andThen_ok,Instr.sureAddr,Sem.run_pure,hb,zaR hs]
    rw [if_neg (by omega),zbl,e1]
   ·cases h
  ·cases h
 ·rename_i l0 s off len sz
  split at h
  ·rename_i e sz' lb hb' hsl hl hh
   simp only [czg,czh] at h
   obtain ⟨rfl,rfl⟩:=h
   obtain ⟨h0,h1,h2,rfl⟩:=hp
   obtain ⟨hu,hs⟩:=zbp hsl
   have bl:=zd1 hl hlo hlo'
   have bh:=zd1 hh hhi hhi'
   obtain ⟨es,s',k1,k2,k3⟩:=hxt.vec l0 s off len sz rfl trivial
   cases hx with
   | vec _ _ _ _ _ ad cap hnl =>
    have hcap:=hnl.1.2
    have hb:=zcm (P:=P) (w:=w) (isSl:=true) (len:=len) (cap:=cap) (lo:=lov) (hi:=hiv) (l:=lb) (h:=hb') h0 h1 (by omega)
     (bl.imp (fun q => ⟨q.2.1,q.2.2⟩) id) (bh.imp (fun q => ⟨q.2.1,q.2.2⟩) id)
    have e1:hb'.toNat - lb.toNat = (hb' - lb).toNat:=by omega
    refine ⟨.slice (if cap = lb.toNat then ad else ad.map (·.add (lb.toNat * sz))) (hb' - lb).toNat (cap - lb.toNat),?_,.vec _ _ _ _ _ _ _ ⟨⟨fun q => ?_,by omega⟩,fun ad' q => ?_⟩,?_⟩
    ·simp only [Instr.sliceAt,Instr.slice,Sem.run_bind,run_underlying hu,Result.andThen_ok,hb,zaR hs,Sem.run_pure,e1]
    ·have:ad = none:=by
      split at q
      ·exact q
      ·cases ad with
       | none => rfl
       | some _ => cases q
     have:=hnl.1.1 this
     omega
    ·split at q
     ·exact hnl.2 _ q
     ·cases ad with
      | none => cases q
      | some ad =>
       have hsp:=hnl.2 ad rfl
       obtain ⟨b,o,sp⟩:=ad
       simp only at hsp
       subst hsp
       simp only [Option.map_some,czg] at q
       rw [← q,zbl]
    ·refine Tok1.full ⟨fun es l e => by simp [AV.un] at e,fun l' s'' off' len' sz' e _ => ?_,fun l s i off e => by simp [AV.un] at e⟩ (fun ds e => by cases e)
     cases e
     refine ⟨es,s',k1,k2,fun e' => ?_⟩
     obtain ⟨a',cap',q1,q2,q3,q4⟩:=k3 e'
     clear k3
     cases q1
     refine ⟨_,_,rfl,?_,?_,?_⟩
     ·clear q4; omega
     ·clear q4; omega
     by_cases hc0:cap - lb.toNat = 0
     ·exact .inl hc0
     ·rcases q4 with q4 | ⟨b,c,r1,r2,r3⟩
      ·omega
      ·refine .inr ⟨b,c,r1,?_,?_⟩
       ·rw [if_neg (by omega),r2]
        show some (Addr.add _ _) = _
        rw [zbl,Nat.add_mul]
       ·rw [show off + lb.toNat + (cap - lb.toNat) = off + cap by omega]
        exact r3
  ·cases h
 ·cases h
/-! Maps. -/
theorem mapOf?_eq {t k e:TypeId} (h:mapOf? P t = some (k,e)):P.underlying t = some (.map k e):=by
 unfold mapOf? at h
 split at h
 ·rename_i hh; simp at h; obtain ⟨rfl,rfl⟩:=h; exact hh
 ·cases h
theorem RepMap.keys {κ:Kn} {ρ:Lc} {ks:List (List Int)} {vs:List AV} {es:Array MapEntry} (h:RepMap κ ρ ks vs es):es.toList.map (fun e => znE e.key) = ks:=by
 apply List.ext_getElem (by simp [h.2.1])
 intro i h1 h2
 have hi:i < es.size:=by simpa using h1
 have:=(h.2.2.1 i h2).1
 simp only [List.getElem_map,Array.getElem_toList]
 have e1:es.getD i default = es[i]:=by simp [Array.getD,hi]
 have e2:ks.getD i [] = ks[i]:=by simp [List.getD,h2]
 rw [e1,e2] at this
 rw [this,zi3]
theorem RepMap.find {κ:Kn} {ρ:Lc} {ks:List (List Int)} {vs:List AV} {es:Array MapEntry} (h:RepMap κ ρ ks vs es) (a:List Int) :
  (es.toList.findIdx? fun e => decide (znE e.key = a)) = zac ks a:=by
 unfold zac
 rw [← h.keys,List.findIdx?_map]
 rfl
theorem RepMap.lens {κ:Kn} {ρ:Lc} {ks:List (List Int)} {vs:List AV} {es:Array MapEntry} (h:RepMap κ ρ ks vs es) {n:Nat} (hn:∀ b ∈ ks,b.length = n) :
  ∀ e ∈ es.toList,∃ b:List Int,b.length = n ∧ e.key = zer b:=by
 intro e he
 obtain ⟨i,hi,rfl⟩:=List.mem_iff_getElem.1 he
 simp at hi
 have hk:i < ks.length:=by have:=h.2.1; omega
 have:=(h.2.2.1 i hk).1
 refine ⟨ks.getD i [],hn _ (by simp [List.getD,hk]),?_⟩
 simpa [Array.getD,hi] using this
theorem zk1 {ks:List (List Int)} {a:List Int} {i:Nat} (h:zac ks a = some i):i < ks.length:=by
 unfold zac at h
 exact (List.findIdx?_eq_some_iff_getElem.1 h).1
theorem zec {κ:Kn} {ρ:Lc} {τ:Tc} {X:Nat → Prop} {mem:List AObj} {m:AV} {x:Value} {ks:List (List Int)} {vs:List AV} (hm:RelM κ ρ τ X mem w) (hx:Rep κ ρ m x)
  (h:zim mem m = some (ks,vs)):∃ b es,x = .map (some b) ∧ w.heap[b]? = some (.map es es.size) ∧ RepMap κ ρ ks vs es:=by
 unfold zim at h
 split at h
 ·simp only [czg,czh] at h
  obtain ⟨rfl,rfl⟩:=h
  obtain ⟨b,es,h1,h2,h3⟩:=hx.mpr_inv
  exact ⟨b,es,h2,hm.know.m b es h1,h3⟩
 ·split at h
  ·rename_i hl
   rename_i l _ _ _
   simp only [czg,czh] at h
   obtain ⟨rfl,rfl⟩:=h
   obtain ⟨b,h1,h2⟩:=hx.mp_inv
   have ho:=hm.obj l
   rw [hl] at ho
   obtain ⟨b',es,g1,_,_,g4,g5⟩:=ho
   obtain rfl:b = b':=by rw [h1] at g1; exact czK g1
   exact ⟨b,es,h2,g4,g5⟩
  ·cases h
 ·cases h
theorem zmq {κ:Kn} {ρ:Lc} {t:TypeId} {z:AV} (h:za1 P t = some z):∃ v,(zeroValue t).run P w = .ok v w ∧ Rep κ ρ z v:=by
 unfold za1 at h
 split at h
 ·rename_i i hi
  cases hz:i.zero with
  | none => simp [hz] at h
  | some v =>
   simp [hz] at h
   subst h
   exact ⟨v,by simp [zeroValue,run_typeInfo w hi,hz],zmN v⟩
 ·cases h
theorem keyV_of {κ:Kn} {ρ:Lc} {cs:List AV} {a:List Int} {x:Value} (hx:Rep κ ρ (.agg cs) x) (h:zab cs = some a):x = zer a:=by
 obtain ⟨vs,rfl,h1,h2⟩:=hx.agg_inv
 obtain ⟨h3,h4⟩:=zfx h
 unfold zer
 congr 1
 apply Array.ext (by simp; omega)
 intro i hi hj
 have:=h2 i (by omega)
 rw [h4 i (by omega)] at this
 have hv:=this.int_inv
 simp only [Array.getD,hi,dite_true] at hv
 simp only [List.getElem_toArray,List.getElem_map]
 have ha:i < a.length:=by simpa using hj
 rw [show vs[i] = Value.int .i64 (a.getD i 0) from hv]
 simp [List.getD,ha]
theorem zkY {κ:Kn} {ρ:Lc} {τ:Tc} {X:Nat → Prop} {mem:List AObj} {t:TypeId} {m k:AV} {x y:Value} {ok:Bool} {p:Prop} {v:AV} (hm:RelM κ ρ τ X mem w)
  (hx:Rep κ ρ m x) (hy:Rep κ ρ k y) (h:zfv P mem t m k ok = some (p,v)) (hp:p):∃ z,(Instr.lookup t x y ok).run P w = .ok z w ∧ Rep κ ρ v z:=by
 unfold zfv at h
 split at h
 ·rename_i kt e ks vs cs ht hin
  split at h
  ·rename_i a z hcs hz
   obtain ⟨rfl,rfl⟩:=Prod.mk.inj (czK h)
   obtain ⟨hK,hlen⟩:=hp
   obtain ⟨b,es,rfl,hb,hR⟩:=zec hm hx hin
   obtain rfl:=keyV_of hy hcs
   obtain ⟨zv,hzv,hzr⟩:=zmq (w:=w) (κ:=κ) (ρ:=ρ) hz
   have hf:=hK.find w a es.toList rfl (hR.lens hlen)
   rw [hR.find] at hf
   cases hki:zac ks a with
   | none =>
    rw [hki] at hf
    simp only [Option.map_none] at hf
    refine ⟨if ok then .tuple #[zv,.bool false] else zv,?_,?_⟩
    ·simp only [Instr.lookup,Sem.run_bind,run_underlying (mapOf?_eq ht),Result.andThen_ok,getObj,Sem.run,hb,Sem.run_pure,hK.check w _ a rfl,hf,hzv]
    cases ok
    ·simpa using hzr
    ·exact .tup _ _ rfl (fun i hi => by
      match i,hi with
      | 0,_ => exact hzr
      | 1,_ => exact .bool _)
   | some i =>
    rw [hki] at hf
    simp only [Option.map_some] at hf
    have hi:=zk1 hki
    have hv:=hR.2.2.2 i hi
    have e1:es.toList.getD i default = es.getD i default:=by simp [List.getD,czo]
    rw [e1] at hf
    refine ⟨if ok then .tuple #[(es.getD i default).val,.bool true] else (es.getD i default).val,?_,?_⟩
    ·simp only [Instr.lookup,Sem.run_bind,run_underlying (mapOf?_eq ht),Result.andThen_ok,getObj,Sem.run,hb,Sem.run_pure,hK.check w _ a rfl,hf]
    cases ok
    ·simpa using hv
    ·exact .tup _ _ rfl (fun i hi => by
      match i,hi with
      | 0,_ => exact hv
      | 1,_ => exact .bool _)
  ·cases h
 ·cases h
theorem zgP {κ:Kn} {ρ:Lc} (a:List Int):Rep κ ρ (keyA a) (zer a) :=
 .agg _ _ (by simp) (fun i hi => by
  have hi':i < a.length:=by simpa using hi
  simp only [List.getD,List.getElem?_map,czo,List.getElem?_toArray,czw hi',Option.map_some,Option.getD_some]
  exact .int _ _)
theorem zns {κ:Kn} {ρ:Lc} {τ:Tc} {X:Nat → Prop} {mem:List AObj} {it:AV} {x:Value} {p:Prop} {v:AV} (hm:RelM κ ρ τ X mem w)
  (hx:Rep κ ρ it x) (h:zhQ mem it = some (p,v)) (hp:p):∃ z,(Instr.entry x).run P w = .ok z w ∧ Rep κ ρ v z:=by
 unfold zhQ at h
 split at h
 ·rename_i l
  split at h
  ·rename_i src n seen hl
   split at h
   ·rename_i ks vs i hin hlast
    obtain ⟨rfl,rfl⟩:=Prod.mk.inj (czK h)
    obtain ⟨hn,hi⟩:=hp
    obtain ⟨b,hb,rfl⟩:=hx.ptr_inv
    have ho:=hm.obj l
    rw [hl] at ho
    obtain ⟨b',mb,g1,_,g3,g4⟩:=ho
    obtain rfl:b = b':=by rw [hb] at g1; exact czK g1
    obtain ⟨mb',es,e1,hmb,hR⟩:=zec hm g4 hin
    cases e1
    have hsz:es.size = n:=by have:=hR.2.1; omega
    have hik:i < ks.length:=by omega
    have hie:i < es.size:=by omega
    have hkey:=hR.2.2.1 i hik
    have e2:es.getD i default = es[i]:=by simp [Array.getD,hie]
    have hfind:es.find? (·.born == i) = some es[i]:=by
     rw [Array.find?_eq_some_iff_getElem]
     refine ⟨by have:=hkey.2; rw [e2] at this; simpa using this,i,hie,rfl,fun j hj => ?_⟩
     have hj':=(hR.2.2.1 j (by omega)).2
     have e3:es.getD j default = es[j]:=by simp [Array.getD,show j < es.size by omega]
     rw [e3] at hj'
     simp [hj']
     omega
    have hback:seen.toArray.back? = some i:=by simp [Array.back?,List.getLast?_eq_getElem?] at hlast ⊢; exact hlast
    refine ⟨.tuple #[es[i].key,es[i].val],?_,?_⟩
    ·have hne:(es.size != n) = false:=by simp [hsz]
     simp only [Instr.entry,Sem.run_bind,getObj,Sem.run,g3,Sem.run_pure,Result.andThen_ok,hback,hmb,hne,czp,if_false,hfind]
    ·rw [e2] at hkey
     refine .tup _ _ rfl (fun j hj => ?_)
     match j,hj with
     | 0,_ => show Rep κ ρ (keyA _) es[i].key; rw [hkey.1]; exact zgP _
     | 1,_ => have:=hR.2.2.2 i hik; rw [e2] at this; exact this
   ·cases h
  ·cases h
 ·cases h
end
end Go.Fs
namespace Go.Fs
open Go.RowKit (Below)
section
variable {P:Program} {w:World}
theorem zhm {κ:Kn} {ρ:Lc} {σ:Operand → AV} {e:Operand → Value} (ps:List (Nat × Operand)) (he:∀ x ∈ ps.map (·.2),Rep κ ρ (σ x) (e x)) :
  ∀ i,i < (ps.map fun q => (q.1,σ q.2)).length →
   ((ps.map fun q => (q.1,e q.2)).getD i (0,Go.undef)).1 = ((ps.map fun q => (q.1,σ q.2)).getD i (0,.undef)).1 ∧
   Rep κ ρ ((ps.map fun q => (q.1,σ q.2)).getD i (0,.undef)).2 ((ps.map fun q => (q.1,e q.2)).getD i (0,Go.undef)).2:=by
 intro i hi
 simp at hi
 simp only [List.getD,List.getElem?_map,czw hi,Option.map_some,Option.getD_some,true_and]
 exact he _ (czx.2 ⟨ps[i],List.getElem_mem hi,rfl⟩)
theorem parts_tok {τ:Tc} {mem:List AObj} {σ:Operand → AV} {e:Operand → Value} (ps:List (Nat × Operand)) (he:∀ x ∈ ps.map (·.2),TokOK τ mem (σ x) (e x)) :
  ∀ i,i < (ps.map fun q => (q.1,σ q.2)).length →
   TokOK τ mem ((ps.map fun q => (q.1,σ q.2)).getD i (0,.undef)).2 ((ps.map fun q => (q.1,e q.2)).getD i (0,Go.undef)).2:=by
 intro i hi
 simp at hi
 simp only [List.getD,List.getElem?_map,czw hi,Option.map_some,Option.getD_some]
 exact he _ (czx.2 ⟨ps[i],List.getElem_mem hi,rfl⟩)
theorem ze7 {κ:Kn} {ρ:Lc} {σ:Operand → AV} {e:Operand → Value} (xs:Array Operand) (he:∀ x ∈ xs.toList,Rep κ ρ (σ x) (e x)) :
  (xs.map e).size = (xs.toList.map σ).length ∧ ∀ i,i < (xs.toList.map σ).length → Rep κ ρ ((xs.toList.map σ).getD i .undef) ((xs.map e).getD i Go.undef):=by
 refine ⟨by simp,fun i hi => ?_⟩
 simp at hi
 have h1:(xs.map e).getD i Go.undef = e xs[i]:=by simp [Array.getD,hi]
 have h2:(xs.toList.map σ).getD i .undef = σ xs[i]:=by simp [List.getD,hi]
 rw [h1,h2]
 exact he _ (Array.getElem_mem_toList hi)
theorem intOf?_eq {t:TypeId} {k:IntKind} (h:intOf? P t = some k):P.underlying t = some (.int k):=by
 unfold intOf? at h
 split at h
 ·rename_i hh; simp at h; subst h; exact hh
 ·cases h
theorem min_sound {κ:Kn} {ρ:Lc} {l:List AV} {xs:List Value} {v:AV} (hl:xs.length = l.length) (hr:∀ i,i < l.length → Rep κ ρ (l.getD i .undef) (xs.getD i Go.undef))
  (h:minA l = some v) (ts:Array TypeId) (t:TypeId):∃ y,(Builtin.min_ ts t xs.toArray).run P w = .ok y w ∧ Rep κ ρ v y:=by
 unfold minA at h
 split at h
 ·rename_i k x k' y
  match xs,hl with
  | [a,b],_ =>
   have h0:=(hr 0 (by simp)).int_inv
   have h1:=(hr 1 (by simp)).int_inv
   simp at h0 h1 h
   subst h0 h1 h
   refine ⟨_,rfl,?_⟩
   have:min x y = if y < x then y else x:=by omega
   rw [this]
   exact .int _ _
 ·cases h
theorem max_sound {κ:Kn} {ρ:Lc} {l:List AV} {xs:List Value} {v:AV} (hl:xs.length = l.length) (hr:∀ i,i < l.length → Rep κ ρ (l.getD i .undef) (xs.getD i Go.undef))
  (h:maxA l = some v) (ts:Array TypeId) (t:TypeId):∃ y,(Builtin.max_ ts t xs.toArray).run P w = .ok y w ∧ Rep κ ρ v y:=by
 unfold maxA at h
 split at h
 ·rename_i k x k' y
  match xs,hl with
  | [a,b],_ =>
   have h0:=(hr 0 (by simp)).int_inv
   have h1:=(hr 1 (by simp)).int_inv
   simp at h0 h1 h
   subst h0 h1 h
   refine ⟨_,rfl,?_⟩
   have:max x y = if y > x then y else x:=by omega
   rw [this]
   exact .int _ _
 ·cases h
theorem zp1 {κ:Kn} {ρ:Lc} {τ:Tc} {X:Nat → Prop} {mem:List AObj} {σ:Operand → AV} {e:Operand → Value} {o:Oper} {p:Prop} {v:AV}
  (hm:RelM κ ρ τ X mem w) (he:∀ x ∈ o.op.operands.toList,Rep κ ρ (σ x) (e x)) (het:∀ x ∈ o.op.operands.toList,TokOK τ mem (σ x) (e x)) (h:semV P mem σ o.op = some (p,v)) (hp:p):Yields P e o κ ρ τ mem w v:=by
 obtain ⟨dst,op,type,pos,after,guard⟩:=o
 cases op <;> simp only [semV,reduceCtorEq] at h <;> dsimp only at he het
 case move x =>
  obtain ⟨rfl,rfl⟩:=Prod.mk.inj (czK h)
  exact zbf (s:=pure (e x)) hm.know (by simp [execOp]) rfl (he x (by simp [Op.operands])) (fun _ => het x (by simp [Op.operands]))
 case assign x =>
  obtain ⟨rfl,rfl⟩:=Prod.mk.inj (czK h)
  exact zbf (s:=pure (e x)) hm.know (by simp [execOp]) rfl (he x (by simp [Op.operands])) (fun _ => het x (by simp [Op.operands]))
 case load t a =>
  obtain ⟨y,hy,hv,ht⟩:=zhF hm (he a (by simp [Op.operands])) (het a (by simp [Op.operands])) h hp
  exact zbf hm.know rfl hy hv (fun _ => ht)
 case fieldAddr t x f =>
  obtain ⟨y,hy,hv,ht⟩:=zjO (w:=w) (he x (by simp [Op.operands])) (het x (by simp [Op.operands])) h
  exact zbf hm.know rfl hy hv (fun _ => ht)
 case field t x f =>
  split at h
  ·rename_i off ft cs hf hx
   have hr:=he x (by simp [Op.operands])
   rw [hx] at hr
   obtain ⟨vs,hvs,hs,hr'⟩:=hr.agg_inv
   obtain ⟨y,hy,hv⟩:=ziK (w:=w) hs hr' h hp
   unfold zbq at hf
   split at hf
   ·rename_i fs hu
    simp only [czr,czh] at hf
    obtain ⟨fd,hfd,rfl,rfl⟩:=hf
    refine zbf (s:=Instr.field t (e x) f) hm.know rfl ?_ hv
    simp [Instr.field,run_underlying hu,hfd,hvs,asAgg,hy]
   ·cases hf
  ·cases h
 case lookup t x k ok =>
  obtain ⟨y,hy,hv⟩:=zkY hm (he x (by simp [Op.operands])) (he k (by simp [Op.operands])) h hp
  exact zbf hm.know rfl hy hv
 case entry it =>
  obtain ⟨y,hy,hv⟩:=zns hm (he it (by simp [Op.operands])) h hp
  exact zbf hm.know rfl hy hv
 case indexAddr t x i =>
  obtain ⟨y,hy,hv,ht⟩:=zjL (w:=w) (he x (by simp [Op.operands])) (het x (by simp [Op.operands])) (he i (by simp [Op.operands])) h hp
  exact zbf hm.know rfl hy hv (fun _ => ht)
 case index t x i =>
  split at h
  ·rename_i n s el cs k i' ha hel hx hi
   split at h
   ·rename_i q v' hpart
    obtain ⟨rfl,rfl⟩:=Prod.mk.inj (czK h)
    have hr:=he x (by simp [Op.operands])
    rw [hx] at hr
    obtain ⟨vs,hvs,hs,hr'⟩:=hr.agg_inv
    have hri:=he i (by simp [Op.operands])
    rw [hi] at hri
    obtain ⟨y,hy,hv⟩:=ziK (w:=w) hs hr' hpart hp.2
    obtain ⟨e',hu,hsz,he'⟩:=zd2 ha
    rw [he'] at hel
    obtain rfl:=czK hel
    refine zbf (s:=Instr.index t (e x) (e i)) hm.know rfl ?_ hv
    simp only [Instr.index,hvs,hri.int_inv,asIntOf,Sem.run_bind,Sem.run_pure,Result.andThen_ok,run_underlying hu]
    rw [if_pos hp.1]
    simp [zaR hsz,hy]
   ·cases h
  ·cases h
 case binOp op t x y t' =>
  obtain ⟨z,hz,hv⟩:=zqT (w:=w) (t:=t) (xo:=x) (yo:=y) (he x (by simp [Op.operands])) (he y (by simp [Op.operands])) h hp
  exact zbf (s:=do eqGuard op t x y (e x) (e y); binOp op t (e x) (e y)) hm.know rfl hz hv
 case unOp op t x =>
  cases op <;> simp only [reduceCtorEq] at h
  case neg =>
   split at h
   ·rename_i k n hx
    obtain ⟨rfl,rfl⟩:=Prod.mk.inj (czK h)
    have hr:=he x (by simp [Op.operands])
    rw [hx] at hr
    refine zbf (s:=Op.unary .neg (e x)) hm.know rfl ?_ (.int k (-n))
    simp [hr.int_inv,Op.unary,Op.intArith,zdD hp]
   ·cases h
  case not =>
   split at h
   ·rename_i b hx
    obtain ⟨rfl,rfl⟩:=Prod.mk.inj (czK h)
    have hr:=he x (by simp [Op.operands])
    rw [hx] at hr
    refine zbf (s:=Op.unary .not (e x)) hm.know rfl ?_ (.bool (!b))
    simp [hr.bool_inv,Op.unary]
   ·cases h
 case convert s d x =>
  split at h
  ·rename_i k1 k2 k3 n h1 h2 hx
   obtain ⟨rfl,rfl⟩:=Prod.mk.inj (czK h)
   have hr:=he x (by simp [Op.operands])
   rw [hx] at hr
   refine zbf (s:=convert s d (e x)) hm.know rfl ?_ (.int k2 n)
   simp [hr.int_inv,convert,run_underlying (intOf?_eq h1),run_underlying (intOf?_eq h2),Conv.intToInt,zdD hp]
  ·cases h
 case makeFunc fn fst cap =>
  obtain ⟨rfl,rfl⟩:=Prod.mk.inj (czK h)
  obtain ⟨a1,a2⟩:=ze7 (σ:=fun x => (σ x).strip) (e:=e) fst (fun x hx => (he x (by simp [Op.operands] at *; exact .inl hx)).strip)
  obtain ⟨b1,b2⟩:=ze7 (σ:=fun x => (σ x).strip) (e:=e) cap (fun x hx => (he x (by simp [Op.operands] at *; exact .inr hx)).strip)
  exact zbf (s:=Instr.makeFunc fn (fst.map e) (cap.map e)) hm.know rfl (by simp [Instr.makeFunc]) (.fn _ _ _ _ _ a1 b1 a2 b2)
 case extract t i =>
  split at h
  ·rename_i vs hx
   obtain ⟨rfl,rfl⟩:=Prod.mk.inj (czK h)
   have hr:=he t (by simp [Op.operands])
   rw [hx] at hr
   generalize hg:e t = et at hr
   cases hr with
   | tup _ ws hs hw =>
    refine zbf (s:=Instr.extract (e t) i) hm.know rfl ?_ (hw i hp)
    have:i < ws.size:=by omega
    simp [hg,Instr.extract,this]
  ·cases h
 case nilCheck x =>
  split at h
  ·rename_i es off hx
   obtain ⟨rfl,rfl⟩:=Prod.mk.inj (czK h)
   have hr:=he x (by simp [Op.operands])
   rw [hx] at hr
   refine ⟨e x,w,κ,?_,hr,Grow.refl hm.know,fun _ => zax rfl⟩
   generalize hg:e x = et at hr
   cases hr
   simp [execOp,hg]
  ·rename_i l off hx
   obtain ⟨rfl,rfl⟩:=Prod.mk.inj (czK h)
   have hr:=he x (by simp [Op.operands])
   rw [hx] at hr
   refine ⟨e x,w,κ,?_,hr,Grow.refl hm.know,fun _ => zax rfl⟩
   obtain ⟨b,_,hb⟩:=hr.ptr_inv
   simp [execOp,hb]
  ·rename_i l s i off hx
   obtain ⟨rfl,rfl⟩:=Prod.mk.inj (czK h)
   have hr:=he x (by simp [Op.operands])
   have ht:=het x (by simp [Op.operands])
   rw [hx] at hr ht
   refine ⟨e x,w,κ,?_,hr,Grow.refl hm.know,fun _ => ht⟩
   generalize hg:e x = et at hr
   cases hr
   simp [execOp,hg]
  ·cases h
 case build t parts =>
  simp only [czr,czh] at h
  obtain ⟨v',hb,rfl,rfl⟩:=h
  obtain ⟨y,hy,hv,hvt⟩:=znP (w:=w) (κ:=κ) (ρ:=ρ) (τ:=τ) (mem:=mem) (partsC:=parts.map fun (i,x) => (i,e x)) (by simp)
   (by have:=zhm (κ:=κ) (ρ:=ρ) (σ:=σ) (e:=e) parts.toList (fun x hx => he x (by simpa [Op.operands] using hx)); simpa using this)
   (by have:=parts_tok (τ:=τ) (mem:=mem) (σ:=σ) (e:=e) parts.toList (fun x hx => het x (by simpa [Op.operands] using hx)); simpa using this) hb
  exact zbf (s:=Instr.build t (parts.map fun (i,x) => (i,e x))) hm.know rfl hy hv (fun _ => hvt)
 case buildSlice t len parts =>
  simp only [czr,czh] at h
  obtain ⟨v',hb,rfl,rfl⟩:=h
  obtain ⟨y,w',κ',hy,hv,hg⟩:=zj0 (w:=w) (κ:=κ) (ρ:=ρ) (partsC:=parts.map fun (i,x) => (i,e x)) hm.know (by simp)
   (by have:=zhm (κ:=κ) (ρ:=ρ) (σ:=σ) (e:=e) parts.toList (fun x hx => he x (by simpa [Op.operands] using hx)); simpa using this) hb
  refine ⟨y,w',κ',?_,hv,hg,fun q => by simp [zel] at q⟩
  simp [execOp,hy]
 case slice t x lo hi mx =>
  cases mx <;> try simp only [reduceCtorEq] at h
  obtain ⟨y,hy,hv,ht⟩:=zmJ (w:=w) (lov:=lo.map e) (hiv:=hi.map e) (he x (by simp [Op.operands])) (het x (by simp [Op.operands]))
   (by
     intro v hv
     cases lo with
     | none => simp at hv
     | some q => simp at hv; subst hv; exact ⟨e q,rfl,he q (by simp [Op.operands])⟩)
   (by intro hn; cases lo <;> simp_all)
   (by
     intro v hv
     cases hi with
     | none => simp at hv
     | some q => simp at hv; subst hv; exact ⟨e q,rfl,he q (by simp [Op.operands])⟩)
   (by intro hn; cases hi <;> simp_all) h hp
  exact zbf (s:=Instr.sliceAt t (e x) (lo.map e) (hi.map e) none) hm.know rfl hy hv (fun _ => ht)
 case call c =>
  obtain ⟨callee,args,argTypes⟩:=c
  cases callee <;> try simp only [reduceCtorEq] at h
  rename_i b
  have ha:=ze7 args (fun x hx => he x (by simp [Op.operands,Call.operands] at *; exact hx))
  cases b <;> try simp only [reduceCtorEq] at h
  case len =>
   split at h
   ·rename_i x t hx ht
    split at h
    ·rename_i q hsl
     obtain ⟨el,s⟩:=q
     obtain ⟨hu,_⟩:=zbp hsl
     have hxa:args = #[x]:=by rw [← Array.toList_inj]; exact hx
     have hta:argTypes = #[t]:=by rw [← Array.toList_inj]; exact ht
     subst hxa hta
     have hr:=he x (by simp [Op.operands,Call.operands])
     unfold znO at h
     split at h
     ·rename_i es tok hv
      obtain ⟨rfl,rfl⟩:=Prod.mk.inj (czK h)
      rw [hv] at hr
      refine ⟨.int .i64 es.length,w,κ,?_,.int _ _,Grow.refl hm.know,fun q => by simp [zel] at q⟩
      generalize hg:e x = et at hr
      cases hr <;> simp [execOp,resolve,invoke,builtin,Builtin.len_,run_underlying hu,hg,goInt]
     ·rename_i l off len sz hv
      obtain ⟨rfl,rfl⟩:=Prod.mk.inj (czK h)
      rw [hv] at hr
      refine ⟨.int .i64 len,w,κ,?_,.int _ _,Grow.refl hm.know,fun q => by simp [zel] at q⟩
      generalize hg:e x = et at hr
      cases hr <;> simp [execOp,resolve,invoke,builtin,Builtin.len_,run_underlying hu,hg,goInt]
     ·rename_i l s off len sz hv
      obtain ⟨rfl,rfl⟩:=Prod.mk.inj (czK h)
      rw [hv] at hr
      refine ⟨.int .i64 len,w,κ,?_,.int _ _,Grow.refl hm.know,fun q => by simp [zel] at q⟩
      generalize hg:e x = et at hr
      cases hr <;> simp [execOp,resolve,invoke,builtin,Builtin.len_,run_underlying hu,hg,goInt]
     ·cases h
    ·cases h
   ·cases h
  case min =>
   simp only [czr,czh] at h
   obtain ⟨v',hb,rfl,rfl⟩:=h
   obtain ⟨y,hy,hv⟩:=min_sound (P:=P) (w:=w) (κ:=κ) (ρ:=ρ) (xs:=(args.map e).toList) (by simp) (by intro i hi; have:=ha.2 i hi; simpa [List.getD,czo] using this) hb argTypes type
   refine ⟨y,w,κ,?_,hv,Grow.refl hm.know,fun q => by simp [zel] at q⟩
   simp only [Array.toArray_toList] at hy
   simp [execOp,resolve,invoke,builtin,hy]
  case max =>
   simp only [czr,czh] at h
   obtain ⟨v',hb,rfl,rfl⟩:=h
   obtain ⟨y,hy,hv⟩:=max_sound (P:=P) (w:=w) (κ:=κ) (ρ:=ρ) (xs:=(args.map e).toList) (by simp) (by intro i hi; have:=ha.2 i hi; simpa [List.getD,czo] using this) hb argTypes type
   refine ⟨y,w,κ,?_,hv,Grow.refl hm.know,fun q => by simp [zel] at q⟩
   simp only [Array.toArray_toList] at hy
   simp [execOp,resolve,invoke,builtin,hy]
end
end Go.Fs
