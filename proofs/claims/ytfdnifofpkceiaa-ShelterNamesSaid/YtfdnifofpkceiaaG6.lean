/- The texts A31, A32, A33, A34, A35, joined. -/
import Derived.Test.YtfdnifofpkceiaaG5
import Derived.ProofKit
import Derived.SizedLaws
import Derived.Lib.SmallJoins
set_option linter.all false
namespace Go.Fs
open Go.RowKit (Below)
section
variable {P : Program} {Φ : Specs}
def frR (es0 : List (List AV)) (sz : Nat) (v : AV) (mem : List AObj) : Prop :=
  match v with
  | .sl es (.own k) => es = es0 ∧ memAt mem k = .tok es.length sz
  | .sl es .full => es = es0
  | _ => False
theorem callF_of_vc {f : FuncId} {fn : Func} {c : Code} {args : List AV} {β : Type} [EncE β] {l : List β} {sz : Nat} (hf : P.funcs[f]? = some fn) (hb : fn.body = some c) (hnm : (fn.name == "runtime.NumGoroutine") = false)
    (hn : args.length ≤ fn.ntmps) (hmx : P.follows .mixedOrders = true) (hΦ : SpecsOk P Φ) (ht : ∀ a ∈ args, a.strip = a) (hdep : EncE.dep β ≤ 8)
    (h : vc P Φ c (retA P fn.results.toList (fun vs st => frR (l.map EncE.cs) sz (tupA vs) st.mem)) (startSt fn.ntmps args [])) : CallF P f args sz (l.map EncE.cs) := by
  refine ⟨⟨fn, hf, hnm, by rw [hb]; rfl⟩, fun κ w vs hk hs hr => ?_⟩
  let X : Nat → Prop := fun b => b < w.heap.size
  have hm : RelM κ noLc (fun _ => none) X [] w := ⟨fun l => trivial, fun l l' b hl => by simp [memAt, blk] at hl, hk, fun _ _ => rfl, fun l cs b vs T hl => by simp [memAt] at hl⟩
  have hrel := start_rel (n := fn.ntmps) hm (fun b hb => hb) hn hs hr ht
  refine callsIn_of_wp_marks hf hb trivial ?_
  have hwp : c.wpIn Fence.wide 0 P _ _ w := vc_sound hmx hΦ c _ _ h none (.inl rfl) X ⟨w, κ⟩ 0 κ noLc (fun _ => none) _ w hrel
  refine wpIn_mono hwp ?_
  rintro e a' w' ⟨κ', ρ', τ', st', g1, g2, g3⟩
  have hpure : ∀ e ∈ l.map EncE.cs, ∀ c ∈ e, pureN (EncE.dep β) c := fun e he c hc => by
    obtain ⟨y, _, rfl⟩ := List.mem_map.1 he
    exact EncE.ok y c hc
  have hfin : doneA P fn.results.toList (fun vs st => frR (l.map EncE.cs) sz (tupA vs) st.mem) st'.marks st' → LeavesInM Fence.wide 0 P fn a'.tmps (fun e w' => ∃ x κ', e = .returned x ∧ Rep κ' noLc (.sl (l.map EncE.cs) .no) x ∧ Grow κ w κ' w' ∧ Room κ' w w' (l.map EncE.cs).length sz x) a'.defers .returning w' := by
    intro hd
    refine done_sound (κ := κ') (st := st') (X := X) (w0 := ⟨w, κ⟩) (m0 := 0) ?_ st'.marks st' a' w' rfl g1 (Ext.refl _ _ _ _ _) hd
    intro κ2 st2 a2 w2 us x q1 q2 q3 qt0 q4
    have qt : OwnOK τ' st2.mem (tupA us) x := by
      match us, qt0 with
      | [u], qt => exact qt.own
      | [], _ => exact (tok_of_no rfl : TokOK τ' st2.mem (AV.tup []) x).own
      | u :: v :: r, _ => exact (tok_of_no rfl : TokOK τ' st2.mem (AV.tup (u :: v :: r)) x).own
    generalize tupA us = v at q3 qt q4
    have hgrow : Grow κ w κ2 w2 := ⟨Kn.le_trans g2.le q2.le, q1.mem.know, ⟨q1.frm.os, q1.frm.tape, q1.frm.output, q1.frm.size, q1.frm.block⟩, fun b o hb => q1.kx.1 b o hb, fun b hb => q1.kx.2 b hb⟩
    have himm : ∀ tk, imm 9 (.sl (l.map EncE.cs) tk) := fun tk e he c hc => pure_imm _ _ _ (hpure e he c hc) (by omega)
    have hsn : ∀ tk, snap 9 ([] : List AObj) (.sl (l.map EncE.cs) tk) = .sl (l.map EncE.cs) .no := fun tk => snap_map l tk (by omega)
    unfold frR at q4
    split at q4
    · rename_i es k
      obtain ⟨rfl, hk'⟩ := q4
      have hrep := snap_imm (mem := ([] : List AObj)) 9 (himm _) q3
      rw [hsn] at hrep
      refine ⟨x, κ2, rfl, hrep, hgrow, ?_⟩
      obtain ⟨n, s, h1, _, h3⟩ := qt _ k rfl trivial
      rw [hk'] at h1
      cases h1
      obtain ⟨ad, len, cap, hx, hc⟩ := h3 rfl
      rcases hc with hc | ⟨b, c, hb1, hb2, hb3⟩
      · exact .inl ⟨ad, len, by rw [hx, hc]⟩
      · have ho := q1.mem.obj k
        rw [hk'] at ho
        have hlen : len = (l.map EncE.cs).length := by
          rw [hx] at q3
          have key : ∀ (es : List (List AV)) (tk : Tk), Rep κ2 ρ' (.sl es tk) (.slice ad len cap) → (∃ b, ad = some b) → len = es.length := by
            intro es tk hh he
            cases hh with
            | slnil => obtain ⟨_, he⟩ := he; cases he
            | sl => rfl
          exact key _ _ q3 ⟨_, hb1⟩
        rcases ho with ho | ⟨b', c', us, T, o1, o2, o3, o4, o5⟩
        · rw [hb2] at ho; cases ho
        · rw [hb2] at o1
          cases o1
          refine .inr ⟨b, cap, us, T, by rw [hx, hb1, hlen], ?_, o3, o4, by omega⟩
          by_cases hlt : b < w.heap.size
          · exact absurd hlt o2
          · omega
    · rename_i es
      subst q4
      have hrep := snap_imm (mem := ([] : List AObj)) 9 (himm _) q3
      rw [hsn] at hrep
      refine ⟨x, κ2, rfl, hrep, hgrow, .inl ?_⟩
      have key : ∀ (es : List (List AV)) (y : Value), Rep κ2 ρ' (.sl es .full) y → ∃ a len, y = .slice a len len := by
        intro es y hh
        cases hh with
        | slnil => exact ⟨none, 0, rfl⟩
        | sl _ _ b o cap sz' val _ _ _ hfull _ => exact ⟨_, _, by rw [hfull rfl]⟩
      exact key _ _ q3
    · exact q4.elim
  cases e with
  | normal => exact hfin g3
  | ret => exact hfin g3
  | _ => exact g3.elim
end
end Go.Fs
namespace Go.Fs
open Go.RowKit (Below)
open Go.ChangeShapes Go.WideShapes Go.ChangeAt
theorem inR_of_wf {k : IntKind} {n : Int} (h : (Lit.int k n).wf = true) : InR k n := by
  cases k <;> simp [Lit.wf, IntKind.min, IntKind.max, IntKind.bits, IntKind.signed] at h <;> simp only [InR] <;> omega
structure RdE (P : Program) (T : TypeId) (α : Type) [EncE α] (ok : α → Prop) : Prop where
  sz : P.cellsOf T = EncE.sz α
  rd : ∀ {H : Type} (enc : TypeId × Value → H) (w : World) (base : Nat) (spare : Nat → Bool) (held : Bool) (fuel : Nat) (cs : List Value) (x : DataW H × List MemPlace),
    DataW.trod enc P w base spare held fuel T cs = some x → ∃ y : α, ok y ∧ RepL (knAll w) noLc (EncE.cs y) cs.toArray
def RdV (P : Program) (T : TypeId) (α : Type) [Enc α] (ok : α → Prop) : Prop :=
  ∀ {H : Type} (enc : TypeId × Value → H) (w : World) (base : Nat) (v : Value) (d : DataW H) (ps : List MemPlace),
    Value.okWide P w .any base T v → DataW.Trod enc P w 0 (fun _ => true) true T v d ps → (d.weights P T).all (· ≤ reachBytes) = true → ∃ y : α, ok y ∧ Rep (knAll w) noLc (Enc.enc y) v
section
variable {P : Program}
theorem rdE_int {T : TypeId} (ht : P.underlying T = some (.int .i64)) (hc : P.cellsOf T = 1) : RdE P T Int (InR .i64) :=
  ⟨hc, fun enc w base spare held fuel cs x h => by
    obtain ⟨n, rfl, rfl, hw⟩ := DataW.trod_int ht h
    exact ⟨n, inR_of_wf hw, rfl, fun i hi => by
      obtain rfl : i = 0 := by simpa [cs_int] using hi
      exact .int _ _⟩⟩
theorem rdV_int {T : TypeId} (ht : P.underlying T = some (.int .i64)) : RdV P T Int (InR .i64) := fun enc w base v d ps hv ⟨fuel, h⟩ _ => by
  obtain ⟨n, rfl⟩ := okWide_int ht hv
  obtain ⟨m, hm, _, hw⟩ := DataW.trod_int ht h
  simp [Value.cells] at hm
  subst hm
  exact ⟨n, inR_of_wf hw, .int _ _⟩
theorem rdV_bool {T : TypeId} (ht : P.underlying T = some .bool) : RdV P T Bool (fun _ => True) := fun enc w base v d ps hv _ _ => by
  obtain ⟨b, rfl⟩ := okWide_bool ht hv
  exact ⟨b, trivial, .bool _⟩
theorem rd_field {H : Type} {enc : TypeId × Value → H} {w : World} {base : Nat} {spare : Nat → Bool} {held : Bool} {fuel : Nat} {T : TypeId} {fs : Array Field} {cs : List Value} {x : DataW H × List MemPlace} (ht : P.underlying T = some (.struct fs))
    (h : DataW.trod enc P w base spare held fuel T cs = some x) : cs.length = P.cellsOf T ∧ ∃ xs : List (DataW H × List MemPlace), x.1 = .agg (xs.map (·.1)) ∧ xs.length = fs.size ∧ ∀ (i : Nat) (f : Field), fs[i]? = some f →
      ∃ n y, xs[i]? = some y ∧ DataW.trod enc P w base spare held n f.type ((cs.drop f.offset).take (P.cellsOf f.type)) = some y := by
  obtain ⟨xs, n, _, rfl, hl, hlen, hf⟩ := DataW.trod_struct ht h
  refine ⟨hl, xs, rfl, by simpa using hlen, fun i f hi => ?_⟩
  have := hf i f (by simpa using hi)
  have hlt : i < xs.length := by
    have h1 : i < fs.size := by
      by_cases hl : i < fs.size
      · exact hl
      · rw [Array.getElem?_eq_none (Nat.le_of_not_lt hl)] at hi; cases hi
    have h2 : xs.length = fs.size := by simpa using hlen
    omega
  exact ⟨n, xs[i], List.getElem?_eq_getElem hlt, by rw [this, List.getElem?_eq_getElem hlt]⟩
theorem choose_list {α : Type} (n : Nat) (Q : Nat → α → Prop) (h : ∀ i, i < n → ∃ y, Q i y) : ∃ l : List α, l.length = n ∧ ∀ i y, l[i]? = some y → Q i y := by
  induction n with
  | zero => exact ⟨[], rfl, fun i y h => by simp at h⟩
  | succ n ih =>
    obtain ⟨l, hl, hq⟩ := ih fun i hi => h i (by omega)
    obtain ⟨y, hy⟩ := h n (by omega)
    refine ⟨l ++ [y], by simp [hl], fun i z hz => ?_⟩
    by_cases hi : i < n
    · rw [List.getElem?_append_left (by omega)] at hz
      exact hq i z hz
    · have : i < (l ++ [y]).length := (List.getElem?_eq_some_iff.1 hz).1
      simp at this
      obtain rfl : i = n := by omega
      rw [List.getElem?_append_right (by omega)] at hz
      simp [hl] at hz
      subst hz; exact hy
theorem rd_slice {α : Type} [EncE α] {ok : α → Prop} {H : Type} {enc : TypeId × Value → H} {w : World} {base : Nat} {spare : Nat → Bool} {held : Bool} {fuel : Nat} {T E : TypeId} {v : Value} {x : DataW H × List MemPlace}
    (hE : RdE P E α ok) (ht : P.underlying T = some (.slice E)) (h : DataW.trod enc P w base spare held fuel T [v] = some x) (hs : ∀ a l c, v = .slice (some a) l c → a.spot = none) :
    ∃ l : List α, (∀ y ∈ l, ok y) ∧ Rep (knAll w) noLc (.sl (l.map EncE.cs) .no) v ∧ (∀ B, (x.1.weights P T).all (· ≤ B) = true → l.length * P.bytesOf E ≤ B) := by
  rcases DataW.trod_slice ht h with ⟨hc, hx⟩ | ⟨a, len, cap, elems, rest, n, _, hc, hx, hb, hl, hm, hlen, hel, _, _⟩
  · simp only [List.cons.injEq, and_true] at hc
    subst hc
    exact ⟨[], by simp, .slnil _, fun B _ => by simp⟩
  · simp only [List.cons.injEq, and_true] at hc
    subst hc
    have hsp := hs a len cap rfl
    obtain ⟨l, h1, h2⟩ := choose_list len (fun i (y : α) => ok y ∧ ∀ j, j < EncE.sz α → ∃ u, w.cell? ⟨a.block, a.off + i * EncE.sz α + j, none⟩ = some u ∧ Rep (knAll w) noLc ((EncE.cs y).getD j .undef) u) (fun i hi => by
      have he := hel i hi
      rw [List.getElem?_eq_getElem (by omega), Option.bind_eq_some_iff] at he
      obtain ⟨cs, hcs, hy⟩ := he
      obtain ⟨y, hy1, hy2⟩ := hE.rd enc w base spare held n cs _ hy
      obtain ⟨g1, g2, g3⟩ := World.cells?_some hcs
      refine ⟨y, hy1, fun j hj => ?_⟩
      have hjl : j < cs.length := by
        rw [hE.sz] at g2; omega
      have hj' := g3 j (by rw [hE.sz]; exact hj)
      refine ⟨cs[j], ?_, ?_⟩
      · rw [List.getElem?_eq_getElem hjl] at hj'
        rw [← hj']
        congr 1
        have ea : a = ⟨a.block, a.off, none⟩ := by cases a; simp_all
        conv => rhs; rw [ea]
        rw [addr_add, addr_add, hE.sz]
      · have := hy2.2 j (by rw [EncE.len]; exact hj)
        have e : cs.toArray.getD j Go.undef = cs[j] := by simp [hjl]
        rwa [e] at this)
    have hat : ∀ i, i < len → ∃ y, l[i]? = some y ∧ (l.map EncE.cs).getD i [] = EncE.cs y := fun i hi => by
      have hi' : i < l.length := by omega
      exact ⟨l[i], List.getElem?_eq_getElem hi', by simp [List.getD, hi']⟩
    refine ⟨l, fun y hy => ?_, ?_, fun B hB => ?_⟩
    · obtain ⟨i, hi, rfl⟩ := List.getElem_of_mem hy
      exact (h2 i _ (List.getElem?_eq_getElem hi)).1
    · have ea : a = ⟨a.block, a.off, none⟩ := by cases a; simp_all
      have hll : len = (l.map (EncE.cs (α := α))).length := by simp [h1]
      rw [ea, hll]
      refine .sl _ .no a.block a.off cap (EncE.sz α) (fun i j => (w.cell? ⟨a.block, a.off + i * EncE.sz α + j, none⟩).getD Go.undef) (fun i hi => ?_) (fun i j hi hj => ?_) (fun i j hi hj => ?_) (fun e => by cases e) (by omega)
      · obtain ⟨y, _, e⟩ := hat i (by omega)
        rw [e, EncE.len]
      · obtain ⟨y, hy, _⟩ := hat i (by omega)
        obtain ⟨u, hu, _⟩ := (h2 i y hy).2 j hj
        show w.cell? _ = _
        rw [hu]; rfl
      · obtain ⟨y, hy, e⟩ := hat i (by omega)
        obtain ⟨u, hu, hr⟩ := (h2 i y hy).2 j hj
        rw [e, hu]
        exact hr
    · have := List.all_eq_true.1 hB ((elems.length + rest.length) * P.bytesOf E) (by rw [hx]; simp [DataW.weights, ht])
      have h3 : (elems.length + rest.length) * P.bytesOf E ≤ B := by simpa using this
      have h4 : l.length * P.bytesOf E ≤ (elems.length + rest.length) * P.bytesOf E := Nat.mul_le_mul_right _ (by omega)
      omega
theorem rowOk_spot {w : World} {r : Reach} {base : Nat} {T : TypeId} {cs : Array Value} (h : Row.okWide P w r base T cs) {i : Nat} {a : Addr} {l c : Nat} (hi : cs[i]? = some (.slice (some a) l c)) : a.spot = none := by
  obtain ⟨ts, _, _, h3⟩ := h
  obtain ⟨u, _, hu⟩ := h3 i _ hi
  unfold Cell.okWide at hu
  split at hu
  all_goals (try (rename_i h1 h2; cases h2; done))
  unfold Cell.ok at hu
  split at hu
  all_goals (try (rename_i h1 h2; cases h2; done))
  · rename_i h1 h2
    cases h2
    exact hu.2.2.2.1
  · exact hu.elim
theorem okWide_row {w : World} {r : Reach} {base : Nat} {T : TypeId} {fs : Array Field} {v : Value} (ht : P.underlying T = some (.struct fs)) (h : Value.okWide P w r base T v) : ∃ cs, v = .agg cs ∧ cs.size = P.cellsOf T ∧ Row.okWide P w r base T cs := by
  unfold Value.okWide at h
  rw [ht] at h
  exact h
theorem rdV_slice {α : Type} [EncE α] {ok : α → Prop} {T E : TypeId} (hE : RdE P E α ok) (ht : P.underlying T = some (.slice E)) : RdV P T (List α) (fun l => (∀ y ∈ l, ok y) ∧ l.length * P.bytesOf E ≤ reachBytes) := fun enc w base v d ps hv ⟨fuel, h⟩ hw => by
  obtain ⟨a, l, c, rfl⟩ := okWide_slice ht hv
  have hc : (Value.slice a l c).cells.toList = [.slice a l c] := by simp [Value.cells]
  rw [hc] at h
  obtain ⟨l', h1, h2, h3⟩ := rd_slice hE ht h (fun a' l' c' e => by
    cases e
    unfold Value.okWide at hv
    rw [ht] at hv
    simp only [Cell.okWide, ht, Cell.ok] at hv
    exact hv.2.2.2.1)
  exact ⟨l', ⟨h1, h3 _ hw⟩, h2⟩
theorem law_lifted {H : Type} {enc : TypeId × Value → H} {C : Checked} {os : Os} {f : FuncId} {fn : Func} {s : ChangeSpec} {conds : List PathCond} {tb : TypeId}
    (own : ownKnob C.prog.godebug = none) (started : os.Started) (noInit : C.prog.inits.idxOf? f = none) (hfn : C.prog.funcs[f]? = some fn)
    (witness : ∃ (w : World) (tape : Tape) (i : Input), w.os = os ∧ (w.forCall tape i).Shaped C.prog ∧ i.vars = [] ∧ Input.okWide C.prog (w.forCall tape i) .any w.heap.size f i ∧
      s.pre6 enc C.prog fn conds false (w.forCall tape i).memory i.args ∧ ({} : Assume).holds C.prog (lone (Frame.enter C.prog f i.args .normal) [] (w.forCall tape i)))
    (hvars : s.vars = []) (laid : laidOutB C.prog = true) (hps : fn.params.toList.all (fun t => C.prog.readableRec t && decide (t < C.prog.types.size)) = true)
    (hres : fn.resultTypes = #[tb]) (htb : C.prog.underlying tb = some .bool)
    (hspec : ∀ ds : List (DataW H), ds.length = fn.params.size → (s.fn H ds).results = [.lit (.bool true)] ∧ (s.fn H ds).args = ds ∧ (s.fn H ds).vars = [])
    (hcall : ∀ (W : World) (base : Nat) (args : Array Value) (ds : List (DataW H)) (ps : List MemPlace), (∀ (j : Nat) t v, fn.params[j]? = some t → args[j]? = some v → Value.okWide C.prog W .any base t v) →
      DataW.TrodAll enc C.prog W 0 (fun _ => true) true fn.params.toList args.toList ds ps → (DataW.weightsEach C.prog fn.params.toList ds).all (· ≤ reachBytes) = true →
      ∃ avs : List AV, RepL (knAll W) noLc avs args ∧ CallP C.prog f avs (· = .bool true)) :
    ReturnsInHanded {} C os f .any (s.pre6 enc C.prog fn conds false) (s.post enc C.prog fn false true false false) := by
  refine returnsInHanded_of_change_sized own started noInit hfn witness ?_
  intro W base args ds gs before hval hW _ hsz _
  have hW' := hW
  obtain ⟨p, q, hA, hV, rfl, _, _⟩ := hW
  rw [hvars] at hV
  obtain ⟨rfl, rfl⟩ := trodVars_none hV
  have hvt : s.plain.varTypes C.prog = [] := by
    unfold DataSpec.varTypes ChangeSpec.plain
    simp [hvars]
  rw [hvt, List.append_nil, List.append_nil] at hsz
  obtain ⟨avs, hr, hc⟩ := hcall W base args ds p hval hA hsz
  have hlt : ∀ x ∈ p, x.block < W.heap.size := fun x hx => hW'.lt x (by simp [hx])
  have hall : ∀ (W' : World), Below W.heap.size W W' → ∀ (ts : List TypeId) (vs : List Value) (ds : List (DataW H)) (p : List MemPlace), ts.all (fun t => C.prog.readableRec t && decide (t < C.prog.types.size)) = true → (∀ x ∈ p, x.block < W.heap.size) →
      DataW.TrodAll enc C.prog W 0 (fun _ => true) true ts vs ds p → DataW.TrodAll enc C.prog W' 0 (fun b => decide (b < W.heap.size)) true ts vs ds p := by
    intro W' hb ts
    induction ts with
    | nil =>
      intro vs ds p _ _ h
      obtain ⟨rfl, rfl, rfl⟩ := trodAll_nil h
      exact rfl
    | cons t ts ih =>
      intro vs ds p hps hlt h
      obtain ⟨v, vs', d, ds', a, b, rfl, rfl, rfl, h1, h2⟩ := trodAll_cons h
      simp only [List.all_cons, Bool.and_eq_true] at hps
      exact ⟨a, b, Below.trod laid hps.1.1 (of_decide_eq_true hps.1.2) h1 hb (fun x hx => hlt x (by simp [hx])), ih vs' ds' b hps.2 (fun x hx => hlt x (by simp [hx])) h2, rfl⟩
  have hlen : ds.length = fn.params.size := by
    have key : ∀ (ts : List TypeId) (vs : List Value) (ds : List (DataW H)) (p : List MemPlace), DataW.TrodAll enc C.prog W 0 (fun _ => true) true ts vs ds p → ds.length = ts.length := by
      intro ts
      induction ts with
      | nil => intro vs ds p h; obtain ⟨_, rfl, _⟩ := trodAll_nil h; rfl
      | cons t ts ih =>
        intro vs ds p h
        obtain ⟨v, vs', d, ds', a, b, rfl, rfl, rfl, h1, h2⟩ := trodAll_cons h
        simp [ih vs' ds' b h2]
    rw [key _ _ _ _ hA]; simp
  obtain ⟨e1, e2, e3⟩ := hspec ds hlen
  have hcalls := callsIn_wide.1 (hc.2 (knAll W) W args (knAll_knows W) hr.1 hr.2)
  refine hcalls.mono fun e W' ⟨x, κ', r, he, hrt, hrep, hg⟩ => ?_
  subst hrt
  have hx := hrep.bool_inv
  subst hx
  refine ⟨_, he, ds, [], p ++ [], [], p, [], hW', ?_, ?_, ?_, hg.below.frame _, fun h => by cases h⟩
  · rw [List.append_nil, e1, hres]
    exact trodAll_mk1 (Go.RowKit.shut_bool htb true)
  · rw [List.append_nil, e2]
    exact hall W' hg.below _ _ _ _ hps hlt hA
  · rw [List.append_nil, e3, hvars]
    exact rfl
end
end Go.Fs
namespace Go.Fs
def vcS (P : Program) (Φ : Specs) (ds : List (Option Tmp)) : List Oper → (St → Prop) → St → Prop
  | [], K, st => K st
  | o :: os, K, st =>
    match guardA ds st.tm o with
    | none => False
    | some g =>
      match flagOf Φ o.dst with
      | some _ => False
      | none =>
      match semC P Φ { st with tm := restr st.tm o.op } o.op with
      | none => False
      | some (p, v) =>
        match g with
        | none => p ∧ dstOk st.n o.dst ∧ vcS P Φ ds os K { st with tm := putT st.tm o.dst v }
        | some g => (g = true → p) ∧ dstOk st.n o.dst ∧ vcS P Φ ds os K { st with tm := putT st.tm o.dst (.onlyIf g v) }
theorem vcDr_of_vcS {P : Program} {Φ : Specs} {ops : List Oper} {K : St → Prop} : ∀ {os : List Oper} {k L : Nat} {st : St}, vcS P Φ (ops.map (·.dst)) os K st → vcDr P Φ ops k st.mem os L K st
  | [], _, _, _, h => h
  | o :: os, k, L, st, h => by
    unfold vcS at h
    unfold vcDr planOp
    have hst : ({ st with tm := restr st.tm o.op, mem := st.mem } : St) = { st with tm := restr st.tm o.op } := rfl
    cases hg : guardA (ops.map (·.dst)) st.tm o with
    | none => rw [hg] at h; exact h.elim
    | some g =>
      rw [hg] at h
      simp only at h ⊢
      cases hfl : flagOf Φ o.dst with
      | some d => rw [hfl] at h; exact h.elim
      | none =>
      rw [hfl] at h
      simp only at h ⊢
      cases hs : semC P Φ { st with tm := restr st.tm o.op } o.op with
      | none => rw [hs] at h; exact h.elim
      | some r =>
        obtain ⟨p, v⟩ := r
        rw [hs] at h
        cases g with
        | none => exact ⟨h.1, h.2.1, vcDr_of_vcS h.2.2⟩
        | some g => exact ⟨h.1, h.2.1, vcDr_of_vcS h.2.2⟩
theorem drawV_of_vcS {P : Program} {Φ : Specs} {ops : List Oper} {K : St → Prop} {st : St} (hn : Nat.beq (newCount (frOp ops) ops) 0 = true)
    (h : ∀ ds, ds = ops.map (·.dst) → vcS P Φ ds ops K st) : drawV P Φ ops K st := by
  unfold drawV
  rw [Nat.eq_of_beq_eq_true hn]
  simp only [List.replicate, List.append_nil]
  exact vcDr_of_vcS (h _ rfl)
theorem vcS_split {P : Program} {Φ : Specs} {ds : List (Option Tmp)} {K : St → Prop} : ∀ (n : Nat) {os : List Oper} {st : St},
    (∀ K', K' = vcS P Φ ds (os.drop n) K → vcS P Φ ds (os.take n) K' st) → vcS P Φ ds os K st
  | 0, _, _, h => by
    have := h _ rfl
    simpa [vcS] using this
  | n + 1, [], _, h => by
    have := h _ rfl
    simpa [vcS] using this
  | n + 1, o :: os, st, h => by
    have h := h _ rfl
    simp only [List.drop_succ_cons, List.take_succ_cons] at h
    unfold vcS at h ⊢
    split
    · next hg => rw [hg] at h; exact h
    · next g hg =>
      rw [hg] at h
      simp only at h
      split
      · next hfl => rw [hfl] at h; exact h
      · next hfl =>
      rw [hfl] at h
      simp only at h
      split
      · next hs => rw [hs] at h; exact h
      · next p v hs =>
        rw [hs] at h
        cases g with
        | none => exact ⟨h.1, h.2.1, vcS_split n fun K' e => e ▸ h.2.2⟩
        | some g => exact ⟨h.1, h.2.1, vcS_split n fun K' e => e ▸ h.2.2⟩
theorem vcS_keep {P : Program} {Φ : Specs} {ds : List (Option Tmp)} {os : List Oper} {K : St → Prop} {st : St} (ks : List Nat)
    (h : ∀ tm', (∀ k ∈ ks, lk tm' k = lk st.tm k) → vcS P Φ ds os K { st with tm := tm' }) : vcS P Φ ds os K st := h st.tm fun _ _ => rfl
theorem drawV_keep {P : Program} {Φ : Specs} {ops : List Oper} {K : St → Prop} {st : St} (ks : List Nat)
    (h : ∀ tm', (∀ k ∈ ks, lk tm' k = lk st.tm k) → drawV P Φ ops K { st with tm := tm' }) : drawV P Φ ops K st := h st.tm fun _ _ => rfl
theorem vcOps_cut {P : Program} {Φ : Specs} {ds : List (Option Tmp)} {K : St → Prop} : ∀ (n : Nat) (os : List Oper), vcOps P Φ ds os K = vcOps P Φ ds (os.take n) (vcOps P Φ ds (os.drop n) K)
  | 0, os => by simp only [List.take_zero, List.drop_zero]; funext st; rfl
  | n + 1, [] => by simp only [List.take_nil, List.drop_nil]; funext st; rfl
  | n + 1, o :: os => by
    simp only [List.take_succ_cons, List.drop_succ_cons]
    funext st
    simp only [vcOps]
    rw [← vcOps_cut n os]
theorem vcOps_split {P : Program} {Φ : Specs} {ds : List (Option Tmp)} {K : St → Prop} (n : Nat) {os : List Oper} {st : St}
    (h : ∀ K', K' = vcOps P Φ ds (os.drop n) K → vcOps P Φ ds (os.take n) K' st) : vcOps P Φ ds os K st := by
  rw [vcOps_cut n os]; exact h _ rfl
theorem vcOps_keep {P : Program} {Φ : Specs} {ds : List (Option Tmp)} {os : List Oper} {K : St → Prop} {st : St} (ks : List Nat)
    (h : ∀ tm', (∀ k ∈ ks, lk tm' k = lk st.tm k) → vcOps P Φ ds os K { st with tm := tm' }) : vcOps P Φ ds os K st := h st.tm fun _ _ => rfl
theorem vcOps_ds {P : Program} {Φ : Specs} {ops : List Oper} {K : St → Prop} {st : St} (h : ∀ ds, ds = ops.map (·.dst) → vcOps P Φ ds ops K st) : vcOps P Φ (ops.map (·.dst)) ops K st := h _ rfl
theorem vc_seqK {P : Program} {Φ : Specs} {a b : Code} {Q : QA} {st : St} (h : ∀ Q', Q' = thenA (vc P Φ b Q) Q → vc P Φ a Q' st) : vc P Φ (.seq a b) Q st := h _ rfl
end Go.Fs
namespace Go.Fs
open Go.RowKit (Below)
open Go.ChangeShapes Go.WideShapes Go.ChangeAt
def RdL (P : Program) (ts : List TypeId) (R : List AV → Prop) : Prop :=
  ∀ {H : Type} (enc : TypeId × Value → H) (w : World) (base : Nat) (vs : List Value) (ds : List (DataW H)) (ps : List MemPlace),
    (∀ (j : Nat) t v, ts[j]? = some t → vs[j]? = some v → Value.okWide P w .any base t v) → DataW.TrodAll enc P w 0 (fun _ => true) true ts vs ds ps →
    (DataW.weightsEach P ts ds).all (· ≤ reachBytes) = true → ∃ avs, R avs ∧ RepL (knAll w) noLc avs vs.toArray
theorem rdL_nil {P : Program} : RdL P [] (· = []) := fun enc w base vs ds ps _ h _ => by
  obtain ⟨rfl, _, _⟩ := trodAll_nil h
  exact ⟨[], rfl, rfl, fun i hi => absurd hi (by simp)⟩
theorem rdL_cons {P : Program} {T : TypeId} {ts : List TypeId} {α : Type} [Enc α] {ok : α → Prop} {R : List AV → Prop} (h : RdV P T α ok) (hr : RdL P ts R) :
    RdL P (T :: ts) (fun avs => ∃ a r, ok a ∧ R r ∧ avs = Enc.enc a :: r) := fun enc w base vs ds ps hv ht hw => by
  obtain ⟨v, vs', d, ds', p, q, rfl, rfl, rfl, h0, r0⟩ := trodAll_cons ht
  have hw' : (d.weights P T).all (· ≤ reachBytes) = true ∧ (DataW.weightsEach P ts ds').all (· ≤ reachBytes) = true := by
    have e : DataW.weightsEach P (T :: ts) (d :: ds') = d.weights P T ++ DataW.weightsEach P ts ds' := by simp [DataW.weightsEach]
    rw [e, List.all_append, Bool.and_eq_true] at hw
    exact hw
  obtain ⟨a, ha, hrep⟩ := h enc w base v d p (hv 0 T v rfl rfl) h0 hw'.1
  obtain ⟨r, hR, hl, hrr⟩ := hr enc w base vs' ds' q (fun j t x h1 h2 => hv (j + 1) t x h1 h2) r0 hw'.2
  refine ⟨Enc.enc a :: r, ⟨a, r, ha, hR, rfl⟩, by simpa using hl, fun i hi => ?_⟩
  cases i with
  | zero => simpa using hrep
  | succ i =>
    have := hrr i (by simpa using hi)
    simpa using this
theorem law_read {H : Type} {enc : TypeId × Value → H} {C : Checked} {os : Os} {f : FuncId} {fn : Func} {s : ChangeSpec} {conds : List PathCond} {tb : TypeId} {R : List AV → Prop}
    (own : ownKnob C.prog.godebug = none) (started : os.Started) (noInit : C.prog.inits.idxOf? f = none) (hfn : C.prog.funcs[f]? = some fn)
    (witness : ∃ (w : World) (tape : Tape) (i : Input), w.os = os ∧ (w.forCall tape i).Shaped C.prog ∧ i.vars = [] ∧ Input.okWide C.prog (w.forCall tape i) .any w.heap.size f i ∧
      s.pre6 enc C.prog fn conds false (w.forCall tape i).memory i.args ∧ ({} : Assume).holds C.prog (lone (Frame.enter C.prog f i.args .normal) [] (w.forCall tape i)))
    (hvars : s.vars = []) (laid : laidOutB C.prog = true) (hps : fn.params.toList.all (fun t => C.prog.readableRec t && decide (t < C.prog.types.size)) = true)
    (hres : fn.resultTypes = #[tb]) (htb : C.prog.underlying tb = some .bool)
    (hspec : ∀ ds : List (DataW H), ds.length = fn.params.size → (s.fn H ds).results = [.lit (.bool true)] ∧ (s.fn H ds).args = ds ∧ (s.fn H ds).vars = [])
    (hrd : RdL C.prog fn.params.toList R) (hcall : ∀ avs, R avs → CallP C.prog f avs (· = .bool true)) :
    ReturnsInHanded {} C os f .any (s.pre6 enc C.prog fn conds false) (s.post enc C.prog fn false true false false) :=
  law_lifted own started noInit hfn witness hvars laid hps hres htb hspec fun W base args ds ps hv hA hw => by
    obtain ⟨avs, hR, hrep⟩ := hrd enc W base args.toList ds ps (fun j t v h1 h2 => hv j t v (by simpa using h1) (by simpa using h2)) hA hw
    exact ⟨avs, by simpa using hrep, hcall avs hR⟩
end Go.Fs
namespace Go.Fs
open Go.ChangeShapes Go.WideShapes Go.ChangeAt
structure Uk (k : IntKind) where
  n : Int
instance {k : IntKind} : Inhabited (Uk k) := ⟨⟨0⟩⟩
instance {k : IntKind} : Enc (Uk k) where
  enc u := .int k u.n
  dec
    | .int j n => if j = k then some ⟨n⟩ else none
    | _ => none
  law v x h := by
    split at h
    · rename_i j n
      by_cases e : j = k
      · rw [if_pos e] at h
        cases h
        rw [e]
      · rw [if_neg e] at h; cases h
    · cases h
  dep := 1
  ok _ := trivial
instance {k : IntKind} : EncE (Uk k) where
  cs u := [.int k u.n]
  dcs
    | [.int j n] => if j = k then some ⟨n⟩ else none
    | _ => none
  law v x h := by
    split at h
    · rename_i j n
      by_cases e : j = k
      · rw [if_pos e] at h
        cases h
        rw [e]
      · rw [if_neg e] at h; cases h
    · cases h
  inv x := by simp
  dep := 1
  sz := 1
  len _ := rfl
  ok x c hc := by
    simp only [List.mem_singleton] at hc
    subst hc
    exact trivial
theorem enc_uk {k : IntKind} (u : Uk k) : Enc.enc u = AV.int k u.n := rfl
theorem cs_uk {k : IntKind} (u : Uk k) : EncE.cs u = [AV.int k u.n] := rfl
theorem dep_uk {k : IntKind} : EncE.dep (Uk k) = 1 := rfl
theorem rdV_uk {P : Program} {k : IntKind} {T : TypeId} (ht : P.underlying T = some (.int k)) : RdV P T (Uk k) (fun u => InR k u.n) := fun enc w base v d ps hv ⟨fuel, h⟩ _ => by
  obtain ⟨n, rfl⟩ := okWide_int ht hv
  obtain ⟨m, hm, _, hw⟩ := DataW.trod_int ht h
  simp [Value.cells] at hm
  subst hm
  exact ⟨⟨n⟩, inR_of_wf hw, .int _ _⟩
theorem rdE_uk {P : Program} {k : IntKind} {T : TypeId} (ht : P.underlying T = some (.int k)) (hc : P.cellsOf T = 1) : RdE P T (Uk k) (fun u => InR k u.n) :=
  ⟨hc, fun enc w base spare held fuel cs x h => by
    obtain ⟨n, rfl, rfl, hw⟩ := DataW.trod_int ht h
    exact ⟨⟨n⟩, inR_of_wf hw, rfl, fun i hi => by
      obtain rfl : i = 0 := by simpa [cs_uk] using hi
      exact .int _ _⟩⟩
end Go.Fs
