/- The texts A23, A24, A25, joined. -/
import Derived.Test.YtilbconikmpadaaGreatG3
set_option linter.all false
namespace Go.Fs
open Go.RowKit (Below)
section
variable {P:Program} {Φ:zaJ} {X:Nat → Prop} {w0:W0} {w w':World} {m0:Nat} {κ κ':Kn} {ρ:Lc} {τ:Tc} {st:St} {a:Act} {rd:Option Nat}
theorem loadA_mem {M mem:List AObj} {t:TypeId} {v:AV} {q:Prop × AV} (hM:∀ l,zdq (zaa M l) = true → zaa mem l = zaa M l)
  (h:zjP P M t v = some q):zjP P mem t v = some q:=by
 unfold zjP at *
 split at h
 ·exact h
 ·split at h
  ·rename_i hl
   rw [hM _ (by rw [hl]; rfl),hl]
   exact h
  ·cases h
 ·split at h
  ·rename_i hl
   rw [hM _ (by rw [hl]; rfl),hl]
   exact h
  ·cases h
 ·cases h
theorem zna {M mem:List AObj} {v:AV} {q:List (List Int) × List AV} (hM:∀ l,zdq (zaa M l) = true → zaa mem l = zaa M l) (h:zkw M v = some q):zkw mem v = some q:=by
 unfold zkw at *
 split at h
 ·exact h
 ·split at h
  ·rename_i hl
   rw [hM _ (by rw [hl]; rfl),hl]
   exact h
  ·cases h
 ·cases h
theorem zpN {M mem:List AObj} {t:TypeId} {m k:AV} {ok:Bool} {q:Prop × AV} (hM:∀ l,zdq (zaa M l) = true → zaa mem l = zaa M l) (h:zg4 P M t m k ok = some q):zg4 P mem t m k ok = some q:=by
 unfold zg4 at *
 split at h
 ·rename_i h1 h2
  rw [h1,zna hM h2]
  exact h
 ·cases h
theorem zt1 {M mem:List AObj} {m:AV} {q:Prop × AV} (hM:∀ l,zdq (zaa M l) = true → zaa mem l = zaa M l) (h:zjW M m = some q):zjW mem m = some q:=by
 unfold zjW at *
 split at h
 ·split at h
  ·rename_i hl
   rw [hM _ (by rw [hl]; rfl),hl]
   dsimp only
   split at h
   ·rename_i h1 h2
    rw [zna hM h1,h2]
    exact h
   ·cases h
  ·cases h
 ·cases h
theorem loadA_obj {M mem:List AObj} {t:TypeId} {v:AV} {q:Prop × AV} (hM:∀ l,zkv v = some l → zaa M l ≠ .dead → zaa mem l = zaa M l)
  (h:zjP P M t v = some q):zjP P mem t v = some q:=by
 unfold zjP at *
 split at h
 ·exact h
 ·rename_i l off
  by_cases e:zaa M l = .dead
  ·rw [e] at h; cases h
  ·rw [hM _ rfl e]; exact h
 ·rename_i l s i off
  by_cases e:zaa M l = .dead
  ·rw [e] at h; cases h
  ·rw [hM _ rfl e]; exact h
 ·cases h
def RdOK (M mem:List AObj) (tm:List (Nat × AV)) (op:Op):Prop :=
 zlH op = true → (∀ l,zdq (zaa M l) = true → zaa mem l = zaa M l) ∨ ∃ t x,op = .load t x ∧ ∀ l,zkv (evT tm x).un = some l → zaa M l ≠ .dead → zaa mem l = zaa M l
theorem RdOK.call {M mem:List AObj} {tm:List (Nat × AV)} {op:Op} (h:RdOK M mem tm op) (hr:zlH op = true) (hn:∀ t x,op ≠ .load t x):∀ l,zdq (zaa M l) = true → zaa mem l = zaa M l:=by
 rcases h hr with h | ⟨t,x,e,_⟩
 ·exact h
 ·exact absurd e (hn t x)
theorem semV_mem {M mem:List AObj} {f:Operand → AV} {op:Op} {q:Prop × AV} (hM:zlH op = true → (∀ l,zdq (zaa M l) = true → zaa mem l = zaa M l) ∨ ∃ t x,op = .load t x ∧ ∀ l,zkv (f x) = some l → zaa M l ≠ .dead → zaa mem l = zaa M l)
  (h:semV P M f op = some q):semV P mem f op = some q:=by
 cases op <;> try exact h
 case load t x =>
  rcases hM rfl with h1 | ⟨t',x',e,h1⟩
  ·exact loadA_mem h1 h
  ·cases e; exact loadA_obj h1 h
 case lookup t x k ok =>
  rcases hM rfl with h1 | ⟨t',x',e,_⟩
  ·exact zpN h1 h
  ·cases e
 case entry x =>
  rcases hM rfl with h1 | ⟨t',x',e,_⟩
  ·exact zt1 h1 h
  ·cases e
 case unOp op t x => cases op <;> exact h
 case slice t x lo hi mx => cases mx <;> exact h
 case call c =>
  obtain ⟨callee,args,ts⟩:=c
  cases callee with
  | builtin b => cases b <;> exact h
  | _ => exact h
theorem sem_mem {M:List AObj} {st:St} {op:Op} {q:Prop × AV} (hM:RdOK M st.mem st.tm op)
  (h:sem P { st with mem:=M } op = some q):sem P st op = some q:=by
 by_cases hp:∃ c x y,op = .pick c x y
 ·obtain ⟨c,x,y,rfl⟩:=hp
  exact h
 ·unfold sem at *
  split at h
  ·exact absurd ⟨_,_,_,rfl⟩ hp
  ·dsimp only at h ⊢
   split at h
   ·rename_i p v hv
    rw [semV_mem hM hv]
    exact h
   ·cases h
theorem zjp {M:List AObj} {o:Oper} {p:Prop} {v:AV} {next:Act → World → Prop} {Q:Exit → Act → World → Prop} (hΦ:zaz P Φ) (h:Rel X w0 m0 κ ρ τ st a w)
  (hM:RdOK M st.mem st.tm o.op)
  (hs:ztc P Φ { st with mem:=M } o.op = some (p,v)) (hp:p)
  (hn:∀ x w' κ',Rep κ' ρ v x → TokOK τ st.mem v x → Grow κ w κ' w' → next (a.put o.dst x) w'):o.wpIn (Fw rd) 0 P a w next Q:=by
 unfold ztc at hs
 split at hs
 ·rename_i f args ts hop
  split at hs
  ·rename_i q u hq
   obtain ⟨rfl,rfl⟩:=Prod.mk.inj (czK hs)
   unfold callV at hq
   split at hq
   ·rename_i g fst cap hf
    split at hq
    ·rename_i s hsg
     split at hq
     ·rename_i p' r hr
      split at hq
      ·obtain ⟨rfl,rfl⟩:=Prod.mk.inj (czK hq)
       obtain ⟨hfa,hav,hp',hsc⟩:=hp
       have rf:=(h.ev f).un hfa
       change Rep κ ρ (evT st.tm f).un _ at rf
       dsimp only at hf
       rw [hf] at rf
       obtain ⟨vs,ws,hfv,h1,h2,h3,h4⟩:=zk7 rf
       have hpc:=zke h (hM.call (by rw [hop]; rfl) (by rw [hop]; intro t x e; cases e)) h1 h2 h3 h4 hav
       have hcall:=(hΦ g s _ p' r hsg hr hp').1
       refine ze3 (w':=w) (by rw [zdU hop hfv]; exact zdu hcall.1) (znH (ρ:=ρ) h.mem.know hcall hsc hpc) ?_
       rintro e w'' ⟨x,κ',rfl,hx,hg⟩
       exact ⟨x,rfl,hn x w'' κ' hx.strip (TokOK.strip _) hg⟩
      ·cases hq
     ·cases hq
    ·cases hq
   ·cases hq
  ·cases hs
 ·obtain ⟨x,w',κ',h1,h2,h3,h4⟩:=zjo h (sem_mem hM hs) hp
  exact zcq h1 (hn x w' κ' h2 h3 h4)
theorem zrK (tm:List (Nat × AV)) (ts:List Nat) (i:Nat):lk (ts.map fun t => (t,lk tm t)) i = if i ∈ ts then lk tm i else .undef:=by
 induction ts with
 | nil => simp [lk]
 | cons t ts ih =>
  simp only [czb,lk,czn]
  by_cases h:i = t
  ·subst h; simp
  ·simp [h,ih]
theorem zhO {tm tm':List (Nat × AV)} {x:Operand} (h:∀ t,x = .tmp t → lk tm t = lk tm' t):evT tm x = evT tm' x:=by
 cases x with
 | tmp t => exact h t rfl
 | _ => rfl
theorem zmY {fr:Oper → Bool} {ops:Array Oper} {M:List AObj} {L L' base:Nat} {pre:St} {o:Oper} {p:Prop} {e:PE} {next:Act → World → Prop} {Q:Exit → Act → World → Prop}
  (hΦ:zaz P Φ) (h:Rel X w0 m0 κ ρ τ st a w)
  (hfr:(∀ f args ts,o.op ≠ .call { callee:=.value f,args:=args,argTypes:=ts }) → (∀ t l q,o.op ≠ .buildSlice t l q) → fr o = false)
  (hp:zdF P Φ fr (ops.toList.map (·.dst)) M L pre o = some (p,e,L')) (hpp:p) (hd:zct st.n o.dst)
  (hget:∀ t,t ∈ zgd (ops.toList.map (·.dst)) o → st.get t = pre.get t)
  (hread:RdOK M st.mem (zd7 pre.tm o.op) o.op)
  (heff:zgk fr o = true → zfU fr o = false → ∀ l,zaa st.mem l = zaa pre.mem l)
  (hnew:zfU fr o = true → e.eff ≠ none → zaa st.mem L = .dead) (hlen:st.mem.length = M.length) (hpd:zaa pre.mem L = .dead)
  (hbL:base ≤ L) (hmb:m0 ≤ base) (hρ:∀ l,base ≤ l → zaa st.mem l = .dead → ρ l = none)
  (hn:∀ κ' ρ' τ' a' w',Rel X w0 m0 κ' ρ' τ' (zbM o e st) a' w' → Ext m0 κ ρ τ st.mem κ' ρ' τ' (zbM o e st).mem →
   (∀ l,base ≤ l → zaa (zbM o e st).mem l = .dead → ρ' l = none) → next a' w') :
  if Region.wanted o (yielded ops a.tmps) then o.wpIn (Fw rd) 0 P a w next Q else (∀ f,o.about P w a.eval = some f → (Fw rd).fn f) ∧ next (a.put o.dst Go.undef) w:=by
 have hev:∀ x,x ∈ o.op.operands.toList → evT st.tm x = evT pre.tm x:=fun x hx => zhO fun t ht => by
  subst ht
  exact hget t (by unfold zgd zjC; simp only [czv]; left; exact List.mem_filterMap.2 ⟨_,hx,rfl⟩)
 have hgu:zdQ (ops.toList.map (·.dst)) st.tm o = zdQ (ops.toList.map (·.dst)) pre.tm o:=by
  unfold zdQ
  cases hg:o.guard with
  | none => rfl
  | some q =>
   obtain ⟨j,want⟩:=q
   dsimp only
   cases hj:(ops.toList.map (·.dst)).getD j none with
   | none => rfl
   | some d =>
    have:st.get d = pre.get d:=hget d (by unfold zgd zhL; rw [hg]; dsimp only; rw [hj]; simp)
    unfold St.get at this
    dsimp only
    rw [this]
 unfold zdF at hp
 split at hp
 ·cases hp
 rename_i g hg
 rw [← hgu] at hg
 rw [zfw h hg]
 have hval:∀ (v:AV) (x:Value) (κ':Kn) (w':World),Rep κ' ρ v x → TokOK τ st.mem v x → Grow κ w κ' w' → e = ⟨v,none⟩ → next (a.put o.dst x) w':=by
  intro v x κ' w' h1 h2 h3 he
  subst he
  refine hn κ' ρ τ _ w' (h.putV h3 hd h1 h2) ⟨h3.le,fun _ _ _ q => q,TStep.refl _ _ _⟩ (fun l hl hm => hρ l hl hm)
 split at hp
 ·
  rename_i d hfl
  cases g with
  | some g => cases hp
  | none =>
   simp only [Option.getD_none,if_true]
   dsimp only at hp
   unfold zis at hp
   split at hp
   ·rename_i t x y t' hop
    have hx:evT st.tm x = evT pre.tm x:=hev x (by rw [hop]; simp [Op.operands])
    have hy:evT st.tm y = evT pre.tm y:=hev y (by rw [hop]; simp [Op.operands])
    rw [← hx,← hy] at hp
    split at hp
    ·rename_i k a' k' b' hxv hyv
     simp only [czg,czh] at hp
     obtain ⟨rfl,rfl,rfl⟩:=hp
     obtain ⟨h1,h2,rfl⟩:=hpp
     have rx:=(h.ev x).un h1
     have ry:=(h.ev y).un h2
     rw [hxv] at rx
     rw [hyv] at ry
     have hrun:(execOp a.eval o).run P w = .ok (.value (.int k (k.wrap (a' + b')))) w:=by
      simp [execOp,hop,rx.int_inv,ry.int_inv,zf5,binOp,Op.intArith,Result.andThen]
     exact zcq hrun (hval _ _ κ w (.int _ _) (zaO rfl) (Grow.refl h.mem.know) rfl)
    ·cases hp
   ·rename_i args ts hop
    split at hp
    ·rename_i x s t0 t1 hargs hts
     have hxa:args = #[x,s]:=by rw [← Array.toList_inj]; exact hargs
     have hta:ts = #[t0,t1]:=by rw [← Array.toList_inj]; exact hts
     subst hxa
     subst hta
     have hx:evT st.tm x = evT pre.tm x:=hev x (by rw [hop]; simp [Op.operands,Call.operands])
     have hs':evT st.tm s = evT pre.tm s:=hev s (by rw [hop]; simp [Op.operands,Call.operands])
     rw [← hx,← hs'] at hp
     split at hp
     ·rename_i fs tk' e' sz e1 sz1 hdv hsv hs0 hs1
      split at hp
      ·rename_i by_ z hby hz
       simp only [czg,czh] at hp
       obtain ⟨rfl,rfl,rfl⟩:=hp
       obtain ⟨hav,has,hzl,hb0,hfs,hone,hbd,hdead,hlt⟩:=hpp
       have hdd:zaa st.mem L = .dead:=by
        rw [heff (by unfold zgk; rw [hop]; rfl) (by unfold zfU; rw [hfr (by rw [hop]; simp) (by rw [hop]; simp),hop]; rfl)]
        exact hpd
       have rd:=(h.ev x).un hav
       have rs:=(h.ev s).un has
       rw [hdv] at rd
       rw [hsv] at rs
       obtain ⟨h1,h2⟩:=h.mkVecAt (L:=L) (by omega) (by omega) hdd sz
       obtain ⟨q1,q2⟩:=zgG (τ:=zcm τ L none) (l:=L) (sz:=sz) rd
       obtain ⟨v,w',τ',r1,r2,r3,r4,r5⟩:=zmd (ty:=o.type) (l:=L) (len:=0) (s:=0) (es:=[]) h1 hs0 hs1 hby hz hzl hb0 hfs hone (by simpa using hbd)
        (by show zaa (st.mem.set L _) L = _; rw [zaD _ _ _ _ (by omega),if_pos rfl]) q2 q1 (zen h.mem.know rs hfs)
       have hset:(st.mem.set L (AObj.vec [] sz 0)).set L (.vec ([].take 0 ++ fs) sz (0 + 1)) = st.mem.set L (AObj.vec fs sz 1):=by simp [List.set_set]
       simp only [hset,Nat.zero_add] at r2 r3 r4 r5
       refine zcq (w':=w') (x:=v) (by simp [execOp,hop,resolve,invoke,builtin,r1]) (hn κ ρ τ' _ w' ?_ (h2.trans r3) (fun l hl hm => ?_))
       ·exact r2.putV (Grow.refl r2.mem.know) hd r4 r5
       ·have hm':zaa (st.mem.set L (AObj.vec fs sz 1)) l = .dead:=hm
        rw [zcg] at hm'
        split at hm'
        ·cases hm'
        ·exact hρ l hl hm'
      ·cases hp
     ·cases hp
    ·cases hp
   ·rename_i t len parts hop
    have hq:(parts.toList.map fun q => (q.1,(evT pre.tm q.2).un)) = parts.toList.map fun q => (q.1,(evT st.tm q.2).un):=by
     refine List.map_congr_left fun q hq => ?_
     rw [hev q.2 (by rw [hop]; simp only [Op.operands,Array.toList_map]; exact czx.2 ⟨q,hq,rfl⟩)]
    have hq2:(parts.toList.map fun q => (evT pre.tm q.2).av) = parts.toList.map fun q => (evT st.tm q.2).av:=by
     refine List.map_congr_left fun q hq => ?_
     rw [hev q.2 (by rw [hop]; simp only [Op.operands,Array.toList_map]; exact czx.2 ⟨q,hq,rfl⟩)]
    rw [hq,hq2] at hp
    split at hp
    ·rename_i _ e' sz es hfo hsl hb
     simp only [czg,czh] at hp
     obtain ⟨rfl,rfl,rfl⟩:=hp
     obtain ⟨hav,hdead,hlt⟩:=hpp
     have hdd:zaa st.mem L = .dead:=hnew (by unfold zfU; rw [hfo,Bool.or_true]) (by simp)
     obtain ⟨h1,h2⟩:=h.mkVecAt (L:=L) (by omega) (by omega) hdd sz
     obtain ⟨v,w',τ',r1,r2,r3,r4,r5⟩:=znJ (P:=P) (l:=L) (sz:=sz) (len:=len) (t:=t) (parts:=parts) h1 (by show zaa (st.mem.set L _) L = _; rw [zaD _ _ _ _ (by omega),if_pos rfl]) hsl hb hav
     have hset:(st.mem.set L (AObj.vec [] sz 0)).set L (.vec es sz 1) = st.mem.set L (AObj.vec es sz 1):=by simp [List.set_set]
     simp only [hset] at r2 r3 r5
     refine zcq (w':=w') (x:=v) (by simp [execOp,hop,r1]) (hn κ ρ τ' _ w' ?_ (h2.trans r3) (fun l hl hm => ?_))
     ·exact r2.putV (Grow.refl r2.mem.know) hd r4 r5
     ·have hm':zaa (st.mem.set L (AObj.vec es sz 1)) l = .dead:=hm
      rw [zcg] at hm'
      split at hm'
      ·cases hm'
      ·exact hρ l hl hm'
    ·cases hp
   ·cases hp
 split at hp
 ·rename_i p' v hs
  have hsub:Rel X w0 m0 κ ρ τ { st with tm:=zd7 pre.tm o.op } a w:=h.subTm fun i => by
   unfold zd7
   rw [zrK]
   split
   ·rename_i hi
    right
    exact (hget i (by unfold zgd; simp [hi])).symm
   ·exact .inl rfl
  have hs':ztc P Φ { ({ st with tm:=zd7 pre.tm o.op }:St) with mem:=M } o.op = some (p',v):=by
   rw [← hs]
   unfold ztc callV sem
   rfl
  cases g with
  | none =>
   simp only [czg,czh] at hp
   obtain ⟨rfl,rfl,rfl⟩:=hp
   simp only [Option.getD_none,if_true]
   exact zjp hΦ hsub hread hs' hpp (fun x w' κ' h1 h2 h3 => hval v x κ' w' h1 h2 h3 rfl)
  | some g =>
   simp only [czg,czh] at hp
   obtain ⟨rfl,rfl,rfl⟩:=hp
   simp only [Option.getD_some]
   cases g with
   | true =>
    simp only [if_true]
    exact zjp hΦ hsub hread hs' (hpp rfl) (fun x w' κ' h1 h2 h3 => hval _ x κ' w' (.onlyIf true v x (fun _ => h1) (fun e => by cases e)) (TokOK.only fun _ => h2) h3 rfl)
   | false =>
    simp only [czp,if_false]
    exact ⟨fun _ _ => trivial,hval _ _ κ w (.onlyIf false v _ (fun e => by cases e) (fun _ => rfl)) (TokOK.only fun e => by cases e) (Grow.refl h.mem.know) rfl⟩
 split at hp
 ·
   rename_i p' es sz hs
   cases g with
   | some g => cases hp
   | none =>
    have hsub:Rel X w0 m0 κ ρ τ { st with tm:=zd7 pre.tm o.op } a w:=h.subTm fun i => by
     unfold zd7
     rw [zrK]
     split
     ·rename_i hi
      right
      exact (hget i (by unfold zgd; simp [hi])).symm
     ·exact .inl rfl
    have hs':frA Φ { ({ st with tm:=zd7 pre.tm o.op }:St) with mem:=M } o.op = some (p',es,sz):=by
     rw [← hs]
     unfold frA callN
     rfl
    have hrd:∀ l,zdq (zaa M l) = true → zaa st.mem l = zaa M l:=by
     unfold frA at hs'
     split at hs'
     ·rename_i hop; exact hread.call (by rw [hop]; rfl) (by rw [hop]; intro t x e; cases e)
     ·cases hs'
    simp only [Option.getD_none,if_true]
    dsimp only at hp
    split at hp
    ·rename_i hfo
     simp only [czg,czh] at hp
     obtain ⟨rfl,rfl,rfl⟩:=hp
     obtain ⟨hpp1,hdead,hlt⟩:=hpp
     have hdd:=hnew (by unfold zfU; rw [hfo,Bool.or_true]) (by simp)
     refine zlY (M:=M) hΦ hsub hs' hrd hpp1 fun x w' κ' hx hg hroom => ?_
     obtain ⟨τ',h1,h2⟩:=h.freshAt (L:=L) (by omega) (by omega) hdd hd hg hx hroom
     refine hn _ _ _ _ _ h1 h2 (fun l hl hm => ?_)
     have hm':zaa (st.mem.set L (AObj.tok es.length sz)) l = .dead:=hm
     rw [zcg] at hm'
     split at hm'
     ·cases hm'
     ·exact hρ l hl hm'
    ·simp only [czg,czh] at hp
     obtain ⟨rfl,rfl,rfl⟩:=hp
     refine zlY (M:=M) hΦ hsub hs' hrd hpp fun x w' κ' hx hg hroom => ?_
     exact hval _ x κ' w' hx (zaO rfl) hg rfl
 ·rename_i hnofr
  have hfr':=hfr
  cases g with
  | some g => cases hp
  | none =>
   simp only [Option.getD_none,if_true]
   dsimp only at hp
   unfold zgc at hp
   split at hp
   ·
    rename_i t hop
    split at hp
    ·rename_i z hz
     simp only [czg,czh] at hp
     obtain ⟨rfl,rfl,rfl⟩:=hp
     obtain ⟨hdead,hlt⟩:=hpp
     have hdd:=hnew (by unfold zfU; rw [hop]; rfl) (by simp)
     obtain ⟨zv,hzv,hzr⟩:=zei (w:=w) (κ:=κ) (ρ:=ρ) hz
     obtain ⟨h1,h2⟩:=h.fill (L:=L) (T:=t) (d:=o.dst) (v:=.ptr L 0) (x:=.pointer (some ⟨w.heap.size,0,none⟩)) (by omega) (by omega) hdd (hρ L hbL hdd) hd hzr
      (fun i _ => zfX (zh7 hz i)) (.ptr _ _ _ (by simp [zc6])) rfl
     have hrun:(execOp a.eval o).run P w = .ok (.value (.pointer (some ⟨w.heap.size,0,none⟩))) { w with heap:=w.heap.push (.cells zv.cells t) }:=by
      simp [execOp,hop,Instr.alloc,hzv,newVar,newRow]
     refine zcq hrun (hn _ _ _ _ _ h1 h2 (fun l hl hm => ?_))
     have hm':zaa (st.mem.set L (AObj.cells z)) l = .dead:=hm
     rw [zcg ] at hm'
     split at hm'
     ·cases hm'
     ·rename_i hne
      unfold zc6
      rw [if_neg (fun e => hne ⟨e,by omega⟩)]
      exact hρ l hl hm'
    ·cases hp
   ·
    rename_i t hop
    simp only [czg,czh] at hp
    obtain ⟨rfl,rfl,rfl⟩:=hp
    obtain ⟨hdead,hlt⟩:=hpp
    have hdd:=hnew (by unfold zfU; rw [hop]; rfl) (by simp)
    obtain ⟨h1,h2⟩:=h.fillO (L:=L) (o:=.map [] []) (ob:=.map #[] 0) (d:=o.dst) (v:=.mp L) (x:=.map (some w.heap.size)) (by omega) (by omega) hdd (hρ L hbL hdd) hd ⟨by simp,by simp⟩
     (fun _ hX => ⟨w.heap.size,#[],by simp [zc6],hX,Kn.fresh_m h.mem.know,zbS _ _,rfl,rfl,fun i hi => by simp at hi,fun i hi => by simp at hi⟩)
     (fun _ _ _ e => by cases e) (.mp _ _ (by simp [zc6])) rfl
    have hrun:(execOp a.eval o).run P w = .ok (.value (.map (some w.heap.size))) { w with heap:=w.heap.push (.map #[] 0) }:=by
     simp [execOp,hop,Instr.makeMap,newObj,Sem.run]
    refine zcq hrun (hn _ _ _ _ _ h1 h2 (fun l hl hm => ?_))
    have hm':zaa (st.mem.set L (AObj.map [] [])) l = .dead:=hm
    rw [zcg] at hm'
    split at hm'
    ·cases hm'
    ·rename_i hne
     unfold zc6
     rw [if_neg (fun e => hne ⟨e,by omega⟩)]
     exact hρ l hl hm'
   ·
    rename_i t y k z hop
    have hy:evT st.tm y = evT pre.tm y:=hev y (by rw [hop]; simp [Op.operands])
    have hk:evT st.tm k = evT pre.tm k:=hev k (by rw [hop]; simp [Op.operands])
    have hz:evT st.tm z = evT pre.tm z:=hev z (by rw [hop]; simp [Op.operands])
    rw [← hy,← hk,← hz] at hp
    split at hp
    ·rename_i l cs kt et hyv hkv ht
     split at hp
     ·rename_i ks vs key hl hcs
      rw [← heff (by unfold zgk; rw [hop]; rfl) (by unfold zfU; rw [hfr' (by rw [hop]; simp) (by rw [hop]; simp),hop]; rfl)] at hl
      simp only [czg,czh] at hp
      obtain ⟨rfl,rfl,rfl⟩:=hp
      obtain ⟨ham,hak,hax,hdst,hKey,hln⟩:=hpp
      have rm:=(h.ev y).un ham
      rw [hyv] at rm
      have rk:=(h.ev k).un hak
      rw [hkv] at rk
      obtain ⟨w',r1,r2,r3⟩:=zhC h ht rm hl rk hcs ((h.ev z).un hax) hKey hln
      refine zgz (w':=w') (by simp [execOp,hop,r1]) (hn κ ρ τ _ w' ?_ r3 (fun i hi hm => ?_))
      ·rw [hdst]
       unfold zbM
       rw [hdst]
       exact r2
      ·have hm':zaa (st.mem.set l _) i = .dead:=hm
       rw [zcg] at hm'
       split at hm'
       ·unfold zaq at hm'
        split at hm' <;> cases hm'
       ·exact hρ i hi hm'
     ·cases hp
    ·cases hp
   ·
    rename_i t y hop
    simp only [czg,czh] at hp
    obtain ⟨rfl,rfl,rfl⟩:=hp
    obtain ⟨hdead,hlt,hs⟩:=hpp
    have hy:evT st.tm y = evT pre.tm y:=hev y (by rw [hop]; simp [Op.operands])
    have hdd:=hnew (by unfold zfU; rw [hop]; rfl) (by simp)
    rw [← hy] at hs hn
    have hc:=zgJ (h.ev y) hs
    have hc':RepL κ ρ ((evT st.tm y).cells'.map AV.strip) (a.eval y).cells:=⟨by simpa using hc.1,fun i hi => by
     rw [zcB]
     exact (hc.2 i (by simpa using hi)).strip⟩
    obtain ⟨h1,h2⟩:=h.fill (L:=L) (T:=t) (d:=o.dst) (v:=.ptr L 0) (x:=.pointer (some ⟨w.heap.size,0,none⟩)) (by omega) (by omega) hdd (hρ L hbL hdd) hd hc'
     (fun i _ => by rw [zcB]; exact TokOK.strip _) (.ptr _ _ _ (by simp [zc6])) rfl
    have hrun:(execOp a.eval o).run P w = .ok (.value (.pointer (some ⟨w.heap.size,0,none⟩))) { w with heap:=w.heap.push (.cells (a.eval y).cells t) }:=by
     simp [execOp,hop,Instr.box,newVar,newRow]
    refine zcq hrun (hn _ _ _ _ _ h1 h2 (fun l hl hm => ?_))
    have hm':zaa (st.mem.set L (AObj.cells ((evT st.tm y).cells'.map AV.strip))) l = .dead:=hm
    rw [zcg] at hm'
    split at hm'
    ·cases hm'
    ·rename_i hne
     unfold zc6
     rw [if_neg (fun e => hne ⟨e,by omega⟩)]
     exact hρ l hl hm'
   ·
    rename_i t y z hop
    have hy:evT st.tm y = evT pre.tm y:=hev y (by rw [hop]; simp [Op.operands])
    have hz:evT st.tm z = evT pre.tm z:=hev z (by rw [hop]; simp [Op.operands])
    rw [← hy,← hz] at hp
    split at hp
    ·rename_i l off n hyv hs
     split at hp
     ·rename_i cs hl
      rw [← heff (by unfold zgk; rw [hop]; rfl) (by unfold zfU; rw [hfr' (by rw [hop]; simp) (by rw [hop]; simp),hop]; rfl)] at hl
      simp only [czg,czh] at hp
      obtain ⟨rfl,rfl,rfl⟩:=hp
      obtain ⟨hav,hdst,hsol,hln,hfit,hone⟩:=hpp
      have ry:=(h.ev y).un hav
      rw [hyv] at ry
      obtain ⟨w',r1,r2,r3⟩:=zkL h hs ry hl (h.ev z) (h.evTok z) hsol hln hfit hone
      refine zgz (w':=w') (by simp [execOp,hop,r1]) (hn κ ρ τ _ w' ?_ r3 (fun i hi hm => ?_))
      ·rw [hdst]
       unfold zbM
       rw [hdst]
       exact r2
      ·have hm':zaa (st.mem.set l _) i = .dead:=hm
       rw [zcg] at hm'
       split at hm'
       ·cases hm'
       ·exact hρ i hi hm'
     ·cases hp
    ·rename_i l s i off n hyv hs
     split at hp
     ·rename_i es sz s' hl
      rw [← heff (by unfold zgk; rw [hop]; rfl) (by unfold zfU; rw [hfr' (by rw [hop]; simp) (by rw [hop]; simp),hop]; rfl)] at hl
      simp only [czg,czh] at hp
      obtain ⟨rfl,rfl,rfl⟩:=hp
      obtain ⟨⟨hav,rfl,hi⟩,hdst,hsol,hln,hfit,hone⟩:=hpp
      have ry:=(h.evTok y).vp l s i off hyv hav
      obtain ⟨es',sz',s'',k1,_,k3⟩:=ry
      rw [hl] at k1
      cases k1
      obtain ⟨w',r1,r2,r3⟩:=zjd h hs (k3 rfl) hl (h.ev z) hsol hln hfit hone
      refine zgz (w':=w') (by simp [execOp,hop,r1]) (hn κ ρ τ _ w' ?_ r3 (fun i hi hm => ?_))
      ·rw [hdst]
       unfold zbM
       rw [hdst]
       exact r2
      ·have hm':zaa (st.mem.set l _) i = .dead:=hm
       rw [zcg] at hm'
       split at hm'
       ·cases hm'
       ·exact hρ i hi hm'
     ·cases hp
    ·cases hp
   ·
    rename_i args ts hop
    have heq:=heff (by unfold zgk; rw [hop]; rfl) (by unfold zfU; rw [hfr' (by rw [hop]; simp) (by rw [hop]; simp),hop]; rfl)
    split at hp
    ·rename_i d s t0 t1 hargs hts
     have hxa:args = #[d,s]:=by rw [← Array.toList_inj]; exact hargs
     have hta:ts = #[t0,t1]:=by rw [← Array.toList_inj]; exact hts
     subst hxa
     subst hta
     have hdd:evT st.tm d = evT pre.tm d:=hev d (by rw [hop]; simp [Op.operands,Call.operands])
     have hss:evT st.tm s = evT pre.tm s:=hev s (by rw [hop]; simp [Op.operands,Call.operands])
     rw [← hdd,← hss] at hp
     have hrun:∀ {v:Value} {w':World},(Builtin.append_ #[t0,t1] o.type #[a.eval d,a.eval s]).run P w = .ok v w' → (execOp a.eval o).run P w = .ok (.value v) w':=by
      intro v w' hh
      simp [execOp,hop,resolve,invoke,builtin,hh]
     split at hp
     ·rename_i es tk fs tk' e1 sz q hdv hsv hs0 hs1
      obtain ⟨e1',sz1⟩:=q
      split at hp
      ·rename_i by_ z hby hz
       have rd':=h.ev d
       rw [hdv] at rd'
       split at hp
       ·rename_i l
        simp only [czg,czh] at hp
        obtain ⟨rfl,rfl,rfl⟩:=hp
        obtain ⟨hav,hzl,hb0,hes,hfs,hone,hbd,hl⟩:=hpp
        have rs:=(h.ev s).un hav
        rw [hsv] at rs
        rw [← heq] at hl
        have hto:=(h.evTok d).own es l (by rw [hdv]; rfl) (by rw [hdv]; trivial)
        obtain ⟨v,w',κ',τ',r1,r2,r3,r4,r5⟩:=zme (ty:=o.type) h hs0 hs1 hby hz hzl hb0 hes hfs hone hbd hl rd' (by obtain ⟨n,s,q1,_,q3⟩:=hto; rw [hl] at q1; cases q1; exact q3 rfl) (zen h.mem.know rs hfs)
        refine zcq (hrun r1) (hn _ _ _ _ _ (r2.putV (Grow.refl r2.mem.know) hd r4 r5) r3 (fun i hi hm => ?_))
        have hm':zaa (st.mem.set l _) i = .dead:=hm
        rw [zcg] at hm'
        split at hm'
        ·cases hm'
        ·exact hρ i hi hm'
       ·simp only [czg,czh] at hp
        obtain ⟨rfl,rfl,rfl⟩:=hp
        obtain ⟨hav,hzl,hb0,hes,hfs,hone,hbd,hMd,hlt⟩:=hpp
        have rs:=(h.ev s).un hav
        rw [hsv] at rs
        have hdL:zaa st.mem L = .dead:=by rw [heq]; exact hpd
        have hLl:L < st.mem.length:=by omega
        obtain ⟨m1,m2⟩:=h.mkTokAt (L:=L) hLl (by omega) hdL es.length sz
        have hfit:Fits (zcm τ L none) L sz (a.eval d):=by
         generalize a.eval d = xd at rd'
         cases rd' with
         | slnil => exact ⟨none,0,0,rfl,.inl rfl⟩
         | sl _ _ b o' cap sz' val _ _ _ ht _ => exact ⟨_,_,_,rfl,.inl (ht rfl)⟩
        obtain ⟨v,w',κ',τ',r1,r2,r3,r4,r5⟩:=zme (ty:=o.type) m1 hs0 hs1 hby hz hzl hb0 hes hfs hone hbd (l:=L) (by rw [zcg,if_pos ⟨rfl,hLl⟩]) rd' hfit (zen h.mem.know rs hfs)
        have hset:(st.mem.set L (AObj.tok es.length sz)).set L (AObj.tok (es.length + fs.length) sz) = st.mem.set L (AObj.tok (es.length + fs.length) sz):=by
         simp
        simp only [hset] at r2 r3 r5
        refine zcq (hrun r1) (hn _ _ _ _ _ (r2.putV (Grow.refl r2.mem.know) hd r4 r5) (m2.trans r3) (fun i hi hm => ?_))
        have hm':zaa (st.mem.set L _) i = .dead:=hm
        rw [zcg] at hm'
        split at hm'
        ·cases hm'
        ·exact hρ i hi hm'
       ·cases hp
      ·cases hp
     ·rename_i l s0 off len sz0 fs tk' e1 sz q hdv hsv hs0 hs1
      obtain ⟨e1',sz1'⟩:=q
      split at hp
      ·rename_i by_ z hby hz
       split at hp
       ·rename_i es sz1 s1 hl
        simp only [czg,czh] at hp
        obtain ⟨rfl,rfl,rfl⟩:=hp
        obtain ⟨hav,hzl,hb0,⟨rfl,rfl,rfl,rfl⟩,hfs,hone,hbd,hMd⟩:=hpp
        have rs:=(h.ev s).un hav
        rw [hsv] at rs
        rw [← heq] at hl
        have rd:=h.ev d
        rw [hdv] at rd
        have rt:=h.evTok d
        rw [hdv] at rt
        obtain ⟨es',s',k1,_,k3⟩:=rt.vec _ _ _ _ _ rfl trivial
        rw [hl] at k1
        cases k1
        obtain ⟨v,w',τ',r1,r2,r3,r4,r5⟩:=zmd (ty:=o.type) h hs0 hs1 hby hz hzl hb0 hfs hone hbd hl (k3 rfl) rd (zen h.mem.know rs hfs)
        refine zcq (hrun r1) (hn _ _ _ _ _ (r2.putV (Grow.refl r2.mem.know) hd r4 r5) r3 (fun i hi hm => ?_))
        have hm':zaa (st.mem.set l _) i = .dead:=hm
        rw [zcg] at hm'
        split at hm'
        ·cases hm'
        ·exact hρ i hi hm'
       ·cases hp
      ·cases hp
     ·cases hp
    ·cases hp
   ·cases hp
end
end Go.Fs
namespace Go.Fs
open Go.RowKit (Below)
def zpL (op:Op):Prop:=(∀ f args ts,op ≠ .call { callee:=.value f,args:=args,argTypes:=ts }) ∧ ∀ t l q,op ≠ .buildSlice t l q
theorem zg0 {P:Program} {Φ:zaJ} {fr:Oper → Bool} {ds:List (Option Tmp)} {M:List AObj} {L L':Nat} {st:St} {o:Oper} {p:Prop} {e:PE} (hfr:zpL o.op → fr o = false)
  (h:zdF P Φ fr ds M L st o = some (p,e,L')) (hp:p) (hdead:∀ l,L ≤ l → zaa st.mem l = .dead) :
  L ≤ L' ∧ (zfU fr o = true → e.eff ≠ none → L < L') ∧ ∀ l ob,e.eff = some (l,ob) → zgk fr o = true ∧ l < L' ∧ (zfU fr o = true → L ≤ l) ∧
   (((zev o.op = true ∨ zaa M l = .dead) ∧ zdq ob = true) ∨ zdq (zaa st.mem l) = false):=by
 have hlt:∀ l ob,zaa st.mem l = ob → ob ≠ .dead → l < L:=fun l ob h1 h2 => by
  apply Nat.lt_of_not_le
  intro hle
  exact h2 (by rw [← h1]; exact hdead l hle)
 unfold zdF at h
 split at h
 ·cases h
 split at h
 ·split at h
  ·unfold zis at h
   split at h
   ·split at h
    ·simp only [czg,czh] at h
     obtain ⟨_,rfl,rfl⟩:=h
     exact ⟨czf _,(fun _ e => absurd rfl e),(fun l ob e => by cases e)⟩
    ·cases h
   ·rename_i args ts hop
    have hno:zfU fr o = false:=by unfold zfU; rw [hfr ⟨(by rw [hop]; intro f a t e; cases e),(by rw [hop]; intro t l q e; cases e)⟩,hop]; rfl
    split at h
    ·split at h
     ·split at h
      ·simp only [czg,czh] at h
       obtain ⟨rfl,rfl,rfl⟩:=h
       refine ⟨by omega,(fun e => by rw [hno] at e; cases e),(fun l ob e => ?_)⟩
       cases e
       exact ⟨by unfold zgk; rw [hop]; rfl,by omega,(fun e => by rw [hno] at e; cases e),.inr (by rw [hdead _ (czf _)]; rfl)⟩
      ·cases h
     ·cases h
    ·cases h
   ·split at h
    ·rename_i hfo _ _
     simp only [czg,czh] at h
     obtain ⟨rfl,rfl,rfl⟩:=h
     refine ⟨by omega,(fun _ _ => by omega),(fun l ob e => ?_)⟩
     cases e
     exact ⟨by unfold zgk; rw [hfo,Bool.or_true],by omega,(fun _ => czf _),.inr (by rw [hdead _ (czf _)]; rfl)⟩
    ·cases h
   ·cases h
  ·cases h
 split at h
 ·rename_i q v hs
  split at h <;>
  ·simp only [czg,czh] at h
   obtain ⟨_,rfl,rfl⟩:=h
   exact ⟨czf _,(fun _ e => absurd rfl e),(fun l ob e => by cases e)⟩
 split at h
 ·rename_i q es sz hs
  split at h
  ·split at h
   ·rename_i hfo
    simp only [czg,czh] at h
    obtain ⟨rfl,rfl,rfl⟩:=h
    refine ⟨by omega,fun _ _ => by omega,fun l ob e => ?_⟩
    cases e
    exact ⟨by unfold zgk; rw [hfo,Bool.or_true],by omega,fun _ => czf _,.inr (by rw [hdead _ (czf _)]; rfl)⟩
   ·simp only [czg,czh] at h
    obtain ⟨rfl,rfl,rfl⟩:=h
    exact ⟨czf _,(fun _ e => absurd rfl e),(fun l ob e => by cases e)⟩
  ·cases h
 ·split at h
  ·cases h
  ·unfold zgc at h
   split at h
   ·rename_i t hop
    split at h
    ·simp only [czg,czh] at h
     obtain ⟨rfl,rfl,rfl⟩:=h
     refine ⟨by omega,fun _ _ => by omega,fun l ob e => ?_⟩
     cases e
     exact ⟨by unfold zgk; rw [hop]; rfl,by omega,fun _ => czf _,.inr (by rw [hdead _ (czf _)]; rfl)⟩
    ·cases h
   ·rename_i t hop
    simp only [czg,czh] at h
    obtain ⟨rfl,rfl,rfl⟩:=h
    refine ⟨by omega,fun _ _ => by omega,fun l ob e => ?_⟩
    cases e
    exact ⟨by unfold zgk; rw [hop]; rfl,by omega,fun _ => czf _,.inr (by rw [hdead _ (czf _)]; rfl)⟩
   ·rename_i t y k z hop
    have hno:zfU fr o = false:=by unfold zfU; rw [hfr ⟨(by rw [hop]; intro f a t e; cases e),(by rw [hop]; intro t l q e; cases e)⟩,hop]; rfl
    split at h
    ·split at h
     ·rename_i ks vs key hl hcs
      simp only [czg,czh] at h
      obtain ⟨rfl,rfl,rfl⟩:=h
      refine ⟨czf _,(fun e => by rw [hno] at e; cases e),(fun l ob e => ?_)⟩
      cases e
      exact ⟨by unfold zgk; rw [hop]; rfl,hlt _ _ hl (by simp),(fun e => by rw [hno] at e; cases e),.inl ⟨.inl (by rw [hop]; rfl),by unfold zaq; split <;> rfl⟩⟩
     ·cases h
    ·cases h
   ·rename_i t y hop
    simp only [czg,czh] at h
    obtain ⟨rfl,rfl,rfl⟩:=h
    refine ⟨by omega,fun _ _ => by omega,fun l ob e => ?_⟩
    cases e
    exact ⟨by unfold zgk; rw [hop]; rfl,by omega,fun _ => czf _,.inr (by rw [hdead _ (czf _)]; rfl)⟩
   ·rename_i t y z hop
    have hno:zfU fr o = false:=by unfold zfU; rw [hfr ⟨(by rw [hop]; intro f a t e; cases e),(by rw [hop]; intro t l q e; cases e)⟩,hop]; rfl
    split at h
    ·split at h
     ·rename_i cs hl
      simp only [czg,czh] at h
      obtain ⟨rfl,rfl,rfl⟩:=h
      refine ⟨czf _,(fun e => by rw [hno] at e; cases e),(fun l ob e => ?_)⟩
      cases e
      exact ⟨by unfold zgk; rw [hop]; rfl,hlt _ _ hl (by simp),(fun e => by rw [hno] at e; cases e),.inl ⟨.inl (by rw [hop]; rfl),rfl⟩⟩
     ·cases h
    ·split at h
     ·rename_i es sz s' hl
      simp only [czg,czh] at h
      obtain ⟨rfl,rfl,rfl⟩:=h
      refine ⟨czf _,(fun e => by rw [hno] at e; cases e),(fun l ob e => ?_)⟩
      cases e
      exact ⟨by unfold zgk; rw [hop]; rfl,hlt _ _ hl (by simp),(fun e => by rw [hno] at e; cases e),.inl ⟨.inl (by rw [hop]; rfl),rfl⟩⟩
     ·cases h
    ·cases h
   ·rename_i args ts hop
    have hno:zfU fr o = false:=by unfold zfU; rw [hfr ⟨(by rw [hop]; intro f a t e; cases e),(by rw [hop]; intro t l q e; cases e)⟩,hop]; rfl
    split at h
    ·split at h
     ·split at h
      ·split at h
       ·simp only [czg,czh] at h
        obtain ⟨rfl,rfl,rfl⟩:=h
        obtain ⟨_,_,_,_,_,_,_,hl⟩:=hp
        refine ⟨czf _,(fun e => by rw [hno] at e; cases e),(fun l ob e => ?_)⟩
        cases e
        exact ⟨by unfold zgk; rw [hop]; rfl,hlt _ _ hl (by simp),(fun e => by rw [hno] at e; cases e),.inr (by rw [hl]; rfl)⟩
       ·simp only [czg,czh] at h
        obtain ⟨rfl,rfl,rfl⟩:=h
        refine ⟨by omega,(fun e => by rw [hno] at e; cases e),(fun l ob e => ?_)⟩
        cases e
        exact ⟨by unfold zgk; rw [hop]; rfl,by omega,(fun e => by rw [hno] at e; cases e),.inr (by rw [hdead _ (czf _)]; rfl)⟩
       ·cases h
      ·cases h
     ·split at h
      ·split at h
       ·rename_i es sz1 s1 hl
        simp only [czg,czh] at h
        obtain ⟨rfl,rfl,rfl⟩:=h
        obtain ⟨_,_,_,_,_,_,_,hMd⟩:=hp
        refine ⟨czf _,(fun e => by rw [hno] at e; cases e),(fun l ob e => ?_)⟩
        cases e
        exact ⟨by unfold zgk; rw [hop]; rfl,hlt _ _ hl (by simp),(fun e => by rw [hno] at e; cases e),.inl ⟨.inr hMd,rfl⟩⟩
       ·cases h
      ·cases h
     ·cases h
    ·cases h
   ·cases h
theorem zpE {P:Program} {Φ:zaJ} {fr:Oper → Bool} {ds:List (Option Tmp)} {M:List AObj} {L L':Nat} {st st':St} {o:Oper} {p:Prop} {e:PE}
  (h:zdF P Φ fr ds M L st o = some (p,e,L')) (he:e.eff = none) (hs:∀ t,t ∈ zf7 ds o → st.get t = st'.get t) (hn:st.n = st'.n) (hm:st.marks = st'.marks) (hpr:st.pr = st'.pr) :
  zdF P Φ fr ds M L st' o = some (p,e,L):=by
 have hg:zdQ ds st'.tm o = zdQ ds st.tm o:=by
  unfold zdQ
  cases hgo:o.guard with
  | none => rfl
  | some q =>
   obtain ⟨j,want⟩:=q
   dsimp only
   cases hj:ds.getD j none with
   | none => rfl
   | some d =>
    have:st.get d = st'.get d:=hs d (by unfold zf7 zhL; rw [hgo]; dsimp only; rw [hj]; simp)
    unfold St.get at this
    dsimp only
    rw [this]
 have hr:zd7 st'.tm o.op = zd7 st.tm o.op:=by
  unfold zd7
  refine List.map_congr_left fun t ht => ?_
  have:st.get t = st'.get t:=hs t (by unfold zf7; exact List.mem_append_left _ ht)
  unfold St.get at this
  rw [this]
 have hst:({ st' with tm:=zd7 st'.tm o.op,mem:=M }:St) = { st with tm:=zd7 st.tm o.op,mem:=M }:=by
  rw [hr]
  cases st; cases st'
  simp_all
 unfold zdF at h ⊢
 rw [hg,hst]
 cases hgg:zdQ ds st.tm o with
 | none => simp only [hgg] at h; cases h
 | some g =>
  simp only [hgg] at h ⊢
  cases hfl:zaF Φ o.dst with
  | some d =>
   simp only [hfl] at h ⊢
   cases g with
   | some g => cases h
   | none =>
    dsimp only at h ⊢
    unfold zis at h ⊢
    have hev:∀ x,x ∈ o.op.operands.toList → evT st'.tm x = evT st.tm x:=fun x hx => zhO fun t ht => by
     subst ht
     exact (hs t (by unfold zf7 zjC; exact List.mem_append_left _ (List.mem_filterMap.2 ⟨_,hx,rfl⟩))).symm
    split at h
    ·rename_i t x y t' hop
     rw [hev x (by rw [hop]; simp [Op.operands]),hev y (by rw [hop]; simp [Op.operands])]
     split at h
     ·simp only [czg,czh] at h ⊢
      exact ⟨h.1,h.2.1,trivial⟩
     ·cases h
    ·exfalso
     repeat' (first | (simp only [czg,czh] at h; obtain ⟨rfl,rfl,rfl⟩:=h; cases he; done) | (cases h; done) | split at h)
    ·exfalso
     repeat' (first | (simp only [czg,czh] at h; obtain ⟨rfl,rfl,rfl⟩:=h; cases he; done) | (cases h; done) | split at h)
    ·cases h
  | none =>
  simp only [hfl] at h ⊢
  cases hq:ztc P Φ { st with tm:=zd7 st.tm o.op,mem:=M } o.op with
  | some q =>
   simp only [hq] at h ⊢
   cases g with
   | none =>
    simp only [czg,czh] at h ⊢
    exact ⟨h.1,h.2.1,trivial⟩
   | some g =>
    simp only [czg,czh] at h ⊢
    exact ⟨h.1,h.2.1,trivial⟩
  | none =>
   simp only [hq] at h ⊢
   cases hf:frA Φ { st with tm:=zd7 st.tm o.op,mem:=M } o.op with
   | some q =>
    simp only [hf] at h ⊢
    cases g with
    | none =>
     dsimp only at h ⊢
     split at h
     ·simp only [czg,czh] at h
      obtain ⟨rfl,rfl,rfl⟩:=h
      cases he
     ·rename_i hno
      simp only [czg,czh] at h
      obtain ⟨rfl,rfl,rfl⟩:=h
      rw [if_neg hno]
    | some g => cases h
   | none =>
    simp only [hf] at h ⊢
    cases g with
    | some g => cases h
    | none =>
     exfalso
     dsimp only at h
     unfold zgc at h
     repeat' (first | (simp only [czg,czh] at h; obtain ⟨rfl,rfl,rfl⟩:=h; cases he; done) | (cases h; done) | split at h)
theorem step_dead {o:Oper} {e:PE} {st:St} {L L':Nat} (hL:L ≤ L') (hdead:∀ l,L ≤ l → zaa st.mem l = .dead) (he:∀ l ob,e.eff = some (l,ob) → l < L') :
  ∀ l,L' ≤ l → zaa (zbM o e st).mem l = .dead:=by
 intro l hl
 rw [zcN]
 split
 ·rename_i l' ob h
  have:=he l' ob h
  rw [if_neg (by omega)]
  exact hdead l (by omega)
 ·exact hdead l (by omega)
theorem zsZ {o:Oper} {e:PE} {st:St} (he:∀ l ob,e.eff = some (l,ob) → zdq ob = true ∨ zdq (zaa st.mem l) = false) :
  ∀ l,zdq (zaa st.mem l) = true → zdq (zaa (zbM o e st).mem l) = true:=by
 intro l hl
 rw [zcN]
 split
 ·rename_i l' ob h
  by_cases h1:l = l' ∧ l' < st.mem.length
  ·rw [if_pos h1]
   rcases he l' ob h with h2 | h2
   ·exact h2
   ·rw [h1.1,h2] at hl
    cases hl
  ·rw [if_neg h1]
   exact hl
 ·exact hl
theorem ze7 {D:Nat → Bool}:∀ (os:List Oper) (es:List PE) (k:Nat) (st:St),(∀ j,j < os.length → D (k + j) = false) → zbh D k os es st = st
 | [],es,k,st,_ => by simp [zbh]
 | _ :: _,[],k,st,_ => by simp [zbh]
 | o :: os,e :: es,k,st,h => by
  unfold zbh
  have h0:=h 0 (by simp)
  simp only [Nat.add_zero] at h0
  rw [h0]
  simp only [czp,if_false]
  exact ze7 os es (k + 1) st (fun j hj => by rw [show k + 1 + j = k + (j + 1) by omega]; exact h (j + 1) (by simpa using hj))
theorem pre_cons (o:Oper) (e:PE) (os:List Oper) (es:List PE) (st:St) (i:Nat) :
  zbh (fun j => decide (j < i + 1)) 0 (o :: os) (e :: es) st = zbh (fun j => decide (j < i)) 0 os es (zbM o e st):=by
 show zbh (fun j => decide (j < i + 1)) (0 + 1) os es (if decide (0 < i + 1) = true then zbM o e st else st) = _
 rw [if_pos (by simp),zkR]
 exact zdp os es 0 _ (fun j _ _ => by simp)
theorem zi4 {P:Program} {Φ:zaJ} {fr:Oper → Bool} {ds:List (Option Tmp)} {M:List AObj} (hfr:∀ o:Oper,zpL o.op → fr o = false):∀ (os:List Oper) (es:List PE) (L:Nat) (st:St),Plan P Φ fr ds M os es L st → (∀ l,L ≤ l → zaa st.mem l = .dead) →
  ∃ Lf:Nat → Nat,Lf 0 = L ∧ (∀ i,i < es.length → Lf i ≤ Lf (i + 1)) ∧ ∀ i o,os[i]? = some o → i < es.length → ∃ e p,es[i]? = some e ∧
   zdF P Φ fr ds M (Lf i) (zbh (fun j => decide (j < i)) 0 os es st) o = some (p,e,Lf (i + 1)) ∧ p ∧ zct st.n o.dst ∧
   (∀ l,Lf i ≤ l → zaa (zbh (fun j => decide (j < i)) 0 os es st).mem l = .dead) ∧
   ∀ l,zdq (zaa st.mem l) = true → zdq (zaa (zbh (fun j => decide (j < i)) 0 os es st).mem l) = true
 | [],[],L,st,_,hd => ⟨fun _ => L,rfl,fun _ _ => czf _,fun i o h => by simp at h⟩
 | [],_ :: _,L,st,hp,hd => by simp [Plan] at hp
 | _ :: _,[],L,st,_,hd => ⟨fun _ => L,rfl,fun _ _ => czf _,fun i o _ h => by simp at h⟩
 | o' :: os,e' :: es,L,st,hp,hd => by
  obtain ⟨p,L',h1,h2,h3,h4⟩:=hp
  obtain ⟨s1,s2,s3⟩:=zg0 (hfr o') h1 h2 hd
  obtain ⟨Lf,g0,g1,g2⟩:=zi4 hfr os es L' _ h4 (step_dead s1 hd (fun l ob h => (s3 l ob h).2.1))
  refine ⟨fun i => match i with | 0 => L | i + 1 => Lf i,rfl,fun i hi => ?_,fun i o h hi => ?_⟩
  ·cases i with
   | zero => show L ≤ Lf 0; omega
   | succ i => exact g1 i (by simpa using hi)
  ·cases i with
   | zero =>
    simp only [czD,czg] at h
    subst h
    rw [ze7 _ _ _ _ (by simp)]
    exact ⟨e',p,by simp,(by show zdF P Φ fr ds M L st o' = some (p,e',Lf 0); rw [g0]; exact h1),h2,h3,hd,fun l h => h⟩
   | succ i =>
    obtain ⟨e,q,k1,k2,k3,k4,k5,k6⟩:=g2 i o (by simpa using h) (by simpa using hi)
    rw [pre_cons]
    exact ⟨e,q,by simpa using k1,k2,k3,k4,k5,fun l hl => k6 l (zsZ (o:=o') (e:=e') (fun l ob h => (s3 l ob h).2.2.2.imp (fun q => q.2) id) l hl)⟩
theorem newOp_eff {op:Op} (h:newOp op = true):effOp op = true:=by
 unfold newOp at h
 split at h <;> first | rfl | cases h
theorem newB_eff {fr:Oper → Bool} {o:Oper} (h:zfU fr o = true):zgk fr o = true:=by
 unfold zfU at h
 unfold zgk
 rw [czI] at h ⊢
 exact h.imp newOp_eff id
theorem zff (ops:List Oper) (o:Oper) (h:zpL o.op):zep ops o = false:=by
 unfold zep
 split
 ·rename_i h1 _
  exact absurd h1 (h.1 _ _ _)
 ·rename_i h1 _
  exact absurd h1 (h.2 _ _ _)
 ·rfl
def zeu (D:Nat → Bool):Nat → Nat
 | 0 => 0
 | n + 1 => zeu D n + if D n then 0 else 1
theorem zio {D D':Nat → Bool}:∀ n,(∀ j,j < n → D j = D' j) → zeu D n = zeu D' n
 | 0,_ => rfl
 | n + 1,h => by unfold zeu; rw [zio n (fun j hj => h j (by omega)),h n (by omega)]
theorem zh0 {D:Nat → Bool} {i:Nat} (hi:D i = false):∀ n,i < n → zeu (zdK D i) n + 1 = zeu D n
 | n + 1,h => by
  unfold zeu
  by_cases e:i = n
  ·subst e
   rw [hi,zio (D:=zdK D i) (D':=D) i (fun j hj => by unfold zdK; rw [if_neg (by omega)])]
   simp [zdK]
  ·have e1:zdK D i n = D n:=by unfold zdK; rw [if_neg (by omega)]
   have:=zh0 hi n (by omega)
   rw [e1]
   omega
theorem zjh {D:Nat → Bool}:∀ n,zeu D n = 0 → ∀ j,j < n → D j = true
 | n + 1,h,j,hj => by
  unfold zeu at h
  by_cases e:j = n
  ·subst e
   cases hD:D j with
   | true => rfl
   | false => rw [hD] at h; simp at h
  ·exact zjh n (by omega) j (by omega)
def Dof (listed:Array Bool):Nat → Bool:=fun i => listed.getD i false
theorem Dof_set {listed:Array Bool} {i:Nat} (hi:i < listed.size):Dof (listed.setIfInBounds i true) = zdK (Dof listed) i:=by
 funext j
 unfold Dof zdK
 by_cases e:j = i
 ·subst e
  simp [Array.getD,hi]
 ·rw [if_neg e]
  simp only [czo]
  rw [Array.getElem?_setIfInBounds_ne (fun e' => e e'.symm)]
theorem zgm {fl:Nat} {os:List Oper} (h:zaj fl os = true) {i:Nat} {oi:Oper} (hi:os[i]? = some oi) :
  (∀ e ∈ oi.after,Region.binds .any e = true → e.on < i) ∧ ∀ j oj,j < i → os[j]? = some oj → zkU fl (zep os) (os.map (·.dst)) ((znT [] os).getD i 0) j i oi oj = true:=by
 unfold zaj at h
 simp only [czG] at h
 have hlt:i < os.length:=by
  by_cases hl:i < os.length
  ·exact hl
  ·rw [czB (czE hl)] at hi; cases hi
 have:=h i (List.mem_range.2 hlt)
 rw [hi] at this
 simp only [czl,czG,czI,Bool.not_eq_true',decide_eq_true_eq] at this
 refine ⟨fun e he hb => ?_,fun j oj hj hoj => ?_⟩
 ·rcases this.1 e (by simpa using he) with h1 | h1
  ·rw [hb] at h1; cases h1
  ·exact h1
 ·have:=this.2 j (List.mem_range.2 hj)
  rw [hoj] at this
  exact this
theorem zg1 {fl:Nat} {fr:Oper → Bool} {ds:List (Option Tmp)} {bi j i:Nat} {oi oj:Oper} (h:zkU fl fr ds bi j i oi oj = true) (hb:bi.testBit j = false) :
  zhB oj.dst (zgd ds oi) = false ∧ zhB oi.dst (zgd ds oj) = false ∧ ¬ (zev oi.op = true ∧ zht fl j oj.op = true) ∧
  ¬ (zgk fr oi = true ∧ zgk fr oj = true ∧ ¬ (zfU fr oi = true ∧ zfU fr oj = true)):=by
 unfold zkU at h
 rw [hb] at h
 revert h
 cases zhB oj.dst (zgd ds oi) <;> cases zhB oi.dst (zgd ds oj) <;> cases zev oi.op <;> cases zht fl j oj.op <;> cases zev oj.op <;> cases zht fl i oi.op <;>
  cases zgk fr oi <;> cases zgk fr oj <;> cases zfU fr oi <;> cases zfU fr oj <;> simp
theorem zmZ {fl:Nat} {fr:Oper → Bool} {ds:List (Option Tmp)} {bi j i:Nat} {oi oj:Oper} (h:zkU fl fr ds bi j i oi oj = true):¬ (zev oj.op = true ∧ zht fl i oi.op = true):=by
 unfold zkU at h
 revert h
 cases zev oj.op <;> cases zht fl i oi.op <;> simp
theorem zd9 {d:Option Tmp} {l:List Nat} {t:Nat} (h:zhB d l = false) (hd:d = some t):t ∉ l:=by
 subst hd
 simpa [zhB] using h
structure zuN (fl:Nat) (P:Program) (Φ:zaJ) (K:St → Prop) (ops:List Oper) (D0:Nat → Bool) (stM:St) (es:List PE) (Lf:Nat → Nat) (base m0:Nat):Prop where
 le:es.length ≤ ops.length
 lo:base ≤ Lf 0
 prot:m0 ≤ base
 mono:∀ i,i < es.length → Lf i ≤ Lf (i + 1)
 plan:∀ i o,ops[i]? = some o → i < es.length → D0 i = false → ∃ e p,es[i]? = some e ∧
   zdF P Φ (zep ops) (ops.map (·.dst)) (zha (fl.testBit 200) stM.mem) (Lf i) (zbh (fun j => decide (j < i) && !D0 j) 0 ops es stM) o = some (p,e,Lf (i + 1)) ∧ p ∧ zct stM.n o.dst ∧
   (∀ l,Lf i ≤ l → zaa (zbh (fun j => decide (j < i) && !D0 j) 0 ops es stM).mem l = .dead) ∧
   ∀ l,zdq (zaa stM.mem l) = true → zdq (zaa (zbh (fun j => decide (j < i) && !D0 j) 0 ops es stM).mem l) = true
 free:fl = 0 ∨ FreeOK fl D0 ops es 0 stM
 fin:∃ T,Eqv (zbh (fun j => !D0 j) 0 ops es stM) T ∧ ((es.length = ops.length ∧ K T) ∨ ∃ o free,fl = 0 ∧ ops[es.length]? = some o ∧ zuh ops es.length free = true ∧
   ze2 P o (Kbig P Φ ops K es.length free (ops.drop (es.length + 1)) T) T)
theorem zlj {ops:List Oper} {k:Nat} {free:List Nat} {oc:Oper} (h:zuh ops k free = true) (hoc:ops[k]? = some oc) :
  oc.guard = none ∧ (∃ f args ts,oc.op = .call { callee:=.value f,args:=args,argTypes:=ts }) ∧
  (∀ j,j < k → ((znT [] ops).getD k 0).testBit j = false → j ∈ free ∧ ∀ oj,ops[j]? = some oj → zgk (zep ops) oj = false ∧ (∃ d,oj.dst = some d) ∧
   ∀ i oi,j ≤ i → i < k → ops[i]? = some oi → zhB oi.dst (zf7 (ops.map (·.dst)) oj) = false ∧ (i ≠ j → oi.dst ≠ oj.dst)) ∧
  (∀ j,k < j → j < ops.length → ((znT [] ops).getD j 0).testBit k = true):=by
 unfold zuh at h
 simp only [hoc,czl,czG,List.mem_range,czI] at h
 obtain ⟨⟨⟨h1,h1'⟩,h2⟩,h3⟩:=h
 refine ⟨by simpa using h1,?_,fun j hj hb => ?_,fun j hj hl => ?_⟩
 ·split at h1'
  ·exact ⟨_,_,_,‹_›⟩
  ·cases h1'
 ·rcases h2 j hj with q | q
  ·rw [hb] at q; cases q
  ·refine ⟨by simpa using q.1,fun oj hoj => ?_⟩
   have q2:=q.2
   rw [hoj] at q2
   simp only [czl,Bool.not_eq_true',czG,List.mem_range,czI,decide_eq_true_eq] at q2
   obtain ⟨⟨g1,g2⟩,g3⟩:=q2
   refine ⟨g1,Option.isSome_iff_exists.1 g2,fun i oi hij hik hoi => ?_⟩
   rcases g3 i hik with q | q
   ·omega
   ·rw [hoi] at q
    simp only [czl,Bool.not_eq_true',czI,decide_eq_true_eq] at q
    refine ⟨q.1,fun hne e => ?_⟩
    rcases q.2 with q | q
    ·exact hne q
    ·obtain ⟨d,hd⟩:=Option.isSome_iff_exists.1 g2
     rw [hd] at q e
     simp [e] at q
 ·rcases h3 j hl with q | q
  ·simp at q; omega
  ·exact q
section
variable {P:Program} {Φ:zaJ} {X:Nat → Prop} {w0:W0} {m0:Nat} {rd:Option Nat}
theorem big_call {κ:Kn} {ρ:Lc} {τ:Tc} {st T:St} {a:Act} {w:World} {o:Oper} {Kb:St → Prop} {next:Act → World → Prop} {Q:Exit → Act → World → Prop} (h:Rel X w0 m0 κ ρ τ st a w)
  (hop:∃ f args ts,o.op = .call { callee:=.value f,args:=args,argTypes:=ts }) (hK:ze2 P o Kb T) (hev:∀ x,x ∈ o.op.operands.toList → evT st.tm x = evT T.tm x) (hmem:st.mem = T.mem) (hn:st.n = T.n)
  (hnext:∀ r mem' x κ' ρ' τ' w',st.mem.length ≤ mem'.length → Rel X w0 m0 κ' ρ' τ' ({ st with mem:=mem' }.put o.dst r) (a.put o.dst x) w' → Ext m0 κ ρ τ st.mem κ' ρ' τ' mem' →
   Kb ({ T with mem:=mem' }.put o.dst r) → next (a.put o.dst x) w'):zct st.n o.dst ∧ o.wpIn (Fw rd) 0 P a w next Q:=by
 obtain ⟨f,args,ts,hop⟩:=hop
 have hX:∀ b,X b → b < w.heap.size:=fun b hb => by have:=h.xlt b hb; have:=h.frm.size; omega
 unfold ze2 at hK
 rw [hop] at hK
 obtain ⟨hd,hfa,hav,hK⟩:=hK
 have hf0:evT st.tm f = evT T.tm f:=hev f (by rw [hop]; simp [Op.operands,Call.operands])
 have hargs:args.toList.map (fun x => evT st.tm x) = args.toList.map fun x => evT T.tm x :=
  List.map_congr_left fun x hx => hev x (by rw [hop]; simp [Op.operands,Call.operands]; exact .inr (by simpa using hx))
 have hA:zdM st.tm args = zdM T.tm args:=by
  have:=congrArg (List.map AV.un) hargs
  unfold zdM
  simpa using this
 have hV:avsA st.tm args = avsA T.tm args:=by
  have:=congrArg (List.map AV.av) hargs
  unfold avsA
  congr 1
  simpa using this
 rw [← hf0] at hfa hK
 rw [← hV] at hav
 rw [← hn] at hd
 have rf:=(h.ev f).un hfa
 refine ⟨hd,?_⟩
 have hcall:∀ {R:AV → List AObj → Prop},(∀ r mem',R r mem' → mem'.length = T.mem.length → Kb ({ T with mem:=mem' }.put o.dst r.strip)) → ∀ (e:Ending) (w'':World),
   (∃ x κ' ρ' τ' mem' r,e = .returned x ∧ RelM κ' ρ' τ' X mem' w'' ∧ Frm X w w'' ∧ Rep κ' ρ' r x ∧ Ext st.mem.length κ ρ τ st.mem κ' ρ' τ' mem' ∧ mem'.length = st.mem.length ∧ KeepX X κ κ' ∧ R r mem') →
   ∃ x,e = .returned x ∧ next (a.put o.dst x) w'':=by
  rintro R hk e w'' ⟨x,κ',ρ',τ',mem',r,rfl,h1,h2,h3,h4,h5,h7,h6⟩
  obtain ⟨g1,g2⟩:=h.called hd h1 h2 h3.strip (TokOK.strip _) h4 (by omega) h7
  exact ⟨x,rfl,hnext r.strip mem' x κ' ρ' τ' w'' (by omega) g1 g2 (hk r mem' h6 (by rw [← hmem]; exact h5))⟩
 have hcallX:∀ {R:AV → List AObj → Prop},(∀ r mem',R r mem' → T.mem.length ≤ mem'.length → Kb ({ T with mem:=mem' }.put o.dst r)) → ∀ (e:Ending) (w'':World),
   (∃ x κ' ρ' τ' mem' r,e = .returned x ∧ RelM κ' ρ' τ' X mem' w'' ∧ Frm X w w'' ∧ Rep κ' ρ' r x ∧ TokOK τ' mem' r x ∧ Ext st.mem.length κ ρ τ st.mem κ' ρ' τ' mem' ∧ st.mem.length ≤ mem'.length ∧ KeepX X κ κ' ∧ R r mem') →
   ∃ x,e = .returned x ∧ next (a.put o.dst x) w'':=by
  rintro R hk e w'' ⟨x,κ',ρ',τ',mem',r,rfl,h1,h2,h3,h3',h4,h5,h7,h6⟩
  obtain ⟨g1,g2⟩:=h.called hd h1 h2 h3 h3' h4 h5 h7
  exact ⟨x,rfl,hnext r mem' x κ' ρ' τ' w'' h5 g1 g2 (hk r mem' h6 (by rw [← hmem]; exact h5))⟩
 split at hK
 ·rename_i g fst cap hf
  rw [hf] at rf
  obtain ⟨R,hc,hk⟩:=hK
  obtain ⟨vs,ws,hfv,h1,h2,h3,h4⟩:=zk7 rf
  obtain ⟨a1,a2⟩:=znU h h1 h2 h3 h4 hav
  rw [← hA,← hmem] at hc
  exact ze3 (w':=w) (by rw [zdU hop hfv]; exact zdu hc.1) (hc.2 X κ ρ τ w _ h.mem hX a1 (fun i hi => (a2 i hi).1) (fun i hi => (a2 i hi).2)) (fun e w'' hr => hcallX hk e w'' hr)
 ·rename_i l hf
  rw [hf] at rf
  obtain ⟨R,hc,hk⟩:=hK
  obtain ⟨b,hb,hfv⟩:=rf.yld_inv
  obtain ⟨a1,a2⟩:=zr4 (fst:=[]) (cap:=[]) (vs:=#[]) (ws:=#[]) h rfl rfl (fun i hi => by simp at hi) (fun i hi => by simp at hi) hav
  simp only [List.nil_append,List.append_nil,Array.empty_append,Array.append_empty] at a1 a2
  rw [← hA,← hmem] at hc
  obtain ⟨b',f',tmps,asg,body,hb',hy,hR⟩:=hc X κ ρ τ w (args.map a.eval) h.mem hX a1 a2
  obtain rfl:b = b':=by rw [hb] at hb'; exact czK hb'
  exact zkH (w':=w) (by rw [zdU hop hfv]; simp [invoke,hy]) hR (fun e w'' hr => hcall hk e w'' hr)
 ·exact hK.elim
theorem znZ {fr:Oper → Bool} {ds:List (Option Tmp)} {M:List AObj} {L:Nat} {ops:List Oper} {st:St}:∀ {l:List Nat},zuF P Φ fr ds M L ops st l → ∀ j ∈ l,∃ o p e L',ops[j]? = some o ∧
  zdF P Φ fr ds M L st o = some (p,e,L') ∧ p ∧ e.eff = none ∧ ∀ d,o.dst = some d → e.v = lk st.tm d
 | [],_,j,hj => by cases hj
 | i :: r,h,j,hj => by
  obtain ⟨h1,h2⟩:=h
  rcases czn.1 hj with rfl | hj
  ·split at h1
   ·rename_i o ho
    split at h1
    ·rename_i p e L' hp
     exact ⟨o,p,e,L',ho,hp,h1⟩
    ·exact h1.elim
   ·exact h1.elim
  ·exact znZ h2 j hj
theorem zdV {D:Nat → Bool}:∀ (os:List Oper) (es:List PE) (k:Nat) (st:St),(∀ j,k ≤ j → D j = false) → zbh D k os es st = st
 | [],es,k,st,_ => by simp [zbh]
 | _ :: _,[],k,st,_ => by simp [zbh]
 | o :: os,e :: es,k,st,h => by
  unfold zbh
  rw [h k (czf _)]
  simp only [czp,if_false]
  exact zdV os es (k + 1) st fun j hj => h j (by omega)
theorem zto {fr:Oper → Bool} {ds:List (Option Tmp)} {M:List AObj} {L:Nat} {st st':St} {o:Oper} (h:Eqv st st'):zdF P Φ fr ds M L st o = zdF P Φ fr ds M L st' o:=by
 have hl:∀ t,lk st.tm t = lk st'.tm t:=h.get
 have hr:zd7 st.tm o.op = zd7 st'.tm o.op:=by unfold zd7; exact List.map_congr_left fun t _ => by rw [hl]
 have hg:zdQ ds st.tm o = zdQ ds st'.tm o:=by unfold zdQ; simp only [hl]
 have hst:({ st with tm:=zd7 st.tm o.op,mem:=M }:St) = { st' with tm:=zd7 st'.tm o.op,mem:=M }:=by
  rw [hr]
  have:=h.n; have:=h.marks; have:=h.pr
  cases st; cases st'
  simp_all
 have he:∀ x,evT st.tm x = evT st'.tm x:=fun x => zhO fun t _ => hl t
 have hmem:st.mem = st'.mem:=zia h.mem h.len
 have hpe:zgc P M L st o = zgc P M L st' o:=by
  unfold zgc
  simp only [he,hmem]
 have hpf:∀ d,zis P fr M L st o d = zis P fr M L st' o d:=fun d => by
  unfold zis
  simp only [he]
 unfold zdF
 rw [hg,hst,hpe]
 simp only [hpf]
theorem zmJ {D:Nat → Bool}:∀ (os:List Oper) (es:List PE) (k:Nat) (st:St),(∀ j e,es[j]? = some e → D (k + j) = true → e.eff = none) → (zbh D k os es st).mem = st.mem
 | [],es,k,st,_ => by simp [zbh]
 | _ :: _,[],k,st,_ => by simp [zbh]
 | o :: os,e :: es,k,st,h => by
  unfold zbh
  rw [zmJ os es (k + 1) _ (fun j e' he hD => h (j + 1) e' (by simpa using he) (by rw [show k + (j + 1) = k + 1 + j by omega]; exact hD))]
  split
  ·rename_i hD
   have:=h 0 e (by simp) (by simpa using hD)
   unfold zbM
   rw [this]
  ·rfl
theorem ztu {K:St → Prop} {ops:List Oper} {D0 D:Nat → Bool} {stM:St} {es:List PE} {Lf:Nat → Nat} {base:Nat} {T:St} {oc:Oper} {free:List Nat} {r:AV} {mem':List AObj}
  (hok:zaj 0 ops = true) (hph:zuN 0 P Φ K ops D0 stM es Lf base m0) (hoc:ops[es.length]? = some oc) (hbig:zuh ops es.length free = true)
  (hT:Eqv (zbh (fun j => !D0 j) 0 ops es stM) T) (hD0:∀ j,D0 j = true → D j = true) (hDm:∀ j,es.length ≤ j → D j = false)
  (hfree:∀ j,j < es.length → D j = false → ((znT [] ops).getD es.length 0).testBit j = false)
  (hstepj:∀ j oj ej,ops[j]? = some oj → es[j]? = some ej → D0 j = false → ∀ l ob,ej.eff = some (l,ob) → zgk (zep ops) oj = true) (hm0:m0 ≤ mem'.length)
  (hK:Kbig P Φ ops K es.length free (ops.drop (es.length + 1)) T ({ T with mem:=mem' }.put oc.dst r)) :
  ∃ es' Lf',zuN 0 P Φ K ops (zdK D es.length)
   ({ ({ zbh (fun j => D j && !D0 j) 0 ops es stM with mem:=mem' }:St).put oc.dst r with mem:=mem' ++ List.replicate (zbI (zep ops) (ops.drop (es.length + 1))) AObj.dead }) es' Lf' mem'.length m0 ∧ es.length < es'.length:=by
 obtain ⟨_,_,hfr,hbe⟩:=zlj hbig hoc
 obtain ⟨hag,hvc⟩:=hK
 have hagm:=znZ hag
 have hml:({ T with mem:=mem' }.put oc.dst r).mem = mem':=rfl
 rw [hml] at hag hvc hagm
 generalize hM:mem' ++ List.replicate (zbI (zep ops) (ops.drop (es.length + 1))) AObj.dead = M at hag hvc hagm ⊢
 obtain ⟨es2,s1,s2,s3⟩:=zjq _ _ _ _ hvc
 have hdeadM:∀ l,mem'.length ≤ l → zaa M l = .dead:=fun l hl => by
  rw [← hM]
  unfold zaa
  simp only [List.getD]
  rw [czj hl,List.getElem?_replicate]
  split <;> rfl
 obtain ⟨Lf2,t0,t1,t2⟩:=zi4 (fun o => zff ops o) _ _ _ _ s2 (fun l hl => hdeadM l hl)
 have hlt:es.length < ops.length:=by
  by_cases hl:es.length < ops.length
  ·exact hl
  ·rw [czB (czE hl)] at hoc; cases hoc
 have hcut:ops = ops.take es.length ++ (oc :: ops.drop (es.length + 1)):=by
  conv => lhs; rw [← List.take_append_drop es.length ops]
  congr 1
  rw [List.drop_eq_getElem_cons hlt]
  congr 1
  have:=czw hlt
  rw [hoc] at this
  exact (czK this).symm
 have htl:(ops.take es.length).length = es.length:=by simp; omega
 let s0:=zbh (fun j => D j && !D0 j) 0 ops es stM
 let stN:St:={ ({ s0 with mem:=mem' }:St).put oc.dst r with mem:=M }
 let T':St:={ ({ T with mem:=mem' }:St).put oc.dst r with mem:=M }
 let es':List PE:=es ++ ({ v:=.undef,eff:=none } :: es2)
 have hnD:∀ D1,(zbh D1 0 ops es stM).n = stM.n:=fun D1 => (zda _ _ _ _).1
 have hTn:T.n = stM.n:=by rw [← hT.n]; exact hnD _
 have hes'l:es'.length = es.length + 1 + es2.length:=by show (es ++ _).length = _; simp; omega
 have hes'lt:∀ j,j < es.length → es'[j]? = es[j]?:=fun j hj => czi hj
 have hes'gt:∀ q,es'[es.length + 1 + q]? = es2[q]?:=fun q => by
  show (es ++ _)[_]? = _
  rw [czj (by omega),show es.length + 1 + q - es.length = q + 1 by omega,czS]
 have hleft:∀ j,j < es.length → D j = false → ∃ oj ej,ops[j]? = some oj ∧ es[j]? = some ej ∧ ej.eff = none ∧ zgk (zep ops) oj = false ∧ (∃ d,oj.dst = some d ∧ T.get d = ej.v ∧ oc.dst ≠ some d ∧
   ∀ i oi,j < i → i < es.length → ops[i]? = some oi → oi.dst ≠ some d) ∧
   (∀ i oi,j ≤ i → i < es.length → ops[i]? = some oi → zhB oi.dst (zf7 (ops.map (·.dst)) oj) = false) ∧ zhB oc.dst (zf7 (ops.map (·.dst)) oj) = false ∧ j ∈ free:=by
  intro j hj hDj
  have hjl:j < ops.length:=by omega
  have hoj:ops[j]? = some ops[j]:=czw hjl
  have hb:=hfree j hj hDj
  obtain ⟨hjf,hq⟩:=hfr j hj hb
  obtain ⟨hne,⟨d,hd⟩,hw⟩:=hq _ hoj
  have hej:es[j]? = some es[j]:=czw hj
  have hDj0:D0 j = false:=by
   cases h:D0 j with
   | false => rfl
   | true => rw [hD0 j h] at hDj; cases hDj
  have heff:es[j].eff = none:=by
   cases h:es[j].eff with
   | none => rfl
   | some q =>
    obtain ⟨l,ob⟩:=q
    have:=hstepj j _ _ hoj hej hDj0 l ob h
    rw [hne] at this; cases this
  have hpk:=zg1 ((zgm hok hoc).2 j _ hj hoj) hb
  have hget:T.get d = es[j].v:=by
   rw [← hT.get d]
   exact zju ops es 0 j stM _ _ hoj hej hd (by simp [hDj0]) (fun i oi hji hil hoi => by
    have:=(hw i oi (by omega) hil hoi).2 (by omega)
    rw [hd] at this; exact this)
  have hcd:oc.dst ≠ some d:=fun e => zd9 hpk.1 hd (by unfold zgd; rw [e]; simp)
  have hcr:zhB oc.dst (zf7 (ops.map (·.dst)) ops[j]) = false:=by
   cases hc:oc.dst with
   | none => rfl
   | some t =>
    have:=zd9 hpk.2.1 hc
    unfold zhB
    rw [Bool.eq_false_iff]
    intro q
    apply this
    have q':t ∈ zf7 (ops.map (·.dst)) ops[j]:=by simpa using q
    unfold zf7 at q'
    unfold zgd
    rcases czv.1 q' with q' | q'
    ·exact List.mem_append_left _ q'
    ·exact List.mem_append_right _ (List.mem_append_right _ q')
  exact ⟨_,_,hoj,hej,heff,hne,⟨d,hd,hget,hcd,fun i oi hji hil hoi => by
   have:=(hw i oi (by omega) hil hoi).2 (by omega)
   rw [hd] at this; exact this⟩,fun i oi hji hil hoi => (hw i oi hji hil hoi).1,hcr,hjf⟩
 have hF:∀ i,i ≤ es.length → ∀ s,(zbh (fun j => decide (j < i) && !zdK D es.length j) 0 ops es stN).get s =
   if (∃ j,j < i ∧ D j = false ∧ ∃ oj,ops[j]? = some oj ∧ oj.dst = some s) then T'.get s else stN.get s:=by
  intro i hi s
  have haddD:∀ j,j < es.length → zdK D es.length j = D j:=fun j hj => by unfold zdK; rw [if_neg (by omega)]
  split
  ·rename_i hex
   obtain ⟨j,hji,hDj,oj,hoj,hds⟩:=hex
   obtain ⟨oj',ej,q1,q2,q3,q4,⟨d,q5,q6,q7,q8⟩,_⟩:=hleft j (by omega) hDj
   rw [hoj] at q1; cases q1
   rw [hds] at q5; cases q5
   have e1:(zbh (fun j => decide (j < i) && !zdK D es.length j) 0 ops es stN).get s = ej.v :=
    zju ops es 0 j stN _ _ hoj q2 hds (by simp [hji,haddD j (by omega),hDj]) q8
   rw [e1,← q6]
   show T.get s = (({ T with mem:=mem' }:St).put oc.dst r).get s
   rw [zdJ,if_neg q7]
   rfl
  ·rename_i hex
   have:(zbh (fun j => decide (j < i) && !zdK D es.length j) 0 ops es stN).get s = (zbh (fun _ => false) 0 ops es stN).get s:=by
    refine zhp ops es 0 (fun j oj hjl hoj hdj => ?_) rfl
    simp only [Nat.zero_add]
    rw [Bool.and_eq_false_iff]
    by_cases hji:j < i
    ·right
     cases hDj:D j with
     | true => rw [haddD j (by omega),hDj]; rfl
     | false => exact absurd ⟨j,hji,hDj,oj,hoj,hdj⟩ hex
    ·left; simpa using hji
   rw [this,ze7 _ _ _ _ (fun _ _ => rfl)]
 have hstN:∀ s,(∀ j oj,j < es.length → D j = false → ops[j]? = some oj → oj.dst ≠ some s) → stN.get s = T'.get s:=by
  intro s hs
  show (({ s0 with mem:=mem' }:St).put oc.dst r).get s = (({ T with mem:=mem' }:St).put oc.dst r).get s
  rw [zdJ,zdJ]
  split
  ·rfl
  ·show s0.get s = T.get s
   rw [← hT.get s]
   refine zhp ops es 0 (fun j oj hjl hoj hdj => ?_) rfl
   simp only [Nat.zero_add]
   cases hDj:D j with
   | true => simp
   | false => exact absurd hdj (hs j oj hjl hDj hoj)
 have haddD:∀ j,j < es.length → zdK D es.length j = D j:=fun j hj => by unfold zdK; rw [if_neg (by omega)]
 have haddm:zdK D es.length es.length = true:=by simp [zdK]
 have haddg:∀ j,es.length < j → zdK D es.length j = false:=fun j hj => by unfold zdK; rw [if_neg (by omega)]; exact hDm j (by omega)
 have hmemF:∀ i,(zbh (fun j => decide (j < i) && !zdK D es.length j) 0 ops es stN).mem = M:=fun i => by
  refine zmJ ops es 0 stN fun j e he hD => ?_
  have hjl:j < es.length:=by
   by_cases hl:j < es.length
   ·exact hl
   ·rw [czB (czE hl)] at he; cases he
  simp only [Nat.zero_add,czl,Bool.not_eq_true'] at hD
  obtain ⟨oj,ej,q1,q2,q3,_⟩:=hleft j hjl (by rw [← haddD j hjl]; exact hD.2)
  rw [he] at q2; cases q2; exact q3
 have hstNn:stN.n = stM.n:=hnD _
 have hT'n:T'.n = stM.n:=hTn
 have hmk:stN.marks = T'.marks:=by
  show s0.marks = T.marks
  rw [← hT.marks,(zda _ _ _ _).2.1,(zda _ _ _ _).2.1]
 have hpr:stN.pr = T'.pr:=by
  show s0.pr = T.pr
  rw [← hT.pr,(zda _ _ _ _).2.2,(zda _ _ _ _).2.2]
 have hall:Eqv (zbh (fun j => decide (j < es.length) && !zdK D es.length j) 0 ops es stN) T':=by
  refine ⟨fun s => ?_,fun l => by rw [hmemF],by rw [hmemF],by rw [(zda _ _ _ _).1,hstNn,hT'n],by rw [(zda _ _ _ _).2.1,hmk],by rw [(zda _ _ _ _).2.2,hpr]⟩
  rw [hF es.length (czf _) s]
  split
  ·rfl
  ·rename_i hex
   exact hstN s fun j oj hjl hDj hoj hds => hex ⟨j,hjl,hDj,oj,hoj,hds⟩
 have hbehind:∀ (D1:Nat → Bool),(∀ j,j < es.length → D1 j = !zdK D es.length j) → D1 es.length = false →
   Eqv (zbh D1 0 ops es' stN) (zbh (fun j => D1 (j + (es.length + 1))) 0 (ops.drop (es.length + 1)) es2 T'):=by
  intro D1 h1 h2
  have e1:zbh D1 0 ops es' stN = zbh D1 0 (ops.take es.length ++ (oc :: ops.drop (es.length + 1))) (es ++ ({ v:=.undef,eff:=none } :: es2)) stN:=by
   rw [← hcut]
  rw [e1,zfq _ _ _ _ _ _ htl,htl,Nat.zero_add]
  have e2:zbh D1 0 (ops.take es.length) es stN = zbh (fun j => decide (j < es.length) && !zdK D es.length j) 0 ops es stN:=by
   have:zbh D1 0 ops es stN = zbh D1 0 (ops.take es.length) es stN:=by
    conv => lhs; rw [hcut]
    exact zmK _ _ _ _ _ htl
   rw [← this]
   exact zdp _ _ _ _ (fun j _ hj => by rw [h1 j (by omega)]; simp; omega)
  rw [e2]
  have e3:∀ S,zbh D1 es.length (oc :: ops.drop (es.length + 1)) ({ v:=.undef,eff:=none } :: es2) S = zbh (fun j => D1 (j + (es.length + 1))) 0 (ops.drop (es.length + 1)) es2 S:=by
   intro S
   show zbh D1 (es.length + 1) (ops.drop (es.length + 1)) es2 (if D1 es.length then _ else S) = _
   rw [h2]
   simp only [czp,if_false]
   have:=zjt (D:=D1) (es.length + 1) (ops.drop (es.length + 1)) es2 0 S
   rw [Nat.zero_add] at this
   exact this
  rw [e3]
  exact zlF _ _ _ hall
 refine ⟨es',fun j => if j ≤ es.length then mem'.length else Lf2 (j - (es.length + 1)),⟨?_,?_,hm0,?_,?_,.inl rfl,?_⟩,by rw [hes'l]; omega⟩
 ·rw [hes'l]
  have:(ops.drop (es.length + 1)).length = ops.length - (es.length + 1):=List.length_drop
  omega
 ·rw [if_pos (Nat.zero_le _)]; exact czf _
 ·intro i hi
  by_cases h1:i + 1 ≤ es.length
  ·rw [if_pos (by omega),if_pos h1]; exact czf _
  ·rw [if_neg h1]
   by_cases h2:i ≤ es.length
   ·rw [if_pos h2,show i + 1 - (es.length + 1) = 0 by omega,t0]; exact czf _
   ·rw [if_neg h2,show i + 1 - (es.length + 1) = i - (es.length + 1) + 1 by omega]
    exact t1 _ (by omega)
 ·intro i o hio hil hDi
  dsimp only
  by_cases h1:i < es.length
  ·
   have hDi':D i = false:=by rw [← haddD i h1]; exact hDi
   obtain ⟨oj,ej,q1,q2,q3,q4,⟨d,q5,q6,q7,q8⟩,q9,q10,q11⟩:=hleft i h1 hDi'
   rw [hio] at q1; cases q1
   obtain ⟨o2,p2,e2,L2,g1,g2,g3,g4,g5⟩:=hagm i q11
   rw [hio] at g1; cases g1
   have hev:e2 = ej:=by
    have:=g5 d q5
    rw [show lk ({ T with mem:=mem' }:St).tm d = T.get d from rfl,q6] at this
    have h7:e2.eff = ej.eff:=by rw [g4,q3]
    cases e2; cases ej
    simp only at this h7
    rw [this,h7]
   have hpre:zbh (fun j => decide (j < i) && !zdK D es.length j) 0 ops es' stN = zbh (fun j => decide (j < i) && !zdK D es.length j) 0 ops es stN:=by
    have e1:zbh (fun j => decide (j < i) && !zdK D es.length j) 0 ops es' stN = zbh (fun j => decide (j < i) && !zdK D es.length j) 0 (ops.take es.length ++ (oc :: ops.drop (es.length + 1))) (es ++ ({ v:=.undef,eff:=none } :: es2)) stN:=by
     rw [← hcut]
    rw [e1,zfq _ _ _ _ _ _ htl,htl,Nat.zero_add]
    have e2:zbh (fun j => decide (j < i) && !zdK D es.length j) 0 ops es stN = zbh (fun j => decide (j < i) && !zdK D es.length j) 0 (ops.take es.length) es stN:=by
     conv => lhs; rw [hcut]
     exact zmK _ _ _ _ _ htl
    rw [e2]
    have key:∀ (os:List Oper) (es:List PE) (k:Nat) (S:St),i ≤ k → zbh (fun j => decide (j < i) && !zdK D es.length j) k os es S = S:=by
     intro os es k S hk
     refine zdV _ _ _ _ fun j _ => ?_
     rw [decide_eq_false (by omega)]; rfl
    exact zdV _ _ _ _ fun j _ => by rw [decide_eq_false (by omega)]; rfl
   rw [hpre,if_pos (by omega),if_pos (by omega)]
   refine ⟨ej,p2,by rw [hes'lt i h1]; exact q2,?_,g3,?_,fun l hl => by rw [hmemF]; exact hdeadM l hl,fun l hl => by rw [hmemF]; exact hl⟩
   ·rw [← hev]
    refine zpE g2 g4 (fun t ht => ?_) ?_ ?_ ?_
    ·show T.get t = _
     rw [hF i (by omega) t]
     have hne:oc.dst ≠ some t:=fun e => by
      have:=zd9 q10 e
      exact this ht
     split
     ·show T.get t = (({ T with mem:=mem' }:St).put oc.dst r).get t
      rw [zdJ,if_neg hne]; rfl
     ·rename_i hex
      rw [hstN t fun j oj hjl hDj hoj hds => ?_]
      ·show T.get t = (({ T with mem:=mem' }:St).put oc.dst r).get t
       rw [zdJ,if_neg hne]; rfl
      ·by_cases hji:j < i
       ·exact hex ⟨j,hji,hDj,oj,hoj,hds⟩
       ·exact zd9 (q9 j oj (by omega) hjl hoj) hds ht
    ·show T.n = _
     rw [(zda _ _ _ _).1,hstNn,hTn]
    ·show T.marks = _
     rw [(zda _ _ _ _).2.1,hmk]; rfl
    ·show T.pr = _
     rw [(zda _ _ _ _).2.2,hpr]; rfl
   ·obtain ⟨_,_,_,_,_,hd,_⟩:=hph.plan i o hio h1 (by
     cases h:D0 i with
     | false => rfl
     | true => rw [hD0 i h] at hDi'; cases hDi')
    show zct stN.n o.dst
    rw [hstNn]; exact hd
  ·by_cases h2:i = es.length
   ·subst h2; rw [haddm] at hDi; cases hDi
   ·obtain ⟨q,rfl⟩:∃ q,i = es.length + 1 + q:=⟨i - (es.length + 1),by omega⟩
    have hq:(ops.drop (es.length + 1))[q]? = some o:=by rw [czQ]; exact hio
    obtain ⟨e,p,g1,g2,g3,g4,g5,g6⟩:=t2 q o hq (by omega)
    have hE:=hbehind (fun j => decide (j < es.length + 1 + q) && !zdK D es.length j) (fun j hj => by rw [decide_eq_true (by omega)]; rfl) (by rw [haddm]; simp)
    have hE2:zbh (fun j => decide (j + (es.length + 1) < es.length + 1 + q) && !zdK D es.length (j + (es.length + 1))) 0 (ops.drop (es.length + 1)) es2 T' = zbh (fun j => decide (j < q)) 0 (ops.drop (es.length + 1)) es2 T' :=
     zdp _ _ _ _ fun j _ _ => by
      rw [haddg _ (by omega)]
      simp
      omega
    rw [hE2] at hE
    rw [if_neg (by omega),if_neg (by omega),show es.length + 1 + q - (es.length + 1) = q by omega,show es.length + 1 + q + 1 - (es.length + 1) = q + 1 by omega]
    refine ⟨e,p,by rw [hes'gt]; exact g1,?_,g3,?_,fun l hl => by rw [hE.mem]; exact g5 l hl,fun l hl => by rw [hE.mem]; exact g6 l hl⟩
    ·rw [zto hE]; exact g2
    ·show zct stN.n o.dst
     rw [hstNn,← hT'n]; exact g4
 ·have hE:=hbehind (fun j => !zdK D es.length j) (fun j _ => rfl) (by rw [haddm]; rfl)
  have hE2:zbh (fun j => !zdK D es.length (j + (es.length + 1))) 0 (ops.drop (es.length + 1)) es2 T' = zbh (fun _ => true) 0 (ops.drop (es.length + 1)) es2 T' :=
   zdp _ _ _ _ fun j _ _ => by rw [haddg _ (by omega)]; rfl
  rw [hE2] at hE
  refine ⟨_,hE,?_⟩
  have hdl:(ops.drop (es.length + 1)).length = ops.length - (es.length + 1):=List.length_drop
  rcases s3 with ⟨q1,q2⟩ | ⟨o,rest,free',q1,q2,q3⟩
  ·exact .inl ⟨by rw [hes'l]; omega,q2⟩
  ·refine .inr ⟨o,free',rfl,?_,?_,?_⟩
   ·rw [hes'l]
    have:=congrArg (fun l => l[0]?) q1
    simp only [List.drop_drop,czQ,czD,Nat.add_zero] at this
    exact this
   ·rw [hes'l]; exact q2
   ·rw [hes'l]
    have e:ops.drop (es.length + 1 + es2.length + 1) = rest:=by
     have:=congrArg List.tail q1
     rw [List.tail_drop,List.drop_drop] at this
     exact this
    rw [e]
    exact q3
theorem znX {fl:Nat} {ops:Array Oper} {K:St → Prop} {Qc:Exit → Act → World → Prop} {κ0:Kn} {ρ0:Lc} {τ0:Tc} {mem0:List AObj} (hΦ:zaz P Φ) (hok:zaj fl ops.toList = true)
  (hfin:∀ κ' ρ' τ' st' a' w',Rel X w0 m0 κ' ρ' τ' st' a' w' → Ext m0 κ0 ρ0 τ0 mem0 κ' ρ' τ' st'.mem → K st' → Qc .normal a' w') :
  ∀ (fuel:Nat) (D0:Nat → Bool) (stM:St) (es:List PE) (Lf:Nat → Nat) (base:Nat) (listed:Array Bool) (κ:Kn) (ρ:Lc) (τ:Tc) (a:Act) (w:World),zuN fl P Φ K ops.toList D0 stM es Lf base m0 →
   listed.size = ops.size → zeu (Dof listed) ops.size ≤ fuel → zsP ops.toList (Dof listed) → (∀ j,D0 j = true → Dof listed j = true) → (∀ j,es.length ≤ j → Dof listed j = false) →
   Rel X w0 m0 κ ρ τ (zbh (fun j => Dof listed j && !D0 j) 0 ops.toList es stM) a w → Ext m0 κ0 ρ0 τ0 mem0 κ ρ τ (zbh (fun j => Dof listed j && !D0 j) 0 ops.toList es stM).mem →
   (∀ l,base ≤ l → zaa (zbh (fun j => Dof listed j && !D0 j) 0 ops.toList es stM).mem l = .dead → ρ l = none) → wpAnyIn (Fw rd) 0 P .any ops Qc fuel listed a w:=by
 have hbits:∀ (D:Nat → Bool),zsP ops.toList D → ∀ i j,((znT [] ops.toList).getD i 0).testBit j = true → D i = true → D j = true:=fun D hD =>
  znS hD ops.toList [] (fun k => by simp) (fun i j hi => by simp at hi)
 have hdone:∀ (D0:Nat → Bool) (stM:St) (es:List PE) (Lf:Nat → Nat) (base:Nat) (listed:Array Bool) κ ρ τ a w,zuN fl P Φ K ops.toList D0 stM es Lf base m0 → listed.size = ops.size → (∀ j,j < ops.size → Dof listed j = true) →
   (∀ j,es.length ≤ j → Dof listed j = false) →
   Rel X w0 m0 κ ρ τ (zbh (fun j => Dof listed j && !D0 j) 0 ops.toList es stM) a w → Ext m0 κ0 ρ0 τ0 mem0 κ ρ τ (zbh (fun j => Dof listed j && !D0 j) 0 ops.toList es stM).mem → Qc .normal a w:=by
  intro D0 stM es Lf base listed κ ρ τ a w hph hs hall hm hR hE
  have hl:es.length = ops.size:=by
   have h1:=hph.le
   simp only [Array.length_toList] at h1
   by_cases h2:es.length < ops.size
   ·have:=hall _ h2
    rw [hm _ (czf _)] at this; cases this
   ·omega
  have e:zbh (fun j => Dof listed j && !D0 j) 0 ops.toList es stM = zbh (fun j => !D0 j) 0 ops.toList es stM:=zdp _ _ _ _ (fun j _ hj => by rw [hall j (by omega)]; rfl)
  rw [e] at hR hE
  obtain ⟨T,hT,hK | ⟨o,_,_,ho,_⟩⟩:=hph.fin
  ·exact hfin _ _ _ _ _ _ (hR.congr hT) (by rw [← zia hT.mem hT.len]; exact hE) hK.2
  ·rw [hl,czB (by simp)] at ho; cases ho
 have hready:∀ (listed:Array Bool),listed.size = ops.size → Region.ready .any ops listed = [] → ∀ j,j < ops.size → Dof listed j = true:=by
  intro listed hs hr j
  induction j using Nat.strongRecOn with
  | _ j ih =>
   intro hj
   cases hD:Dof listed j with
   | true => rfl
   | false =>
    exfalso
    have hmem:j ∈ Region.ready .any ops listed:=by
     rw [mem_ready]
     refine ⟨?_,ops[j],by simp [hj],fun e he hb => ?_⟩
     ·have:j < listed.size:=by omega
      unfold Dof at hD
      simp only [Array.getD,this,dite_true] at hD ⊢
      exact hD
     ·have hlt:=(zgm hok (i:=j) (oi:=ops[j]) (by simp [hj])).1 e he hb
      exact ih e.on hlt (by omega)
    rw [hr] at hmem
    cases hmem
 intro fuel
 induction fuel with
 | zero =>
  intro D0 stM es Lf base listed κ ρ τ a w hph hs hu hc hD0 hm hR hE hρ
  have hall:=zjh ops.size (by omega:zeu (Dof listed) ops.size = 0)
  refine ⟨?_,hdone D0 stM es Lf base listed κ ρ τ a w hph hs hall hm hR hE⟩
  apply List.eq_nil_iff_forall_not_mem.2
  intro j hj
  obtain ⟨h1,o,h2,_⟩:=mem_ready.1 hj
  have hjl:j < ops.size:=by
   by_cases hl:j < ops.size
   ·exact hl
   ·rw [Array.getElem?_eq_none (czE hl)] at h2; cases h2
  have h3:=hall j hjl
  unfold Dof at h3
  have:j < listed.size:=by omega
  simp only [Array.getD,this,dite_true] at h1 h3
  rw [h3] at h1
  cases h1
 | succ fuel ih =>
  intro D0 stM es Lf base listed κ ρ τ a w hph hs hu hc hD0 hm hR hE hρ
  refine ⟨fun hr => hdone D0 stM es Lf base listed κ ρ τ a w hph hs (hready listed hs hr) hm hR hE,fun i hi => ?_⟩
  obtain ⟨h1,oi,hoi,hdeps⟩:=mem_ready.1 hi
  have hil:i < ops.size:=by
   by_cases hl:i < ops.size
   ·exact hl
   ·rw [Array.getElem?_eq_none (czE hl)] at hoi; cases hoi
  have hDi:Dof listed i = false:=by
   unfold Dof
   have:i < listed.size:=by omega
   simp only [Array.getD,this,dite_true] at h1 ⊢
   exact h1
  have hD0i:D0 i = false:=by
   cases h:D0 i with
   | false => rfl
   | true => rw [hD0 i h] at hDi; cases hDi
  have hoi':ops.toList[i]? = some oi:=by rw [Array.getElem?_toList]; exact hoi
  have hset:=Dof_set (listed:=listed) (i:=i) (by omega)
  have hcl:zsP ops.toList (zdK (Dof listed) i):=by
   intro j o hj hDj f hf hb
   unfold zdK at hDj ⊢
   by_cases e:j = i
   ·subst e
    rw [hoi'] at hj
    cases hj
    split
    ·rfl
    ·exact hdeps f hf hb
   ·rw [if_neg e] at hDj
    split
    ·rfl
    ·exact hc j o hj hDj f hf hb
  have hbefore:∀ j,j < i → Dof listed j = false → ((znT [] ops.toList).getD i 0).testBit j = false:=by
   intro j hj hDj
   cases hb:((znT [] ops.toList).getD i 0).testBit j with
   | false => rfl
   | true =>
    have:=hbits _ hcl i j hb (by simp [zdK])
    unfold zdK at this
    rw [if_neg (by omega),hDj] at this
    cases this
  have hbehind:∀ j,Dof listed j = true → ((znT [] ops.toList).getD j 0).testBit i = false:=by
   intro j hDj
   cases hb:((znT [] ops.toList).getD j 0).testBit i with
   | false => rfl
   | true =>
    have:=hbits _ hc j i hb hDj
    rw [hDi] at this
    cases this
  have hpb:∀ j oj,j < i → ops.toList[j]? = some oj → Dof listed j = false → _:=fun j oj hj hoj hDj => zg1 ((zgm hok hoi').2 j oj hj hoj) (hbefore j hj hDj)
  have hpa:∀ j oj,i < j → ops.toList[j]? = some oj → Dof listed j = true → _:=fun j oj hj hoj hDj => zg1 ((zgm hok hoj).2 i oi hj hoi') (hbehind j hDj)
  have hlenR:∀ D,(zbh D 0 ops.toList es stM).mem.length = stM.mem.length:=fun D => zrw _ _ _ _
  have hnR:∀ D,(zbh D 0 ops.toList es stM).n = stM.n:=fun D => (zda _ _ _ _).1
  have hLle:∀ i j,i ≤ j → j ≤ es.length → Lf i ≤ Lf j:=by
   intro i j hij
   induction j with
   | zero =>
        intro _; obtain rfl:i = 0:=by omega
        exact czf _
   | succ j ih =>
    intro hj
    by_cases e:i = j + 1
    ·subst e; exact czf _
    ·exact Nat.le_trans (ih (by omega) (by omega)) (hph.mono j (by omega))
  have hstepj:∀ j oj ej,ops.toList[j]? = some oj → es[j]? = some ej → D0 j = false → ∀ l ob,ej.eff = some (l,ob) → zgk (zep ops.toList) oj = true ∧ l < Lf (j + 1) ∧ (zfU (zep ops.toList) oj = true → Lf j ≤ l) ∧
    ((zev oj.op = true) ∨ zdq (zaa (zha (fl.testBit 200) stM.mem) l) = false):=by
   intro j oj ej hoj hej hD0j l ob hl
   have hjm:j < es.length:=by
    by_cases hl:j < es.length
    ·exact hl
    ·rw [czB (czE hl)] at hej; cases hej
   obtain ⟨e',p',k1,k2,k3,k4,k5,k6⟩:=hph.plan j oj hoj hjm hD0j
   rw [hej] at k1
   cases k1
   obtain ⟨_,_,q⟩:=zg0 (zff _ _) k2 k3 k5
   obtain ⟨q1,q2,q3,q4⟩:=q l ob hl
   refine ⟨q1,q2,q3,?_⟩
   rcases q4 with ⟨q4 | q4,_⟩ | q
   ·exact .inl q4
   ·exact .inr (by rw [q4]; rfl)
   ·refine .inr ?_
    cases hd':zdq (zaa (zha (fl.testBit 200) stM.mem) l) with
    | false => rfl
    | true =>
     have hd2:=hd'
     rw [zjS (fun e => by rw [e] at hd'; cases hd')] at hd2
     rw [k6 l hd2] at q; cases q
  have hget? : ∀ j,j < ops.toList.length → ∃ oj,ops.toList[j]? = some oj:=fun j hj => ⟨_,czw hj⟩
  refine (?_:wpOpIn (Fw rd) 0 P ops Qc i (wpAnyIn (Fw rd) 0 P .any ops Qc fuel (listed.setIfInBounds i true)) a w)
  unfold wpOpIn
  rw [hoi]
  by_cases him:i < es.length
  case neg =>
   obtain ⟨T,hT,hK | ⟨oc,free,rfl,hoc,hbig,heff⟩⟩:=hph.fin
   ·have:=hK.1
    simp at this; omega
   obtain ⟨hgo,hopc,hfr,hbe⟩:=zlj hbig hoc
   obtain rfl:i = es.length:=by
    by_cases h:i = es.length
    ·exact h
    ·have hb:=hbe i (by omega) (by simpa using hil)
     have:=hbits _ hcl i es.length hb (by simp [zdK])
     unfold zdK at this
     rw [if_neg (by omega),hm _ (czf _)] at this
     cases this
   rw [hoi'] at hoc
   cases hoc
   have hfree:∀ j,j < es.length → Dof listed j = false → ((znT [] ops.toList).getD es.length 0).testBit j = false:=fun j hj hDj => hbefore j hj hDj
   have hmemT:(zbh (fun j => Dof listed j && !D0 j) 0 ops.toList es stM).mem = T.mem:=by
    have hmm:(zbh (fun j => !D0 j) 0 ops.toList es stM).mem = T.mem:=zia hT.mem hT.len
    rw [← hmm]
    refine zia (fun l => ?_) (by rw [hlenR,hlenR])
    refine zeo _ _ _ (fun j ej ob hjl hej hob => ?_) rfl rfl
    simp only [Nat.zero_add]
    obtain ⟨oj,hoj⟩:=hget? j hjl
    cases hD0j:D0 j with
    | true => simp
    | false =>
     cases hDj:Dof listed j with
     | true => rfl
     | false =>
      exfalso
      have hjm:j < es.length:=by
       by_cases hl:j < es.length
       ·exact hl
       ·rw [czB (czE hl)] at hej; cases hej
      have h4:=(hstepj j oj ej hoj hej hD0j l ob hob).1
      have:=((hfr j hjm (hfree j hjm hDj)).2 oj hoj).1
      rw [h4] at this; cases this
   have hslot:∀ s,s ∈ zgd (ops.toList.map (·.dst)) oi → (zbh (fun j => Dof listed j && !D0 j) 0 ops.toList es stM).get s = T.get s:=by
    intro s hs'
    rw [← hT.get s]
    refine zhp _ _ _ (fun j oj hjl hoj hdj => ?_) rfl
    simp only [Nat.zero_add]
    cases hDj:Dof listed j with
    | true => simp
    | false => exact absurd hs' (zd9 (hpb j oj hjl hoj hDj).1 hdj)
   have hev:∀ x,x ∈ oi.op.operands.toList → evT (zbh (fun j => Dof listed j && !D0 j) 0 ops.toList es stM).tm x = evT T.tm x:=fun x hx => zhO fun t ht => by
    subst ht
    exact hslot t (by unfold zgd zjC; simp only [czv]; left; exact List.mem_filterMap.2 ⟨_,hx,rfl⟩)
   have hw:Region.wanted oi (yielded ops a.tmps) = true:=by
    have:=zfw (ops:=ops) (o:=oi) (g:=none) hR (by unfold zdQ; rw [hgo])
    simpa using this
   dsimp only
   rw [hw]
   simp only [if_true]
   refine (big_call hR hopc heff hev hmemT (by rw [hnR,← hT.n,hnR]) fun r mem' x κ' ρ' τ' w' hlen hR' hE' hKb => ?_).2
   have hml:stM.mem.length ≤ mem'.length:=by rw [hlenR] at hlen; exact hlen
   obtain ⟨es',Lf',hph',hes'⟩:=ztu hok hph hoi' hbig hT hD0 (fun j hj => hm j hj) hfree (fun j oj ej hoj hej hD0j l ob hl => (hstepj j oj ej hoj hej hD0j l ob hl).1)
    (by have:=hR.prot; rw [hlenR] at this; omega) hKb
   have hk0:∀ (os:List Oper) (k:Nat) (S:St),zbh (fun j => Dof (listed.setIfInBounds es.length true) j && !zdK (Dof listed) es.length j) k os es' S = S:=fun os k S =>
    zdV _ _ _ _ fun j _ => by rw [hset]; simp
   obtain ⟨f1,f2⟩:=hR'.extend (zbI (zep ops.toList) (ops.toList.drop (es.length + 1)))
   refine ih (zdK (Dof listed) es.length) _ es' Lf' mem'.length _ κ' ρ' τ' _ w' hph' (by simpa using hs) ?_ (by rw [hset]; exact hcl) (fun j hj => by rw [hset]; exact hj) (fun j hj => ?_) ?_ ?_ ?_
   ·rw [hset]
    have:=zh0 hDi ops.size hil
    omega
   ·rw [hset]
    unfold zdK
    rw [if_neg (by omega)]
    exact hm j (by omega)
   ·rw [hk0]; exact f1
   ·rw [hk0]; exact (hE.trans hE').trans f2
   ·rw [hk0]
    intro l hl _
    exact hR'.mem.dom l hl
  obtain ⟨e,p,hei,hpl,hp,hd,hdeadP,hcells⟩:=hph.plan i oi hoi' him hD0i
  have hstep:=zg0 (zff _ _) hpl hp hdeadP
  refine zmY (M:=zha (fl.testBit 200) stM.mem) (L:=Lf i) (L':=Lf (i + 1)) (base:=base) (pre:=zbh (fun j => decide (j < i) && !D0 j) 0 ops.toList es stM) hΦ hR (fun q1 q2 => zff _ _ ⟨q1,q2⟩) hpl hp (by rw [hnR]; exact hd) ?_ ?_ ?_ ?_ (by rw [zeQ]; exact hlenR _)
   (hdeadP _ (czf _)) (Nat.le_trans hph.lo (hLle 0 i (Nat.zero_le _) (by omega))) hph.prot hρ ?_
  ·intro t ht
   refine zhp _ _ _ (fun j oj hjl hoj hdj => ?_) rfl
   simp only [Nat.zero_add]
   cases hD0j:D0 j with
   | true => simp
   | false =>
    simp only [Bool.not_false,Bool.and_true]
    rcases Nat.lt_trichotomy j i with hlt | rfl | hgt
    ·cases hDj:Dof listed j with
     | true => simp [hlt]
     | false => exact absurd ht (zd9 (hpb j oj hlt hoj hDj).1 hdj)
    ·rw [hDi]; simp
    ·cases hDj:Dof listed j with
     | false => simp; omega
     | true => exact absurd ht (zd9 (hpa j oj hgt hoj hDj).2.1 hdj)
  ·intro hrd
   cases hfi:fl.testBit i with
   | true =>
    right
    rcases hph.free with hz | hz
    ·rw [hz] at hfi; simp at hfi
    ·obtain ⟨t,x,l0,q1,q2,q3⟩:=hz i oi hoi' (by simpa using hfi) hD0i
     refine ⟨t,x,q1,fun l hl hnd => ?_⟩
     rw [q2] at hl
     cases hl
     rw [zjS hnd]
     have e0:stM = zbh (fun _ => false) 0 ops.toList es stM:=(ze7 _ _ _ _ (fun _ _ => rfl)).symm
     conv => rhs; rw [e0]
     refine zeo _ _ _ (fun j ej ob hjl hej hob => ?_) rfl rfl
     rcases q3 j ej _ ob hej hob with q3 | q3
     ·exact absurd rfl q3
     ·simp only [Nat.zero_add]
      cases hDj:Dof listed j with
      | false => rfl
      | true =>
       have:=hbits _ hc j i q3 hDj
       rw [hDi] at this; cases this
   | false =>
   left
   intro l hl
   have hrd:zht fl i oi.op = true:=by unfold zht; rw [hrd,hfi]; rfl
   rw [zjS (fun e => by rw [e] at hl; cases hl)]
   have e0:stM = zbh (fun _ => false) 0 ops.toList es stM:=(ze7 _ _ _ _ (fun _ _ => rfl)).symm
   conv => rhs; rw [e0]
   refine zeo _ _ _ (fun j ej ob hjl hej hob => ?_) rfl rfl
   simp only [Nat.zero_add]
   obtain ⟨oj,hoj⟩:=hget? j hjl
   cases hD0j:D0 j with
   | true => simp
   | false =>
    simp only [Bool.not_false,Bool.and_true]
    obtain ⟨_,_,_,h4⟩:=hstepj j oj ej hoj hej hD0j l ob hob
    rcases h4 with h4 | h4
    ·rcases Nat.lt_trichotomy j i with hlt | rfl | hgt
     ·exact absurd ⟨h4,hrd⟩ (zmZ ((zgm hok hoi').2 j oj hlt hoj))
     ·exact hDi
     ·cases hDj:Dof listed j with
      | false => rfl
      | true => exact absurd ⟨h4,hrd⟩ (hpa j oj hgt hoj hDj).2.2.1
    ·rw [h4] at hl; cases hl
  ·intro he hnw l
   refine zeo _ _ _ (fun j ej ob hjl hej hob => ?_) rfl rfl
   simp only [Nat.zero_add]
   obtain ⟨oj,hoj⟩:=hget? j hjl
   cases hD0j:D0 j with
   | true => simp
   | false =>
    simp only [Bool.not_false,Bool.and_true]
    obtain ⟨h4,_⟩:=hstepj j oj ej hoj hej hD0j l ob hob
    rcases Nat.lt_trichotomy j i with hlt | rfl | hgt
    ·cases hDj:Dof listed j with
     | true => simp [hlt]
     | false => exact absurd ⟨he,h4,fun q => by rw [hnw] at q; cases q.1⟩ (hpb j oj hlt hoj hDj).2.2.2
    ·rw [hDi]; simp
    ·cases hDj:Dof listed j with
     | false => simp; omega
     | true => exact absurd ⟨h4,he,fun q => by rw [hnw] at q; cases q.2⟩ (hpa j oj hgt hoj hDj).2.2.2
  ·intro hnw hne
   have hpre:=hdeadP (Lf i) (czf _)
   rw [← hpre]
   have heff:zgk (zep ops.toList) oi = true:=newB_eff hnw
   refine zeo _ _ _ (fun j ej ob hjl hej hob => ?_) rfl rfl
   simp only [Nat.zero_add]
   obtain ⟨oj,hoj⟩:=hget? j hjl
   cases hD0j:D0 j with
   | true => simp
   | false =>
    simp only [Bool.not_false,Bool.and_true]
    obtain ⟨h4,h5,h6,_⟩:=hstepj j oj ej hoj hej hD0j _ ob hob
    rcases Nat.lt_trichotomy j i with hlt | rfl | hgt
    ·have:=hLle (j + 1) i hlt (by omega)
     omega
    ·rw [hDi]; simp
    ·cases hDj:Dof listed j with
     | false => simp; omega
     | true =>
      exfalso
      have h7:=(hpa j oj hgt hoj hDj).2.2.2
      have h8:zfU (zep ops.toList) oj = true:=by
       cases h9:zfU (zep ops.toList) oj with
       | true => rfl
       | false => exact absurd ⟨h4,heff,fun q => by rw [h9] at q; cases q.1⟩ h7
      have:=h6 h8
      have hjm:j < es.length:=by
       by_cases hl:j < es.length
       ·exact hl
       ·rw [czB (czE hl)] at hej; cases hej
      have:=hLle (i + 1) j hgt (by omega)
      have:=hstep.2.1 hnw hne
      omega
  ·intro κ' ρ' τ' a' w' hR' hE' hρ'
   have haddE:(fun j => zdK (Dof listed) i j && !D0 j) = zdK (fun j => Dof listed j && !D0 j) i:=by
    funext j
    unfold zdK
    by_cases e:j = i
    ·subst e; simp [hD0i]
    ·simp [e]
   have hadd:Eqv (zbh (zdK (fun j => Dof listed j && !D0 j) i) 0 ops.toList es stM) (zbM oi e (zbh (fun j => Dof listed j && !D0 j) 0 ops.toList es stM)):=by
    refine zrx (by rw [hDi]; rfl) _ _ _ _ oi e (Nat.zero_le _) (by simpa using hoi') (by simpa using hei) (fun j oj ej hoj hej hij hDj => ?_)
    simp only [Nat.zero_add,czl,Bool.not_eq_true'] at hij hDj
    have hpj:=hpa j oj hij hoj hDj.1
    refine ⟨fun s hs hs' => ?_,fun l ob l' ob' hl hl' hll => ?_⟩
    ·have:=zd9 hpj.1 hs
     apply this
     unfold zgd
     rw [hs']
     simp
    ·subst hll
     obtain ⟨k1,k2,_⟩:=hstepj i oi e hoi' hei hD0i l ob hl
     obtain ⟨q1,_,q3,_⟩:=hstepj j oj ej hoj hej hDj.2 l ob' hl'
     have h8:zfU (zep ops.toList) oj = true:=by
      cases h9:zfU (zep ops.toList) oj with
      | true => rfl
      | false => exact absurd ⟨q1,k1,fun q => by rw [h9] at q; cases q.1⟩ hpj.2.2.2
     have:=q3 h8
     have hjm:j < es.length:=by
      by_cases hl:j < es.length
      ·exact hl
      ·rw [czB (czE hl)] at hej; cases hej
     have:=hLle (i + 1) j hij (by omega)
     omega
   have hmem:(zbh (zdK (fun j => Dof listed j && !D0 j) i) 0 ops.toList es stM).mem = (zbM oi e (zbh (fun j => Dof listed j && !D0 j) 0 ops.toList es stM)).mem:=zia hadd.mem hadd.len
   refine ih D0 stM es Lf base (listed.setIfInBounds i true) κ' ρ' τ' a' w' hph (by simpa using hs) ?_ (by rw [hset]; exact hcl) (fun j hj => ?_) (fun j hj => ?_) (by rw [hset,haddE]; exact hR'.congr hadd.symm) (by rw [hset,haddE,hmem]; exact hE.trans hE') (by rw [hset,haddE,hmem]; exact hρ')
   ·rw [hset]
    have:=zh0 hDi ops.size hil
    omega
   ·rw [hset]; unfold zdK; split
    ·rfl
    ·exact hD0 j hj
   ·rw [hset]; unfold zdK
    rw [if_neg (by omega)]
    exact hm j hj
theorem Rel.drew {κ:Kn} {ρ:Lc} {τ:Tc} {st:St} {a:Act} {w:World} (h:Rel X w0 m0 κ ρ τ st a w):Rel X w0 m0 κ ρ τ st a { w with drawn:=w.drawn + 1 } :=
 ⟨h.defers,h.size,h.tm,h.tk,⟨fun l => by
   have:=h.mem.obj l
   revert this
   cases zaa st.mem l <;> exact id,h.mem.inj,⟨h.mem.know.c,h.mem.know.m⟩,h.mem.dom,h.mem.toks⟩,⟨h.frm.os,h.frm.tape,h.frm.output,h.frm.size,h.frm.block⟩,h.xlt,h.prot,h.prm,h.kx⟩
theorem zt3 {id:Nat} {ops:Array Oper} {Q:QA} {st:St} (hm:P.follows .mixedOrders = true) (hΦ:zaz P Φ) (hok:zaj 0 ops.toList = true)
  (h:zae P Φ ops.toList (Q .normal) st):AWp P (.region id ops true) Q st:=by
 intro rd _ X w0 m0 κ ρ τ a w hR
 refine wpIn_region_any hm ?_
 unfold zae at h
 obtain ⟨es,h1,h2,h3⟩:=zjq _ _ _ _ h
 obtain ⟨e1,e2⟩:=hR.drew.extend (zbI (zep ops.toList) ops.toList)
 have hdd:∀ l,st.mem.length ≤ l → zaa (st.mem ++ List.replicate (zbI (zep ops.toList) ops.toList) AObj.dead) l = .dead:=fun l hl => by
  unfold zaa
  simp only [List.getD]
  rw [czj hl,List.getElem?_replicate]
  split <;> rfl
 obtain ⟨Lf,g0,g1,g2⟩:=zi4 (fun o => zff ops.toList o) _ _ _ _ h2 hdd
 have hl0:∀ j,Dof (Array.replicate ops.size false) j = false:=fun j => by
  unfold Dof
  simp only [czo,Array.getElem?_replicate]
  split <;> rfl
 have hun:∀ D n,zeu D n ≤ n:=by
  intro D n
  induction n with
  | zero => exact czf _
  | succ n ih => unfold zeu; split <;> omega
 have hr0:∀ S,zbh (fun j => Dof (Array.replicate ops.size false) j && !(fun _ => false) j) 0 ops.toList es S = S:=fun S =>
  zdV _ _ _ _ (fun j _ => by rw [hl0]; rfl)
 have hph:zuN 0 P Φ (Q .normal) ops.toList (fun _ => false) { st with mem:=st.mem ++ List.replicate (zbI (zep ops.toList) ops.toList) AObj.dead } es Lf st.mem.length m0:=by
  refine ⟨h1,by omega,hR.prot,g1,fun i o hio hil _ => ?_,.inl rfl,?_⟩
  ·have:=g2 i o hio hil
   simpa only [Bool.not_false,Bool.and_true,ztO] using this
  ·refine ⟨_,Eqv.refl _,?_⟩
   have e:zbh (fun _ => !false) 0 ops.toList es ({ st with mem:=st.mem ++ List.replicate (zbI (zep ops.toList) ops.toList) AObj.dead }:St) = zbh (fun _ => true) 0 ops.toList es { st with mem:=st.mem ++ List.replicate (zbI (zep ops.toList) ops.toList) AObj.dead }:=rfl
   rw [e]
   rcases h3 with h3 | ⟨o,rest,free,q1,q2,q3⟩
   ·exact .inl h3
   ·rw [Nat.zero_add] at q2 q3
    refine .inr ⟨o,free,rfl,?_,q2,?_⟩
    ·have:=congrArg (fun l => l[0]?) q1
     simp only [czQ,czD,Nat.add_zero] at this
     exact this
    ·have e:ops.toList.drop (es.length + 1) = rest:=by
      have:=congrArg List.tail q1
      rw [List.tail_drop] at this
      exact this
     rw [e]
     exact q3
 refine znX (K:=Q .normal) (κ0:=κ) (ρ0:=ρ) (τ0:=τ) (mem0:=st.mem) hΦ hok (fun κ' ρ' τ' st' a' w' q1 q2 q3 => ⟨κ',ρ',τ',st',q1,q2,q3⟩) ops.size (fun _ => false) _ es Lf st.mem.length _ κ ρ τ a _ hph (by simp) (hun _ _)
  (fun i o _ hD => by rw [hl0] at hD; cases hD) (fun j hj => by cases hj) (fun j _ => hl0 j) (by rw [hr0]; exact e1) (by rw [hr0]; exact e2) ?_
 rw [hr0]
 intro l hl _
 exact hR.mem.dom l hl
theorem zqd {fl id:Nat} {ops:Array Oper} {Q:QA} {st:St} (hm:P.follows .mixedOrders = true) (hΦ:zaz P Φ) (hok:zaj fl ops.toList = true)
  (h:zqe P Φ fl ops.toList (Q .normal) st):AWp P (.region id ops true) Q st:=by
 intro rd _ X w0 m0 κ ρ τ a w hR
 refine wpIn_region_any hm ?_
 have hex:(fl.testBit 399 = true → exOK fl ops.toList = true) ∧ vcFr P Φ ops.toList fl 0 (zha (fl.testBit 200) (st.mem ++ List.replicate (zbI (zep ops.toList) ops.toList) AObj.dead)) ops.toList st.mem.length [] [] (Q .normal) { st with mem:=st.mem ++ List.replicate (zbI (zep ops.toList) ops.toList) AObj.dead }:=by
  unfold zqe at h
  split at h
  ·exact ⟨fun _ => h.1,h.2⟩
  ·rename_i q
   exact ⟨fun q' => absurd q' q,h⟩
 obtain ⟨hex,h⟩:=hex
 obtain ⟨es,h1,h2,h3,Rs,Ws,f1,f2,f3⟩:=zmI _ _ _ _ _ _ h
 obtain ⟨e1,e2⟩:=hR.drew.extend (zbI (zep ops.toList) ops.toList)
 have hdd:∀ l,st.mem.length ≤ l → zaa (st.mem ++ List.replicate (zbI (zep ops.toList) ops.toList) AObj.dead) l = .dead:=fun l hl => by
  unfold zaa
  simp only [List.getD]
  rw [czj hl,List.getElem?_replicate]
  split <;> rfl
 obtain ⟨Lf,g0,g1,g2⟩:=zi4 (fun o => zff ops.toList o) _ _ _ _ h2 hdd
 have hl0:∀ j,Dof (Array.replicate ops.size false) j = false:=fun j => by
  unfold Dof
  simp only [czo,Array.getElem?_replicate]
  split <;> rfl
 have hun:∀ D n,zeu D n ≤ n:=by
  intro D n
  induction n with
  | zero => exact czf _
  | succ n ih => unfold zeu; split <;> omega
 have hr0:∀ S,zbh (fun j => Dof (Array.replicate ops.size false) j && !(fun _ => false) j) 0 ops.toList es S = S:=fun S =>
  zdV _ _ _ _ (fun j _ => by rw [hl0]; rfl)
 have hph:zuN fl P Φ (Q .normal) ops.toList (fun _ => false) { st with mem:=st.mem ++ List.replicate (zbI (zep ops.toList) ops.toList) AObj.dead } es Lf st.mem.length m0:=by
  refine ⟨by omega,by omega,hR.prot,g1,fun i o hio hil _ => ?_,.inr fun i o hio hb _ => ?_,?_⟩
  ·have:=g2 i o hio hil
   simpa only [Bool.not_false,Bool.and_true] using this
  ·obtain ⟨t,x,l,q1,q2,q3⟩:=f3 i o hio hb
   refine ⟨t,x,l,q1,by simpa only [Bool.not_false,Bool.and_true] using q2,fun j e l' ob hj he => ?_⟩
   have hjl:j < ops.toList.length:=by
    rw [← h1]
    exact (List.getElem?_eq_some_iff.1 hj).1
   rcases f2 j e l' ob hj he with h5 | h5
   ·right
    rw [Nat.zero_add,czl] at h5
    have h6:=hex h5.1
    unfold exOK at h6
    simp only [czG,List.mem_range,czI] at h6
    have h7:=(h6 j hjl).resolve_left (by rw [h5.2]; simp)
    have hil:i < ops.toList.length:=(List.getElem?_eq_some_iff.1 hio).1
    exact (h7 i hil).resolve_left (by rw [show fl.testBit i = true by simpa using hb]; simp)
   ·left
    intro hl
    subst hl
    unfold zus at f1
    rw [czG] at f1
    have h6:=f1 l' (by simpa using q3)
    simp at h6
    exact h6 h5
  ·exact ⟨_,Eqv.refl _,.inl ⟨h1,h3⟩⟩
 refine znX (K:=Q .normal) (κ0:=κ) (ρ0:=ρ) (τ0:=τ) (mem0:=st.mem) hΦ hok (fun κ' ρ' τ' st' a' w' q1 q2 q3 => ⟨κ',ρ',τ',st',q1,q2,q3⟩) ops.size (fun _ => false) _ es Lf st.mem.length _ κ ρ τ a _ hph (by simp) (hun _ _)
  (fun i o _ hD => by rw [hl0] at hD; cases hD) (fun j hj => by cases hj) (fun j _ => hl0 j) (by rw [hr0]; exact e1) (by rw [hr0]; exact e2) ?_
 rw [hr0]
 intro l hl _
 exact hR.mem.dom l hl
end
end Go.Fs
namespace Go.Fs
open Go.RowKit (Below)
section
variable {P:Program} {Φ:zaJ}
theorem lk_of {tm tm':List (Nat × AV)} (h:∀ q ∈ tm',q.2 = (lk tm q.1).strip) (i:Nat):lk tm' i = .undef ∨ lk tm' i = (lk tm i).strip:=by
 rcases zng tm' i with hq | ⟨q,h1,h2,h3⟩
 ·exact .inl hq
 ·right
  rw [← h3,h _ h1,h2]
theorem zjz {f:Operand} {ps:Array Tmp} {asg body:Code} {Q:QA} {st:St} (h:zhu P f ps asg body Q st):AWp P (.rangeFunc f ps asg body) Q st:=by
 intro rd hrd X w0 m0 κ ρ τ a w hr
 obtain rfl:rd = none:=by
  rcases hrd with h | h
  ·exact h
  ·cases h
 unfold zhu at h
 split at h
 ·rename_i g fst cap hf
  obtain ⟨hav,tm',R,htm,hcall,hend⟩:=h
  have rf:=(hr.ev f).un hav
  rw [hf] at rf
  obtain ⟨vs,ws,hfv,h1,h2,h3,h4⟩:=zk7 rf
  obtain ⟨p1,p2⟩:=hr.pushO (o:=.deferred) (ob:=.deferred (some [])) (d:=none) (v:=.undef) (x:=Go.undef) trivial (by simp)
   (fun _ hX => ⟨w.heap.size,by simp [zc6],hX,zbS _ _⟩) (fun _ _ _ e => by cases e) (.undef _) rfl
  have key:∀ fn:FuncId,∃ lp:Loop,lp = { state:=.ready,pending:=none,fn,tmps:=a.tmps,params:=ps,assign:=asg,body,defers:=w.heap.size }:=fun fn => ⟨_,rfl⟩
  have hsz1:({ w with heap:=w.heap.push (.deferred (some [])) }:World).heap.size = w.heap.size + 1:=by show (w.heap.push _).size = _; simp
  have hml:(st.mem ++ [AObj.deferred]).length = st.mem.length + 1:=by simp
  refine wpIn_rangeFunc fun fn _ => ?_
  obtain ⟨q1,q2⟩:=p1.pushO (o:=.loop .ready none tm' st.n ps asg body)
   (ob:=.loop { state:=.ready,pending:=none,fn,tmps:=a.tmps,params:=ps,assign:=asg,body,defers:=w.heap.size }) (d:=none) (v:=.undef) (x:=Go.undef) trivial (by simp)
   (fun hle hX => ⟨w.heap.size + 1,_,by
     show zc6 _ (st.mem ++ [AObj.deferred]).length _ (st.mem ++ [AObj.deferred]).length = _
     simp only [zc6,if_true]; exact congrArg some hsz1,by rw [← hsz1]; exact hX,by rw [← hsz1]; exact zbS _ _,⟨rfl,rfl,rfl,rfl,rfl,hr.size⟩,fun i => by
    rcases lk_of htm i with hq | hq
    ·rw [hq]; exact .undef _
    ·rw [hq]
     exact ((p1.tm i).mono (Kn.le_refl _) hle).strip⟩)
   (fun _ _ _ e => by cases e) (.undef _) rfl
  simp only [St.put,putT,Act.put,hsz1] at p1 q1
  have hmem1:(st.mem ++ [AObj.deferred]) ++ [AObj.loop .ready none tm' st.n ps asg body] = st.mem ++ [AObj.deferred,AObj.loop .ready none tm' st.n ps asg body]:=by simp
  rw [hmem1] at q1
  simp only [St.put,putT,Array.size_push] at q2
  rw [hmem1] at q2
  have hρL:zc6 (zc6 ρ st.mem.length w.heap.size) (st.mem ++ [AObj.deferred]).length (w.heap.size + 1) (st.mem.length + 1) = some (w.heap.size + 1):=by
   unfold zc6; rw [if_pos (by simp)]
  have hρM:zc6 (zc6 ρ st.mem.length w.heap.size) (st.mem ++ [AObj.deferred]).length (w.heap.size + 1) st.mem.length = some w.heap.size:=by
   unfold zc6; rw [if_neg (by simp),if_pos rfl]
  generalize hρ2:zc6 (zc6 ρ st.mem.length w.heap.size) (st.mem ++ [AObj.deferred]).length (w.heap.size + 1) = ρ2 at q1 q2 hρL hρM
  have q3:Rel X w0 m0 κ ρ2 τ { st with mem:=st.mem ++ [AObj.deferred,AObj.loop .ready none tm' st.n ps asg body],marks:=st.mem.length :: st.marks }
    { a with defers:={ target:=.collected w.heap.size,args:=#[] } :: a.defers } _ :=
   ⟨⟨w.heap.size,a.defers,hρM,rfl,q1.defers⟩,q1.size,q1.tm,q1.tk,q1.mem,q1.frm,q1.xlt,q1.prot,q1.prm,q1.kx⟩
  have hX2:∀ b,X b → b < ({ w with heap:=(w.heap.push (.deferred (some []))).push (.loop { state:=.ready,pending:=none,fn,tmps:=a.tmps,params:=ps,assign:=asg,body,defers:=w.heap.size }) }:World).heap.size:=fun b hb => by
   have:=q1.xlt b hb; have:=q1.frm.size; omega
  have hρle:ρ.le ρ2:=fun l b hb => by
   have hl:l < st.mem.length:=by
    by_cases hl:l < st.mem.length
    ·exact hl
    ·rw [hr.mem.dom l (by omega)] at hb; cases hb
   rw [← hρ2]
   unfold zc6
   rw [if_neg (by simp; omega),if_neg (by omega)]
   exact hb
  refine ⟨w.heap.size + 1,[{ target:=.collected w.heap.size,args:=#[] }],{ w with heap:=(w.heap.push (.deferred (some []))).push (.loop { state:=.ready,pending:=none,fn,tmps:=a.tmps,params:=ps,assign:=asg,body,defers:=w.heap.size }) },{ target:=.fn (.func g) ws,args:=vs ++ #[.func (.yield (w.heap.size + 1)) #[] #[]] },{ w with heap:=(w.heap.push (.deferred (some []))).push (.loop { state:=.ready,pending:=none,fn,tmps:=a.tmps,params:=ps,assign:=asg,body,defers:=w.heap.size }) },g,
   (vs ++ #[.func (.yield (w.heap.size + 1)) #[] #[]]) ++ ws,{ w with heap:=(w.heap.push (.deferred (some []))).push (.loop { state:=.ready,pending:=none,fn,tmps:=a.tmps,params:=ps,assign:=asg,body,defers:=w.heap.size }) },?_,?_,fun _ _ => trivial,?_,fun hd => by simp [Fw,Fence.wide] at hd,?_⟩
  ·simp [Fw,Instr.enterLoop,newObj,Sem.run]
   rfl
  ·simp only [resolve,rangeCall,hfv,Deferred.ofValue,Sem.run_pure]
   simp [Act.eval]
  ·simp only [invoke]
   exact zdu hcall.1
  ·have hcc:=hcall.2 X κ ρ2 τ _ ((vs ++ #[.func (.yield (w.heap.size + 1)) #[] #[]]) ++ ws) q1.mem hX2 (by simp [h1,h2]; omega) ?_
   ·have hc':CallsIn (Fw none) (0 - 1) P g _ _ _:=hcc
    refine hc'.mono ?_
    rintro e w3 ⟨x,κ',ρ',τ',mem',r,rfl,r1,r2,r3,r4,r5,r6,r7⟩
    have hl5:mem'.length = st.mem.length + 2:=by rw [r5]; simp
    obtain ⟨s1,s2⟩:=q3.called (d:=none) (x:=x) trivial r1 r2 r3.strip (TokOK.strip _) r4 (Nat.le_of_eq r5.symm) r6
    simp only [St.put,putT,Act.put] at s1
    have he:=hend r mem' r7 hl5
    unfold endA at he
    split at he
    ·rename_i s pend tm2 n2 ps2 asg2 body2 hob
     obtain ⟨hs,hpend⟩:=he
     have hlp:=r1.obj (st.mem.length + 1)
     rw [hob] at hlp
     obtain ⟨b,lp,t1,t2,t3,t4,t5⟩:=hlp
     obtain rfl:b = w.heap.size + 1:=by
      have:=r4.agree (st.mem.length + 1) _ (by simp) hρL
      rw [t1] at this
      exact czK this
     have hold:blk ρ' τ' (st.mem.length + 1) (zaa mem' (st.mem.length + 1)) = some (w.heap.size + 1):=by rw [hob]; exact t1
     have hkc:∀ off,κ' (w.heap.size + 1) off = none:=fun off => by
      cases hk:κ' (w.heap.size + 1) off with
      | none => rfl
      | some v =>
       have:=r1.know.c _ _ _ hk
       unfold World.cell? at this
       rw [t3] at this
       cases this
     have hkm:κ'.m (w.heap.size + 1) = none:=by
      cases hk:κ'.m (w.heap.size + 1) with
      | none => rfl
      | some v =>
       have:=r1.know.m _ _ hk
       rw [t3] at this
       cases this
     obtain ⟨u1,u2⟩:=s1.setO (l:=st.mem.length + 1) (b:=w.heap.size + 1) (ob:=.loop .exhausted pend tm2 n2 ps2 asg2 body2) (o:=.loop { lp with state:=.exhausted }) (by show _ < mem'.length; omega) hold t1
      (by show (∀ n sz,zaa mem' _ ≠ _) ∧ ∀ es sz s,zaa mem' _ ≠ _; rw [hob]; simp) (by simp) hkm hkc t2
      ⟨_,_,t1,t2,zdI t3,⟨rfl,t4.2.1,t4.2.2.1,t4.2.2.2.1,t4.2.2.2.2.1,t4.2.2.2.2.2⟩,t5⟩
     have hext:=((p2.trans q2).trans s2).trans u2
     refine ⟨pend,{ w3 with heap:=w3.heap.setIfInBounds (w.heap.size + 1) (.loop { lp with state:=.exhausted }) },?_,?_⟩
     ·have:(lp.state == LoopState.busy) = false:=by rw [t4.1]; exact hs
      simp [Instr.endLoop,Instr.getLoop,getObj,setObj,Sem.run,t3,t4.2.1]
      intro hq
      rw [hq] at this
      cases this
     ·unfold zpF at hpend
      split at hpend
      ·exact ⟨κ',ρ',τ',_,u1,hext,hpend⟩
      ·exact wpIn_ret ⟨κ',ρ',τ',_,u1,hext,hpend⟩
      ·exact wpIn_exit ⟨κ',ρ',τ',_,u1,hext,hpend⟩
      ·exact hpend.elim
    ·exact he.elim
   ·intro i hi
    have hR:=RepL.append (RepL.append (κ:=κ) (ρ:=ρ2) (cs:=fst) (ds:=[.yld (st.mem.length + 1)]) ⟨h1,fun i hi => (h3 i hi).mono (Kn.le_refl _) hρle⟩ (us:=#[.func (.yield (w.heap.size + 1)) #[] #[]])
     ⟨rfl,fun i hi => by
               obtain rfl:i = 0:=by simpa using hi
               exact .yld _ _ hρL⟩) (ds:=cap) (us:=ws) ⟨h2,fun i hi => (h4 i hi).mono (Kn.le_refl _) hρle⟩
    exact hR.2 i hi
 ·exact h.elim
theorem zdS {b:Frame} {a:Act} {k:List Item} {cs:List Frame} {w:World} {c:Code}:step P (lone (b.atR a (.code (.scope c) :: k)) cs w) = .next (lone (b.atR a (.code c :: .inScope c :: k)) cs w) :=
 step_lone_go (by simp [stepG,stepG.exec,Frame.atR])
theorem zlu {b:Frame} {a:Act} {k:List Item} {cs:List Frame} {w:World} {c:Code}:step P (lone (b.atR a (.inScope c :: k)) cs w) = .next (lone (b.atR a k) cs w) :=
 step_lone_go (by simp [stepG,stepG.exec,Frame.atR])
theorem zsQ {F:Fence} {n:Nat} {c:Code} {Q:Exit → Act → World → Prop} {a:Act} {w:World} (h:c.wpIn F n P (fun e a w => match e with | .goto _ => False | e => Q e a w) a w):(Code.scope c).wpIn F n P Q a w:=by
 intro b k cs hro hb hr
 have h0:(lone (b.atR a (.code (.scope c) :: k)) cs w).fenced P F:=fenced_calm hb hr rfl
 obtain ⟨e,a₁,w₁,hq,harr⟩:=h b (.inScope c :: k) cs hro hb hr
 cases e with
 | normal => exact ⟨.normal,a₁,w₁,hq,.head h0 zdS (StepsIn.trans harr (.one (fenced_calm hb hr rfl) zlu))⟩
 | exit id =>
  have hx:exitTo id (.inScope c :: k) = exitTo id k:=by simp [exitTo]
  exact ⟨.exit id,a₁,w₁,hq,fun k' hk => .head h0 zdS (harr.1 k' (by rw [hx]; exact hk)),
   fun hr' hk => let ⟨k₁,h1,h2⟩:=harr.2 hr' (by rw [hx]; exact hk); ⟨k₁,h1,.head h0 zdS h2⟩⟩
 | goto l => exact hq.elim
 | ret => exact ⟨_,a₁,w₁,hq,.of_steps (.one h0 zdS) harr⟩
 | panic ch => exact ⟨_,a₁,w₁,hq,.of_steps (.one h0 zdS) harr⟩
 | outgrown => exact ⟨_,a₁,w₁,hq,.of_steps (.one h0 zdS) harr⟩
theorem noL {rd:Option Nat} {x y:Bool} (h:rd = none ∨ (x && y) = true):rd = none ∨ x = true:=h.imp id (fun h => by simp at h; exact h.1)
theorem noR {rd:Option Nat} {x y:Bool} (h:rd = none ∨ (x && y) = true):rd = none ∨ y = true:=h.imp id (fun h => by simp at h; exact h.2)
theorem zcO (hmx:P.follows .mixedOrders = true) (hΦ:zaz P Φ):∀ (c:Code) (Q:QA) (st:St),vc P Φ c Q st → AWp P c Q st
 | .skip,Q,st,h => fun rd hrd X w0 m0 κ ρ τ a w hr => wpIn_skip ⟨κ,ρ,τ,st,hr,Ext.refl _ _ _ _ _,h⟩
 | .label l,Q,st,h => fun rd hrd X w0 m0 κ ρ τ a w hr => wpIn_label ⟨κ,ρ,τ,st,hr,Ext.refl _ _ _ _ _,h⟩
 | .exit id,Q,st,h => fun rd hrd X w0 m0 κ ρ τ a w hr => wpIn_exit ⟨κ,ρ,τ,st,hr,Ext.refl _ _ _ _ _,h⟩
 | .ret,Q,st,h => fun rd hrd X w0 m0 κ ρ τ a w hr => wpIn_ret ⟨κ,ρ,τ,st,hr,Ext.refl _ _ _ _ _,h⟩
 | .seq x y,Q,st,h => by
  intro rd hrd X w0 m0 κ ρ τ a w hr
  refine wpIn_seq (wpIn_mono (zcO hmx hΦ x _ st h rd (noL hrd) X w0 m0 κ ρ τ a w hr) ?_)
  rintro e a' w' ⟨κ',ρ',τ',st',g1,g2,g3⟩
  cases e with
  | normal =>
   refine wpIn_mono (zcO hmx hΦ y _ st' g3 rd (noR hrd) X w0 m0 κ' ρ' τ' a' w' g1) ?_
   rintro e a'' w'' ⟨κ'',ρ'',τ'',st'',k1,k2,k3⟩
   exact ⟨κ'',ρ'',τ'',st'',k1,g2.trans k2,k3⟩
  | _ => exact ⟨κ',ρ',τ',st',g1,g2,g3⟩
 | .cond c x y,Q,st,h => by
  intro rd hrd X w0 m0 κ ρ τ a w hr
  unfold vc at h
  split at h
  ·rename_i b hb
   obtain ⟨hav,ht,hf⟩:=h
   have he:=(hr.ev c).un hav
   rw [hb] at he
   exact wpIn_cond_split he.bool_inv (fun e => zcO hmx hΦ x _ st (ht e) rd (noL hrd) X w0 m0 κ ρ τ a w hr) (fun e => zcO hmx hΦ y _ st (hf e) rd (noR hrd) X w0 m0 κ ρ τ a w hr)
  ·exact h.elim
 | .block id c,Q,st,h => by
  intro rd hrd X w0 m0 κ ρ τ a w hr
  refine wpIn_block (wpIn_mono (zcO hmx hΦ c _ st h rd hrd X w0 m0 κ ρ τ a w hr) ?_)
  rintro e a' w' ⟨κ',ρ',τ',st',g1,g2,g3⟩
  cases e with
  | exit id' =>
   unfold Exit.inBlock
   unfold blkA at g3
   dsimp only at g3 ⊢
   split <;> rename_i hid
   ·rw [if_pos hid] at g3; exact ⟨κ',ρ',τ',st',g1,g2,g3⟩
   ·rw [if_neg hid] at g3; exact ⟨κ',ρ',τ',st',g1,g2,g3⟩
  | _ => exact ⟨κ',ρ',τ',st',g1,g2,g3⟩
 | .loop c,Q,st,h => by
  intro rd hrd X w0 m0 κ ρ τ a w hr
  obtain ⟨ts,β,S,Iv,μ,b0,hI0,hW0,hbody⟩:=h
  have key:∀ n b,Iv b → μ b ≤ n → ∀ κ1 ρ1 τ1 a1 w1,Rel X w0 m0 κ1 ρ1 τ1 (S b) a1 w1 → Ext m0 κ ρ τ st.mem κ1 ρ1 τ1 (S b).mem →
    Code.roundsIn (Fw rd) 0 P c (fun e a' w' => ∃ κ' ρ' τ' st',Rel X w0 m0 κ' ρ' τ' st' a' w' ∧ Ext m0 κ ρ τ st.mem κ' ρ' τ' st'.mem ∧ Q e st') (n + 1) a1 w1:=by
   intro n
   induction n with
   | zero =>
    intro b hI hμ κ1 ρ1 τ1 a1 w1 h1 he1
    rw [roundsIn_succ]
    refine wpIn_mono (zcO hmx hΦ c _ (S b) (hbody b hI) rd hrd X w0 m0 κ1 ρ1 τ1 a1 w1 h1) ?_
    rintro e a' w' ⟨κ',ρ',τ',st',g1,g2,g3⟩
    cases e with
    | normal => obtain ⟨b',_,hlt,_⟩:=g3; omega
    | _ => exact ⟨κ',ρ',τ',st',g1,he1.trans g2,g3⟩
   | succ n ih =>
    intro b hI hμ κ1 ρ1 τ1 a1 w1 h1 he1
    rw [roundsIn_succ]
    refine wpIn_mono (zcO hmx hΦ c _ (S b) (hbody b hI) rd hrd X w0 m0 κ1 ρ1 τ1 a1 w1 h1) ?_
    rintro e a' w' ⟨κ',ρ',τ',st',g1,g2,g3⟩
    cases e with
    | normal =>
     obtain ⟨b',hI',hlt,hW⟩:=g3
     obtain ⟨k1,k2⟩:=g1.weak hW
     exact ih b' hI' (by omega) κ' _ τ' a' w' k1 ((he1.trans g2).trans k2)
    | _ => exact ⟨κ',ρ',τ',st',g1,he1.trans g2,g3⟩
  obtain ⟨τ',k0,k3⟩:=hr.tokz ts
  obtain ⟨k1,k2⟩:=k0.weak hW0
  exact wpIn_loop_rounds (μ b0 + 1) (key (μ b0) b0 hI0 (czf _) κ _ τ' a w k1 (k3.trans k2))
 | .region id ops false,Q,st,h => by
  intro rd hrd X w0 m0 κ ρ τ a w hr
  refine wpIn_region ?_
  have:=zjg (rd:=rd) (Q:=fun e a' w' => ∃ κ' ρ' τ' st',Rel X w0 m0 κ' ρ' τ' st' a' w' ∧ Ext m0 κ ρ τ st.mem κ' ρ' τ' st'.mem ∧ Q e st') hΦ ops.toList 0 κ ρ τ st a w (by simp) hr h
   (fun κ' ρ' τ' st' a' w' g1 g2 g3 => ⟨κ',ρ',τ',st',g1,g2,g3⟩)
  rw [List.range_eq_range']
  simpa using this
 | .region id ops true,Q,st,h => by
  unfold vc at h
  split at h
  ·exact zt3 hmx hΦ h.1 h.2
  ·obtain ⟨fl,h1,h2⟩:=h
   exact zqd hmx hΦ h1 h2
 | .rangeFunc f ps asg body,Q,st,h => by
  intro rd hrd X w0 m0 κ ρ τ a w hr
  obtain ⟨ts,h⟩:=h
  obtain ⟨τ',k0,k3⟩:=hr.tokz ts
  refine wpIn_mono (zjz h rd hrd X w0 m0 κ ρ τ' a w k0) ?_
  rintro e a' w' ⟨κ',ρ',τ'',st'',g1,g2,g3⟩
  exact ⟨κ',ρ',τ'',st'',g1,k3.trans g2,g3⟩
 | .scope c,Q,st,h => by
  intro rd hrd X w0 m0 κ ρ τ a w hr
  refine zsQ (wpIn_mono (zcO hmx hΦ c _ st h rd hrd X w0 m0 κ ρ τ a w hr) ?_)
  rintro e a' w' ⟨κ',ρ',τ',st',g1,g2,g3⟩
  cases e with
  | goto l => exact g3.elim
  | _ => exact ⟨κ',ρ',τ',st',g1,g2,g3⟩
 | .goto l,Q,st,h => by unfold vc at h; exact h.elim
 | .refuse s,Q,st,h => by unfold vc at h; exact h.elim
end
end Go.Fs
