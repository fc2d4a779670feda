/- The texts A16, A17, A20, A21, A22, joined. -/
import Derived.Test.YtgfkmkkoligobaaGreatG2
import Derived.Laws.Cover3
import Derived.OrdersIn
set_option linter.all false
namespace Go.Fs
open Go.RowKit (Below)
section
variable {P:Program} {Φ:zay} {X:Nat → Prop} {w0:W0} {w w':World} {m0:Nat} {κ κ':Kn} {ρ:Lc} {τ:Tc} {st:St} {a:Act} {rd:Option Nat}
def Next (X:Nat → Prop) (w0:W0) (m0:Nat) (κ:Kn) (ρ:Lc) (τ:Tc) (st:St) (K:St → Prop) (next:Act → World → Prop):Prop :=
 ∀ κ' ρ' τ' st' a' w',Rel X w0 m0 κ' ρ' τ' st' a' w' → Ext m0 κ ρ τ st.mem κ' ρ' τ' st'.mem → K st' → next a' w'
theorem zbS {o:Oper} {nx:Go.Next} {w':World} (h:(execOp a.eval o).run P w = .ok nx w') (hn:∀ d,nx ≠ .defer d):∀ c,o.op ≠ .defer c:=by
 intro c hc
 unfold execOp at h
 rw [hc] at h
 simp only [Sem.run_bind] at h
 cases hr:(resolve a.eval c o.type).run P w with
 | ok d w1 =>
  rw [hr] at h
  simp at h
  exact hn _ h.1.symm
 | halt q w1 =>
  rw [hr] at h
  cases h
theorem zbt {o:Oper} {x:Value} {next:Act → World → Prop} {Q:Exit → Act → World → Prop} (h:(execOp a.eval o).run P w = .ok (.value x) w')
  (hn:next (a.put o.dst x) w'):o.wpIn (Fw rd) 0 P a w next Q:=by
 refine ⟨fun _ _ => trivial,?_⟩
 rw [Oper.semAt_eq _ _ _ (zbS h (by simp)),h]
 exact hn
theorem ze0 {o:Oper} {next:Act → World → Prop} {Q:Exit → Act → World → Prop} (h:(execOp a.eval o).run P w = .ok .skip w')
  (hn:next (a.put o.dst Go.undef) w'):o.wpIn (Fw rd) 0 P a w next Q:=by
 refine ⟨fun _ _ => trivial,?_⟩
 rw [Oper.semAt_eq _ _ _ (zbS h (by simp)),h]
 exact hn
theorem zdK {o:Oper} {g:FuncId} {vs:Array Value} {R:Ending → World → Prop} {next:Act → World → Prop} {Q:Exit → Act → World → Prop} (h:(execOp a.eval o).run P w = .ok (.enter g vs) w')
  (hc:CallsIn Fence.wide 0 P g vs w' R) (hR:∀ e w'',R e w'' → ∃ x,e = .returned x ∧ next (a.put o.dst x) w''):o.wpIn (Fw rd) 0 P a w next Q:=by
 refine ⟨fun _ _ => trivial,?_⟩
 rw [Oper.semAt_eq _ _ _ (zbS h (by simp)),h,Oper.uponIn_enter]
 refine ⟨fun hd => by simp [Fw,Fence.wide] at hd,?_⟩
 have hc':CallsIn (Fw rd) (0 - 1) P g vs w' R:=hc
 refine hc'.mono fun e w'' hr => ?_
 obtain ⟨x,rfl,hx⟩:=hR e w'' hr
 exact hx
theorem zix {o:Oper} {b:Nat} {f:FuncId} {tmps:Array Value} {asg body:Code} {R:Ending → World → Prop} {next:Act → World → Prop} {Q:Exit → Act → World → Prop} (h:(execOp a.eval o).run P w = .ok (.round b f tmps asg body) w')
  (hc:RoundIn Fence.wide 0 P b f tmps asg body w' R) (hR:∀ e w'',R e w'' → ∃ x,e = .returned x ∧ next (a.put o.dst x) w''):o.wpIn (Fw rd) 0 P a w next Q:=by
 refine ⟨fun _ _ => trivial,?_⟩
 rw [Oper.semAt_eq _ _ _ (zbS h (by simp)),h,Oper.uponIn_round]
 refine ⟨fun hd => by simp [Fw,Fence.wide] at hd,?_⟩
 have hc':RoundIn (Fw rd) (0 - 1) P b f tmps asg body w' R:=hc
 refine hc'.mono fun e w'' hr => ?_
 obtain ⟨x,rfl,hx⟩:=hR e w'' hr
 exact hx
theorem zcC {o:Oper} {f:Operand} {args:Array Operand} {ts:Array TypeId} {fn:Fn} {vs ws:Array Value} (ho:o.op = .call { callee:=.value f,args:=args,argTypes:=ts })
  (hf:a.eval f = .func fn vs ws):(execOp a.eval o).run P w = (invoke (.fn fn ws) (vs ++ args.map a.eval)).run P w:=by
 simp [execOp,ho,resolve,hf,Deferred.ofValue]
theorem zoZ (h:Rel X w0 m0 κ ρ τ st a w) {fst cap:List AV} {vs ws:Array Value} {args:Array Operand} (h1:vs.size = fst.length) (h2:ws.size = cap.length)
  (h3:∀ i,i < fst.length → Rep κ ρ (fst.getD i .undef) (vs.getD i Go.undef)) (h4:∀ i,i < cap.length → Rep κ ρ (cap.getD i .undef) (ws.getD i Go.undef))
  (hav:avsA st.tm args):((vs ++ args.map a.eval) ++ ws).size = (fst ++ zcv st.tm args ++ cap).length ∧
   ∀ i,i < (fst ++ zcv st.tm args ++ cap).length → Rep κ ρ ((fst ++ zcv st.tm args ++ cap).getD i .undef) (((vs ++ args.map a.eval) ++ ws).getD i Go.undef):=by
 have hm:RepL κ ρ (zcv st.tm args) (args.map a.eval):=by
  have:=ze7 (κ:=κ) (ρ:=ρ) (σ:=fun x => (evT st.tm x).un) (e:=a.eval) args (fun x hx => (h.ev x).un (zcI hav _ (czx.2 ⟨x,hx,rfl⟩)))
  exact this
 exact (RepL.append (RepL.append ⟨h1,h3⟩ hm) ⟨h2,h4⟩)
theorem zlC (h:Rel X w0 m0 κ ρ τ st a w) {fst cap:List AV} {vs ws:Array Value} {args:Array Operand} (h1:vs.size = fst.length) (h2:ws.size = cap.length)
  (h3:∀ i,i < fst.length → Rep κ ρ (fst.getD i .undef) (vs.getD i Go.undef)) (h4:∀ i,i < cap.length → Rep κ ρ (cap.getD i .undef) (ws.getD i Go.undef))
  (hav:avsA st.tm args):((vs ++ args.map a.eval) ++ ws).size = (fst.map AV.strip ++ zcv st.tm args ++ cap.map AV.strip).length ∧
   ∀ i,i < (fst.map AV.strip ++ zcv st.tm args ++ cap.map AV.strip).length → Rep κ ρ ((fst.map AV.strip ++ zcv st.tm args ++ cap.map AV.strip).getD i .undef) (((vs ++ args.map a.eval) ++ ws).getD i Go.undef) ∧
    TokOK τ st.mem ((fst.map AV.strip ++ zcv st.tm args ++ cap.map AV.strip).getD i .undef) (((vs ++ args.map a.eval) ++ ws).getD i Go.undef):=by
 have key:∀ {x y:List AV} {us zs:Array Value},(us.size = x.length ∧ ∀ i,i < x.length → Rep κ ρ (x.getD i .undef) (us.getD i Go.undef) ∧ TokOK τ st.mem (x.getD i .undef) (us.getD i Go.undef)) →
   (zs.size = y.length ∧ ∀ i,i < y.length → Rep κ ρ (y.getD i .undef) (zs.getD i Go.undef) ∧ TokOK τ st.mem (y.getD i .undef) (zs.getD i Go.undef)) →
   ((us ++ zs).size = (x ++ y).length ∧ ∀ i,i < (x ++ y).length → Rep κ ρ ((x ++ y).getD i .undef) ((us ++ zs).getD i Go.undef) ∧ TokOK τ st.mem ((x ++ y).getD i .undef) ((us ++ zs).getD i Go.undef)):=by
  rintro x y us zs ⟨p1,p2⟩ ⟨q1,q2⟩
  refine ⟨by simp [p1,q1],fun i hi => ?_⟩
  rw [zcf,zgr,p1]
  by_cases hx:i < x.length
  ·rw [if_pos hx,if_pos hx]; exact p2 i hx
  ·rw [if_neg hx,if_neg hx]; exact q2 _ (by simp at hi; omega)
 have hm:=ze7 (κ:=κ) (ρ:=ρ) (σ:=fun x => (evT st.tm x).un) (e:=a.eval) args (fun x hx => (h.ev x).un (zcI hav _ (czx.2 ⟨x,hx,rfl⟩)))
 have ht:∀ i,i < (zcv st.tm args).length → TokOK τ st.mem ((zcv st.tm args).getD i .undef) ((args.map a.eval).getD i Go.undef):=fun i hi => by
  have hi':i < args.size:=by simpa [zcv] using hi
  have e1:(zcv st.tm args).getD i .undef = (evT st.tm args[i]).un:=by simp [zcv,List.getD,hi']
  have e2:(args.map a.eval).getD i Go.undef = a.eval args[i]:=by simp [Array.getD,hi']
  rw [e1,e2]
  exact (h.evTok _).un (zcI hav _ (czx.2 ⟨_,Array.getElem_mem_toList hi',rfl⟩))
 refine key (key ⟨by simpa using h1,fun i hi => ?_⟩ ⟨hm.1,fun i hi => ⟨hm.2 i hi,ht i hi⟩⟩) ⟨by simpa using h2,fun i hi => ?_⟩
 ·rw [zbz]; exact ⟨(h3 i (by simpa using hi)).strip,TokOK.strip _⟩
 ·rw [zbz]; exact ⟨(h4 i (by simpa using hi)).strip,TokOK.strip _⟩
theorem zh6 {M:List AObj} (h:Rel X w0 m0 κ ρ τ st a w) (hM:∀ l,zcb (zaa M l) = true → zaa st.mem l = zaa M l) {fst cap:List AV} {vs ws:Array Value} {args:Array Operand} (h1:vs.size = fst.length) (h2:ws.size = cap.length)
  (h3:∀ i,i < fst.length → Rep κ ρ (fst.getD i .undef) (vs.getD i Go.undef)) (h4:∀ i,i < cap.length → Rep κ ρ (cap.getD i .undef) (ws.getD i Go.undef))
  (hav:avsA st.tm args):Pics κ w (∀ b ∈ fst ++ zcv st.tm args ++ cap,imm 9 b) (snapA M fst (zcv st.tm args) cap) ((vs ++ args.map a.eval) ++ ws):=by
 have hm:=ze7 (κ:=κ) (ρ:=ρ) (σ:=fun x => (evT st.tm x).un) (e:=a.eval) args (fun x hx => (h.ev x).un (zcI hav _ (czx.2 ⟨x,hx,rfl⟩)))
 have ht:∀ i,i < (zcv st.tm args).length → TokOK τ st.mem ((zcv st.tm args).getD i .undef) ((args.map a.eval).getD i Go.undef):=fun i hi => by
  have hi':i < args.size:=by simpa [zcv] using hi
  have e1:(zcv st.tm args).getD i .undef = (evT st.tm args[i]).un:=by simp [zcv,List.getD,hi']
  have e2:(args.map a.eval).getD i Go.undef = a.eval args[i]:=by simp [Array.getD,hi']
  rw [e1,e2]
  exact (h.evTok _).un (zcI hav _ (czx.2 ⟨_,Array.getElem_mem_toList hi',rfl⟩))
 exact ((Pics.plain h.mem hM h1 h3 (fun hi b hb => hi b (by simp [hb]))).append (Pics.full h.mem hM hm.1 hm.2 ht (fun hi b hb => hi b (czv.2 (.inl (czv.2 (.inr hb))))))).append
  (Pics.plain h.mem hM h2 h4 (fun hi b hb => hi b (by simp [hb])))
theorem ziZ {f:Fn} {fst cap:List AV} {x:Value} (h:Rep κ ρ (.fn f fst cap) x):∃ vs ws:Array Value,x = .func f vs ws ∧ vs.size = fst.length ∧ ws.size = cap.length ∧
  (∀ i,i < fst.length → Rep κ ρ (fst.getD i .undef) (vs.getD i Go.undef)) ∧ (∀ i,i < cap.length → Rep κ ρ (cap.getD i .undef) (ws.getD i Go.undef)):=by
 cases h with
 | fn _ _ _ vs ws h1 h2 h3 h4 => exact ⟨vs,ws,rfl,h1,h2,h3,h4⟩
theorem ziG {o:Oper} {p:Prop} {v:AV} {next:Act → World → Prop} {Q:Exit → Act → World → Prop} (hΦ:zam P Φ) (h:Rel X w0 m0 κ ρ τ st a w)
  (hs:zp2 P Φ st o.op = some (p,v)) (hp:p)
  (hn:∀ x w' κ',Rep κ' ρ v x → TokOK τ st.mem v x → Grow κ w κ' w' → next (a.put o.dst x) w'):o.wpIn (Fw rd) 0 P a w next Q:=by
 unfold zp2 at hs
 split at hs
 ·rename_i f args ts hop
  split at hs
  ·rename_i q u hq
   obtain ⟨rfl,rfl⟩:=Prod.mk.inj (czK hs)
   unfold callV at hq
   split at hq
   ·rename_i g fst cap hf
    split at hq
    ·rename_i s hsg
     split at hq
     ·rename_i p' r hr
      split at hq
      ·obtain ⟨rfl,rfl⟩:=Prod.mk.inj (czK hq)
       obtain ⟨hfa,hav,hp',hsc⟩:=hp
       have rf:=(h.ev f).un hfa
       rw [hf] at rf
       obtain ⟨vs,ws,hfv,h1,h2,h3,h4⟩:=ziZ rf
       have hpc:=zh6 h (fun _ _ => rfl) h1 h2 h3 h4 hav
       have hcall:=(hΦ g s _ p' r hsg hr hp').1
       refine zdK (w':=w) (by rw [zcC hop hfv]; exact zcd hcall.1) (zlk (ρ:=ρ) h.mem.know hcall hsc hpc) ?_
       rintro e w'' ⟨x,κ',rfl,hx,hg⟩
       exact ⟨x,rfl,hn x w'' κ' hx.strip (TokOK.strip _) hg⟩
      ·cases hq
     ·cases hq
    ·cases hq
   ·cases hq
  ·cases hs
 ·obtain ⟨x,w',κ',h1,h2,h3,h4⟩:=zha h hs hp
  exact zbt h1 (hn x w' κ' h2 h3 h4)
theorem zjN {M:List AObj} {o:Oper} {p:Prop} {es:List (List AV)} {sz:Nat} {next:Act → World → Prop} {Q:Exit → Act → World → Prop} (hΦ:zam P Φ) (h:Rel X w0 m0 κ ρ τ st a w)
  (hs:frA Φ { st with mem:=M } o.op = some (p,es,sz)) (hM:∀ l,zcb (zaa M l) = true → zaa st.mem l = zaa M l) (hp:p)
  (hn:∀ x w' κ',Rep κ' ρ (.sl es .no) x → Grow κ w κ' w' → Room κ' w w' es.length sz x → next (a.put o.dst x) w'):o.wpIn (Fw rd) 0 P a w next Q:=by
 unfold frA at hs
 split at hs
 ·rename_i f args ts hop
  split at hs
  ·rename_i q es' sz' hq
   simp only [czg,czh] at hs
   obtain ⟨rfl,rfl,rfl⟩:=hs
   unfold callN at hq
   split at hq
   ·rename_i g fst cap hf
    split at hq
    ·rename_i s hsg
     split at hq
     ·rename_i p' r hr
      split at hq
      ·rename_i es2 sz2 hfr
       simp only [czg,czh] at hq
       obtain ⟨rfl,rfl,rfl⟩:=hq
       obtain ⟨hfa,hav,hp',himm⟩:=hp
       have rf:=(h.ev f).un hfa
       change Rep κ ρ (evT st.tm f).un _ at rf
       dsimp only at hf
       rw [hf] at rf
       obtain ⟨vs,ws,hfv,h1,h2,h3,h4⟩:=ziZ rf
       have hpc:=zh6 h hM h1 h2 h3 h4 hav
       have hcall:=(hΦ g s _ p' r hsg hr hp').2 _ _ hfr
       refine zdK (w':=w) (by rw [zcC hop hfv]; exact zcd hcall.1) (callF_use (ρ:=ρ) h.mem.know hcall himm hpc) ?_
       rintro e w'' ⟨x,κ',rfl,hx,hg,hroom⟩
       exact ⟨x,rfl,hn x w'' κ' hx hg hroom⟩
      ·cases hq
     ·cases hq
    ·cases hq
   ·cases hq
  ·cases hs
 ·cases hs
theorem frA_sound {o:Oper} {p:Prop} {es:List (List AV)} {sz:Nat} {K:St → Prop} {next:Act → World → Prop} {Q:Exit → Act → World → Prop} (hΦ:zam P Φ) (h:Rel X w0 m0 κ ρ τ st a w)
  (hs:frA Φ st o.op = some (p,es,sz)) (hp:p) (hd:zbv st.n o.dst)
  (hK:K ({ st with mem:=st.mem ++ [AObj.tok es.length sz] }.put o.dst (.sl es (.own st.mem.length)))) (hn:Next X w0 m0 κ ρ τ st K next):o.wpIn (Fw rd) 0 P a w next Q:=by
 refine zjN (M:=st.mem) hΦ h hs (fun _ _ => rfl) hp fun x w' κ' hx hg hroom => ?_
 obtain ⟨e1,e2⟩:=h.extend 1
 have hdead:zaa (st.mem ++ List.replicate 1 AObj.dead) st.mem.length = .dead:=by simp [zaa,List.getD]
 have hset:(st.mem ++ List.replicate 1 AObj.dead).set st.mem.length (AObj.tok es.length sz) = st.mem ++ [AObj.tok es.length sz]:=by simp
 obtain ⟨τ',g1,g2⟩:=e1.freshAt (L:=st.mem.length) (by simp) (by have:=h.prot; omega) hdead hd hg hx hroom
 simp only [hset] at g1 g2
 exact hn _ _ _ _ _ _ g1 (by simpa [St.put] using e2.trans g2) hK
theorem Frm.trans {w0 w1:World} (h:Frm X w0 w) (h':Frm X w w1):Frm X w0 w1 :=
 ⟨h'.os.trans h.os,h'.tape.trans h.tape,h'.output.trans h.output,Nat.le_trans h.size h'.size,fun b hb => (h'.block b hb).trans (h.block b hb)⟩
theorem Rel.called (h:Rel X w0 m0 κ ρ τ st a w) {ρ':Lc} {τ':Tc} {mem':List AObj} {r:AV} {x:Value} {d:Option Tmp} (hd:zbv st.n d)
  (hm:RelM κ' ρ' τ' X mem' w') (hf:Frm X w w') (hr:Rep κ' ρ' r x) (hrt:TokOK τ' mem' r x) (he:Ext st.mem.length κ ρ τ st.mem κ' ρ' τ' mem') (hl:st.mem.length ≤ mem'.length) (hkx:KeepX X κ κ') :
  Rel X w0 m0 κ' ρ' τ' ({ st with mem:=mem' }.put d r) (a.put d x) w' ∧ Ext m0 κ ρ τ st.mem κ' ρ' τ' mem':=by
 have hρ:ρ.le ρ':=fun l b hb => he.agree l b (by
  by_cases hl':l < st.mem.length
  ·exact hl'
  ·rw [h.mem.dom l (by omega)] at hb; cases hb) hb
 refine ⟨⟨by rw [zfb]; exact h.defers.mono hρ,by rw [zgL]; exact h.size,fun i => ?_,fun i => ?_,hm,h.frm.trans hf,h.xlt,by show m0 ≤ mem'.length; have:=h.prot; omega,h.prm,h.kx.trans hkx⟩,
  he.le,fun l b hl' hb => he.agree l b (by have:=h.prot; omega) hb,he.step.le h.prot⟩
 ·rw [zew a d x st.n h.size hd,zcq]
  split
  ·exact hr
  ·exact (h.tm i).mono he.le hρ
 ·rw [zew a d x st.n h.size hd,zcq]
  split
  ·exact hrt
  ·exact (h.tk i).move he.step
theorem call_rel {R:AV → List AObj → Prop} {K:St → Prop} {o:Oper} {next:Act → World → Prop} (h:Rel X w0 m0 κ ρ τ st a w) (hd:zbv st.n o.dst)
  (hK:∀ r mem',R r mem' → mem'.length = st.mem.length → K ({ st with mem:=mem' }.put o.dst r.strip)) (hn:Next X w0 m0 κ ρ τ st K next) (e:Ending) (w'':World)
  (hr:∃ x κ' ρ' τ' mem' r,e = .returned x ∧ RelM κ' ρ' τ' X mem' w'' ∧ Frm X w w'' ∧ Rep κ' ρ' r x ∧ Ext st.mem.length κ ρ τ st.mem κ' ρ' τ' mem' ∧ mem'.length = st.mem.length ∧ KeepX X κ κ' ∧ R r mem') :
  ∃ x,e = .returned x ∧ next (a.put o.dst x) w'':=by
 obtain ⟨x,κ',ρ',τ',mem',r,rfl,h1,h2,h3,h4,h5,h7,h6⟩:=hr
 obtain ⟨g1,g2⟩:=h.called hd h1 h2 h3.strip (TokOK.strip _) h4 (by omega) h7
 exact ⟨x,rfl,hn _ _ _ _ _ _ g1 (by simpa [St.put] using g2) (hK r mem' h6 h5)⟩
theorem callX_rel {R:AV → List AObj → Prop} {K:St → Prop} {o:Oper} {next:Act → World → Prop} (h:Rel X w0 m0 κ ρ τ st a w) (hd:zbv st.n o.dst)
  (hK:∀ r mem',R r mem' → st.mem.length ≤ mem'.length → K ({ st with mem:=mem' }.put o.dst r)) (hn:Next X w0 m0 κ ρ τ st K next) (e:Ending) (w'':World)
  (hr:∃ x κ' ρ' τ' mem' r,e = .returned x ∧ RelM κ' ρ' τ' X mem' w'' ∧ Frm X w w'' ∧ Rep κ' ρ' r x ∧ TokOK τ' mem' r x ∧ Ext st.mem.length κ ρ τ st.mem κ' ρ' τ' mem' ∧ st.mem.length ≤ mem'.length ∧ KeepX X κ κ' ∧ R r mem') :
  ∃ x,e = .returned x ∧ next (a.put o.dst x) w'':=by
 obtain ⟨x,κ',ρ',τ',mem',r,rfl,h1,h2,h3,h3',h4,h5,h7,h6⟩:=hr
 obtain ⟨g1,g2⟩:=h.called hd h1 h2 h3 h3' h4 h5 h7
 exact ⟨x,rfl,hn _ _ _ _ _ _ g1 (by simpa [St.put] using g2) (hK r mem' h6 h5)⟩
theorem zgq (m r:List AObj) (l:Nat) (h:l < m.length):zaa (m ++ r) l = zaa m l:=by
 unfold zaa
 simp only [List.getD]
 rw [czi h]
theorem zb0 (m:List AObj) (o:AObj) (l:Nat):zaa (m ++ [o]) l = if l = m.length then o else zaa m l:=by
 by_cases h:l < m.length
 ·rw [zgq _ _ _ h,if_neg (by omega)]
 ·unfold zaa
  by_cases e:l = m.length
  ·subst e; simp [List.getD]
  ·rw [if_neg e]; simp [List.getD,czB (show (m ++ [o]).length ≤ l by simp; omega),czB (show m.length ≤ l by omega)]
def NewO (O:AObj):Prop:=(∃ n sz,O = .tok n sz) ∨ ∃ sz,O = .vec [] sz 0
theorem NewO.blk {O:AObj} (h:NewO O) {τ:Tc} {l:Nat} (ht:τ l = none):blk ρ τ l O = none:=by
 rcases h with ⟨n,sz,rfl⟩ | ⟨sz,rfl⟩ <;> simp [Go.Fs.blk,ht]
theorem NewO.rel {O:AObj} (h:NewO O) {τ:Tc} {l:Nat} (ht:τ l = none):RelObj κ ρ τ X w l O:=by
 rcases h with ⟨n,sz,rfl⟩ | ⟨sz,rfl⟩
 ·exact .inl ht
 ·exact ⟨fun i hi => by simp at hi,.inl ⟨ht,rfl⟩⟩
theorem NewO.ne_cells {O:AObj} (h:NewO O) (cs:List AV):O ≠ .cells cs:=by rcases h with ⟨n,sz,rfl⟩ | ⟨sz,rfl⟩ <;> simp
theorem zdL (m:Nat) (τ:Tc) (mem:List AObj) (O:AObj) (hm:m ≤ mem.length):TStep m τ mem (fun l => if l = mem.length then none else τ l) (mem ++ [O]) :=
 TStep.same (fun l hl => by rw [zb0,if_neg (by omega)]) (fun l hl => by rw [if_neg (by omega)])
theorem zoR {τ:Tc} {l k:Nat} {o:AObj} (h:l ≠ k):blk ρ (fun l => if l = k then none else τ l) l o = blk ρ τ l o:=by
 cases o <;> simp [blk,h]
theorem RelM.newO {mem:List AObj} {O:AObj} (h:RelM κ ρ τ X mem w) (hO:NewO O):RelM κ ρ (fun l => if l = mem.length then none else τ l) X (mem ++ [O]) w:=by
 have htok:∀ v x,TokOK τ mem v x → TokOK (fun l => if l = mem.length then none else τ l) (mem ++ [O]) v x:=fun v x hv => hv.move (zdL _ _ _ _ (czf _))
 have hblk:∀ l,blk ρ (fun l => if l = mem.length then none else τ l) l (zaa (mem ++ [O]) l) = if l = mem.length then none else blk ρ τ l (zaa mem l):=fun l => by
  rw [zb0]
  split
  ·rename_i e; exact hO.blk (by simp [e])
  ·rename_i e; exact zoR e
 refine ⟨fun l => ?_,fun l l' b hl hl' => ?_,h.know,fun l hl => h.dom l (by simp at hl; omega),fun l cs b vs T hl hb hh i hi => ?_⟩
 ·rw [zb0]
  split
  ·rename_i e; exact hO.rel (by simp [e])
  ·rename_i e
   exact (h.obj l).mono (Kn.le_refl _) (Lc.le_refl _) ⟨fun _ _ _ => by simp [e],fun _ _ _ _ => by simp [e]⟩ (fun _ _ => rfl) (fun _ _ => ⟨fun _ => rfl,rfl⟩)
 ·rw [hblk] at hl hl'
  split at hl <;> split at hl'
  ·cases hl
  ·cases hl
  ·cases hl'
  ·exact h.inj l l' b hl hl'
 ·rw [zb0] at hl
  split at hl
  ·exact absurd hl (hO.ne_cells _)
  ·exact htok _ _ (h.toks l cs b vs T hl hb hh i hi)
theorem ze9 {x:Value} {l sz:Nat} (h:Rep κ ρ (.sl [] .full) x):Rep κ ρ (.vec l 0 0 0 sz) x ∧ zn2 τ l 0 0 sz 0 x:=by
 cases h with
 | slnil => exact ⟨.vec _ _ _ _ _ _ _ ⟨⟨fun _ => rfl,czf _⟩,fun _ e => by simp at e⟩,none,0,rfl,czf _,Nat.zero_le _,.inl rfl⟩
 | sl _ _ b o cap _ _ _ _ _ ht _ =>
  have:=ht rfl
  exact ⟨.vec _ _ _ _ _ _ _ ⟨⟨fun e => by simp at e,Nat.zero_le _⟩,fun _ e => by cases e; rfl⟩,_,_,rfl,Nat.zero_le _,czf _,.inl (by simpa using this)⟩
theorem Rel.newVec (h:Rel X w0 m0 κ ρ τ st a w) (sz:Nat):∃ τ',τ' st.mem.length = none ∧ Rel X w0 m0 κ ρ τ' { st with mem:=st.mem ++ [AObj.vec [] sz 0] } a w ∧ Ext m0 κ ρ τ st.mem κ ρ τ' (st.mem ++ [AObj.vec [] sz 0]) :=
 ⟨fun l => if l = st.mem.length then none else τ l,by simp,⟨h.defers,h.size,h.tm,fun j => (h.tk j).move (zdL _ _ _ _ (czf _)),h.mem.newO (.inr ⟨sz,rfl⟩),h.frm,h.xlt,by have:=h.prot; simp; omega,h.prm,h.kx⟩,
  Kn.le_refl _,fun _ _ _ q => q,zdL _ _ _ _ h.prot⟩
theorem ziD {s:Operand} {fs:List (List AV)} {tk:Tk} {sz:Nat} (h:Rel X w0 m0 κ ρ τ st a w) (hav:(evT st.tm s).av) (hsv:picS st.mem (evT st.tm s).un = .sl fs tk) (hz:∀ e ∈ fs,e.length = sz) :
  ∀ d,∃ arr,(Builtin.firstCells sz fs.length (a.eval s)).run P { w with drawn:=d } = .ok arr { w with drawn:=d } ∧ RepL κ ρ fs.flatten arr ∧ (Builtin.lenOf (a.eval s)).run P { w with drawn:=d } = .ok fs.length { w with drawn:=d }:=by
 have key:∀ v,Rep κ ρ v (a.eval s) → TokOK τ st.mem v (a.eval s) → (match zbb (zbk 9 st.mem) st.mem v with
  | .sl fs _ => if (fs.all fun e => e.all AV.flatV) = true then AV.sl fs .no else .undef
  | _ => .undef) = .sl fs tk → ∀ d,∃ arr,(Builtin.firstCells sz fs.length (a.eval s)).run P { w with drawn:=d } = .ok arr { w with drawn:=d } ∧ RepL κ ρ fs.flatten arr ∧ (Builtin.lenOf (a.eval s)).run P { w with drawn:=d } = .ok fs.length { w with drawn:=d }:=by
  intro v hr ht hv d
  have hall:=snapF_all h.mem (fun _ _ => rfl) 9 hr ht
  split at hv
  ·rename_i fs' tk' hsn
   split at hv
   ·rename_i hfl
    cases hv
    rw [hsn] at hall
    have hk:zcw (zdp w) { w with drawn:=d }:=⟨(zdo w).c,(zdo w).m⟩
    obtain ⟨arr,h1,h2,h3,_⟩:=zgK (P:=P) hk hall hz
    refine ⟨arr,h1,⟨h2.1,fun i hi => ?_⟩,h3⟩
    have hc:=h2.2 i hi
    have hm:fs.flatten.getD i .undef ∈ fs.flatten:=by
     unfold List.getD
     rw [czw hi]
     exact List.getElem_mem hi
    obtain ⟨e,he,hce⟩:=List.mem_flatten.1 hm
    have hf:=czG.1 (czG.1 hfl e he) _ hce
    generalize fs.flatten.getD i .undef = c at hc hf ⊢
    generalize arr.getD i Go.undef = x at hc ⊢
    cases hc <;> first | exact .int _ _ | exact .bool _ | cases hf
   ·cases hv
  ·cases hv
 have hr:=(h.ev s).un hav
 have ht:=(h.evTok s).un hav
 generalize hu:(evT st.tm s).un = u at hsv hr ht
 cases u with
 | arr l off len sz0 => exact key _ hr ht hsv
 | vec l s off len sz0 => exact key _ hr ht hsv
 | sl es t => cases hsv; exact zc8 h.mem.know hr hz
 | _ => cases hsv
theorem zlE {o:Oper} {args:Array Operand} {ts:Array TypeId} {K:St → Prop} (h:Rel X w0 m0 κ ρ τ st a w)
  (ho:o.op = .call { callee:=.builtin .append,args:=args,argTypes:=ts }) (hK:zdJ P o K st):zpB P X w0 m0 κ ρ τ st a w o K:=by
 unfold zdJ at hK
 rw [ho] at hK
 dsimp only at hK
 split at hK
 ·rename_i d s hargs
  obtain ⟨hd,hav,hK⟩:=hK
  have hxa:args = #[d,s]:=by rw [← Array.toList_inj]; exact hargs
  subst hxa
  unfold appA at hK
  split at hK
  ·rename_i es tk fs tk' t0 t1 hdv hsv hts
   split at hK
   ·rename_i e sz q hs0 hs1
    obtain ⟨e1,sz1⟩:=q
    split at hK
    ·rename_i by_ z hby hz
     obtain ⟨hzl,hsz,hb0,hes,hfs,hone,hbd,hK⟩:=hK
     have hta:ts = #[t0,t1]:=by rw [← Array.toList_inj]; exact hts
     subst hta
     have rd:=h.ev d
     rw [hdv] at rd
     have rs:=ziD (P:=P) h hav hsv hfs
     have hrun:∀ {v:Value} {w':World},(Builtin.append_ #[t0,t1] o.type #[a.eval d,a.eval s]).run P w = .ok v w' → (execOp a.eval o).run P w = .ok (.value v) w':=by
      intro v w' hh
      simp [execOp,ho,resolve,invoke,builtin,hh]
     cases tk with
     | no => exact hK.elim
     | own l =>
      obtain ⟨hl,hk⟩:=hK
      have hto:=(h.evTok d).own es l (by rw [hdv]; rfl) (by rw [hdv]; trivial)
      obtain ⟨v,w',κ',τ',r1,r2,r3,r4,r5⟩:=zj5 (ty:=o.type) h hs0 hs1 hby hz hzl hb0 hes hfs hone hbd hl rd (by obtain ⟨n,s,q1,_,q3⟩:=hto; rw [hl] at q1; cases q1; exact q3 rfl) rs
      refine ⟨_,v,w',κ',ρ,τ',{ st with mem:=st.mem.set l (AObj.tok (es.length + fs.length) sz) }.put o.dst (.sl (es ++ fs) (.own l)),hrun r1,.inl rfl,?_,r3,hk⟩
      exact r2.putV (Grow.refl r2.mem.know) hd r4 r5
     | full =>
      obtain ⟨m1,m2⟩:=h.mkTok es.length sz
      have hfit:Fits (zbo τ st.mem.length none) st.mem.length sz (a.eval d):=by
       generalize a.eval d = xd at rd
       cases rd with
       | slnil => exact ⟨none,0,0,rfl,.inl rfl⟩
       | sl _ _ b o' cap sz' val _ _ _ ht _ => exact ⟨_,_,_,rfl,.inl (ht rfl)⟩
      obtain ⟨v,w',κ',τ',r1,r2,r3,r4,r5⟩:=zj5 (ty:=o.type) m1 hs0 hs1 hby hz hzl hb0 hes hfs hone hbd (l:=st.mem.length) (by rw [zb1,if_pos rfl]) rd hfit rs
      have hset:(st.mem ++ [AObj.tok es.length sz]).set st.mem.length (AObj.tok (es.length + fs.length) sz) = st.mem ++ [AObj.tok (es.length + fs.length) sz]:=by
       simp
      simp only [hset] at r2 r3 r5
      refine ⟨_,v,w',κ',ρ,τ',{ st with mem:=st.mem ++ [AObj.tok (es.length + fs.length) sz] }.put o.dst (.sl (es ++ fs) (.own st.mem.length)),hrun r1,.inl rfl,?_,m2.trans r3,hK⟩
      exact r2.putV (Grow.refl r2.mem.know) hd r4 r5
    ·exact hK.elim
   ·exact hK.elim
  ·rename_i l s1 off len sz0 fs tk' t0 t1 hdv hsv hts
   split at hK
   ·rename_i e sz q hs0 hs1
    obtain ⟨e1,sz1⟩:=q
    split at hK
    ·rename_i by_ z hby hz
     split at hK
     ·rename_i es szv sv hl
      obtain ⟨hzl,hsz,hb0,⟨rfl,rfl,rfl,rfl⟩,hfs,hone,hbd,hK⟩:=hK
      have hta:ts = #[t0,t1]:=by rw [← Array.toList_inj]; exact hts
      subst hta
      have rd:=h.ev d
      have rt:=h.evTok d
      rw [hdv] at rd rt
      have rs:=ziD (P:=P) h hav hsv hfs
      obtain ⟨es',s'',k1,_,k3⟩:=rt.vec _ _ _ _ _ rfl trivial
      rw [hl] at k1
      cases k1
      obtain ⟨v,w',τ',r1,r2,r3,r4,r5⟩:=zj4 (ty:=o.type) h hs0 hs1 hby hz hzl hb0 hfs hone hbd hl (k3 rfl) rd rs
      refine ⟨_,v,w',κ,ρ,τ',{ st with mem:=st.mem.set l (AObj.vec (es.take len ++ fs) szv (s1 + 1)) }.put o.dst (.vec l (s1 + 1) 0 (len + fs.length) szv),?_,.inl rfl,?_,r3,hK⟩
      ·simp [execOp,ho,resolve,invoke,builtin,r1]
      ·exact r2.putV (Grow.refl r2.mem.know) hd r4 r5
     ·exact hK.elim
    ·exact hK.elim
   ·exact hK.elim
  ·exact hK.elim
 ·exact hK.elim
theorem zbB {o:Oper} {K:St → Prop} {next:Act → World → Prop} {Q:Exit → Act → World → Prop} (hd:zpB P X w0 m0 κ ρ τ st a w o K) (hn:Next X w0 m0 κ ρ τ st K next) :
  o.wpIn (Fw rd) 0 P a w next Q:=by
 obtain ⟨nx,x,w',κ',ρ',τ',st',h1,h2,h3,h4,h5⟩:=hd
 rcases h2 with rfl | ⟨rfl,rfl⟩
 ·exact zbt h1 (hn _ _ _ _ _ _ h3 h4 h5)
 ·exact ze0 h1 (hn _ _ _ _ _ _ h3 h4 h5)
theorem zjC {o:Oper} {t:TypeId} {x y:Operand} {yt:TypeId} {K:St → Prop} (h:Rel X w0 m0 κ ρ τ st a w) (hop:o.op = .binOp .eql t x y yt) (hK:zdJ P o K st):zpB P X w0 m0 κ ρ τ st a w o K:=by
 unfold zdJ at hK
 rw [hop] at hK
 split at hK
 all_goals (try (rename_i heq; cases heq; done))
 all_goals (try exact hK.elim)
 rename_i t' x' yt' heq
 cases heq
 split at hK
 ·rename_i e es tk hs hx
  obtain ⟨hd,hav,hK⟩:=hK
  have rx:=(h.ev x).un hav
  rw [hx] at rx
  have hu:∃ el,P.underlying t = some (.slice el):=by
   unfold zbs at hs
   split at hs
   ·exact ⟨_,‹_›⟩
   ·cases hs
  obtain ⟨el,hu⟩:=hu
  have hc:a.eval (.const (.slice none 0 0)) = .slice none 0 0:=rfl
  have hrun:∃ b:Bool,(b = true → es = []) ∧ (execOp a.eval o).run P w = .ok (.value (.bool b)) w:=by
   generalize hv:a.eval x = v at rx
   cases rx with
   | slnil =>
    refine ⟨true,fun _ => rfl,?_⟩
    have he:=run_equal_slice_nil w t el none 0 0 hu
    have hg:(eqGuard .eql t x (.const (.slice none 0 0)) (.slice none 0 0) (.slice none 0 0)).run P w = .ok () w:=by simp [eqGuard]
    simp [execOp,hop,hv,hc,hg,binOp,he]
   | sl _ _ b o' cap sz' val _ _ _ _ _ =>
    refine ⟨false,(fun e => by cases e),?_⟩
    have he:=run_equal_slice_nil w t el (some ⟨b,o',none⟩) es.length cap hu
    have hg:(eqGuard .eql t x (.const (.slice none 0 0)) (.slice (some ⟨b,o',none⟩) es.length cap) (.slice none 0 0)).run P w = .ok () w:=by simp [eqGuard]
    simp [execOp,hop,hv,hc,hg,binOp,he]
  obtain ⟨b,hb,hrun⟩:=hrun
  exact ⟨_,.bool b,w,κ,ρ,τ,st.put o.dst (.bool b),hrun,.inl rfl,h.putV (Grow.refl h.mem.know) hd (.bool b) (zax rfl),Ext.refl _ _ _ _ _,hK b hb⟩
 ·rename_i e l off len sz hs hx
  obtain ⟨hd,hav,hK⟩:=hK
  have rx:=(h.ev x).un hav
  rw [hx] at rx
  have hu:∃ el,P.underlying t = some (.slice el):=by
   unfold zbs at hs
   split at hs
   ·exact ⟨_,‹_›⟩
   ·cases hs
  obtain ⟨el,hu⟩:=hu
  have hc:a.eval (.const (.slice none 0 0)) = .slice none 0 0:=rfl
  have hrun:(execOp a.eval o).run P w = .ok (.value (.bool false)) w:=by
   generalize hv:a.eval x = v at rx
   cases rx with
   | arr _ _ _ _ b cap _ _ =>
    have he:=run_equal_slice_nil w t el (some ⟨b,off,none⟩) len cap hu
    have hg:(eqGuard .eql t x (.const (.slice none 0 0)) (.slice (some ⟨b,off,none⟩) len cap) (.slice none 0 0)).run P w = .ok () w:=by simp [eqGuard]
    simp [execOp,hop,hv,hc,hg,binOp,he]
  exact ⟨_,.bool false,w,κ,ρ,τ,st.put o.dst (.bool false),hrun,.inl rfl,h.putV (Grow.refl h.mem.know) hd (.bool false) (zax rfl),Ext.refl _ _ _ _ _,hK⟩
 ·rename_i e l s' off len sz hs hx
  obtain ⟨hd,hav,hK⟩:=hK
  have rx:=(h.ev x).un hav
  rw [hx] at rx
  have hu:∃ el,P.underlying t = some (.slice el):=by
   unfold zbs at hs
   split at hs
   ·exact ⟨_,‹_›⟩
   ·cases hs
  obtain ⟨el,hu⟩:=hu
  have hc:a.eval (.const (.slice none 0 0)) = .slice none 0 0:=rfl
  have hrun:∃ b:Bool,(b = true → len = 0) ∧ (execOp a.eval o).run P w = .ok (.value (.bool b)) w:=by
   generalize hv:a.eval x = v at rx
   cases rx with
   | vec _ _ _ _ _ ad cap hh =>
    have he:=run_equal_slice_nil w t el ad len cap hu
    have hg:(eqGuard .eql t x (.const (.slice none 0 0)) (.slice ad len cap) (.slice none 0 0)).run P w = .ok () w:=by simp [eqGuard]
    refine ⟨ad.isNone,fun e => hh.1.1 (by simpa using e),?_⟩
    simp [execOp,hop,hv,hc,hg,binOp,he]
  obtain ⟨b,hb,hrun⟩:=hrun
  exact ⟨_,.bool b,w,κ,ρ,τ,st.put o.dst (.bool b),hrun,.inl rfl,h.putV (Grow.refl h.mem.know) hd (.bool b) (zax rfl),Ext.refl _ _ _ _ _,hK b hb⟩
 ·exact hK.elim
theorem zge {o:Oper} {K:St → Prop} {next:Act → World → Prop} {Q:Exit → Act → World → Prop} (h:Rel X w0 m0 κ ρ τ st a w) (hK:zdJ P o K st)
  (hn:Next X w0 m0 κ ρ τ st K next):o.wpIn (Fw rd) 0 P a w next Q:=by
 have hX:∀ b,X b → b < w.heap.size:=fun b hb => by have:=h.xlt b hb; have:=h.frm.size; omega
 cases hop:o.op with
 | alloc t => exact zbB (zn0 h hop hK) hn
 | binOp op t x y yt =>
  cases op
  case eql => exact zbB (zjC h hop hK) hn
  all_goals (unfold zdJ at hK; rw [hop] at hK; exact hK.elim)
 | box t y => exact zbB (box_sound h hop hK) hn
 | store t y z => exact zbB (zmB h hop hK) hn
 | makeSlice t l c => exact zbB (zhE h hop hK) hn
 | makeMap t r =>
  cases r with
  | none => exact zbB (zjJ h hop hK) hn
  | some r => unfold zdJ at hK; rw [hop] at hK; exact hK.elim
 | mapUpdate t m k x => exact zbB (zhC h hop hK) hn
 | range t m => exact zbB (zmO h hop hK) hn
 | next it s =>
  cases s with
  | false => exact zbB (zqh h hop hK) hn
  | true => unfold zdJ at hK; rw [hop] at hK; exact hK.elim
 | call c =>
  obtain ⟨callee,args,ts⟩:=c
  cases callee with
  | builtin b =>
   cases b
   case append => exact zbB (zlE h hop hK) hn
   case copy => exact zbB (zqM h hop hK) hn
   case clear => exact zbB (znJ h hop hK) hn
   all_goals (unfold zdJ at hK; rw [hop] at hK; exact hK.elim)
  | invoke r m => unfold zdJ at hK; rw [hop] at hK; exact hK.elim
  | value f =>
   unfold zdJ at hK
   rw [hop] at hK
   obtain ⟨hd,hfa,hav,hK⟩:=hK
   have rf:=(h.ev f).un hfa
   split at hK
   ·rename_i g fst cap hf
    rw [hf] at rf
    obtain ⟨R,hc,hk⟩:=hK
    obtain ⟨vs,ws,hfv,h1,h2,h3,h4⟩:=ziZ rf
    obtain ⟨a1,a2⟩:=zlC h h1 h2 h3 h4 hav
    exact zdK (w':=w) (by rw [zcC hop hfv]; exact zcd hc.1) (hc.2 X κ ρ τ w _ h.mem hX a1 (fun i hi => (a2 i hi).1) (fun i hi => (a2 i hi).2)) (fun e w'' hr => callX_rel h hd hk hn e w'' hr)
   ·rename_i l hf
    rw [hf] at rf
    obtain ⟨R,hc,hk⟩:=hK
    obtain ⟨b,hb,hfv⟩:=rf.yld_inv
    obtain ⟨a1,a2⟩:=zoZ (fst:=[]) (cap:=[]) (vs:=#[]) (ws:=#[]) h rfl rfl (fun i hi => by simp at hi) (fun i hi => by simp at hi) hav
    simp only [List.nil_append,List.append_nil,Array.empty_append,Array.append_empty] at a1 a2
    obtain ⟨b',f',tmps,asg,body,hb',hy,hR⟩:=hc X κ ρ τ w (args.map a.eval) h.mem hX a1 a2
    obtain rfl:b = b':=by rw [hb] at hb'; exact czK hb'
    refine zix (w':=w) (by rw [zcC hop hfv]; simp [invoke,hy]) hR (fun e w'' hr => call_rel h hd hk hn e w'' hr)
   ·exact hK.elim
 | _ => unfold zdJ at hK; rw [hop] at hK; exact hK.elim
theorem zqB {x:Option Tmp} {d:Tmp} (h:zaw Φ x = some d):x = some d:=by
 unfold zaw at h
 split at h
 ·split at h
  ·split at h
   ·exact h
   ·cases h
  ·cases h
 ·cases h
theorem Rel.known (h:Rel X w0 m0 κ ρ τ st a w) {l sz s:Nat} {es:List (List AV)} (hl:zaa st.mem l = .vec es sz s) :
  ∃ κ',κ.le κ' ∧ zcw κ' w ∧ (∀ b,(∀ c,τ l ≠ some (b,c)) → ∀ o,κ' b o = κ b o) ∧ (∀ b,κ'.m b = κ.m b) ∧ (∀ b c,τ l = some (b,c) → ¬ X b) ∧
   ∀ (off len:Nat) (x:Value),zn2 τ l off len sz es.length x → (∀ ad len' cap,x = .slice (some ad) len' cap → ad.spot = none) → Rep κ' ρ (.sl ((es.drop off).take len) .no) x:=by
 have ho:=h.mem.obj l
 rw [hl] at ho
 obtain ⟨he0,ho⟩:=ho
 have hnil:∀ (κ':Kn) (off:Nat) (ad:Option Addr),(∀ q,ad = some q → q.spot = none) → Rep κ' ρ (.sl ((es.drop off).take 0) .no) (.slice ad 0 0):=fun κ' off ad hq => by
  rw [List.take_zero]
  cases ad with
  | none => exact .slnil _
  | some q =>
   obtain ⟨b,o,sp⟩:=q
   have:=hq _ rfl
   dsimp only at this
   subst this
   exact .sl [] .no b o 0 0 (fun _ _ => Go.undef) (fun i hi => by simp at hi) (fun i j hi => by simp at hi) (fun i j hi => by simp at hi) (fun e => by cases e) (czf _)
 rcases ho with ⟨h1,h2⟩ | ⟨b,c,vs,T,g1,g2,g3,g4,g5,g6,g7⟩
 ·refine ⟨κ,Kn.le_refl _,h.mem.know,fun _ _ _ => rfl,fun _ => rfl,fun b c e => (by rw [h1] at e; cases e),fun off len x hv hs => ?_⟩
  obtain ⟨ad,cap,rfl,k1,k2,k3⟩:=hv
  rcases k3 with rfl | ⟨b,c,e,_⟩
  ·obtain rfl:len = 0:=by omega
   exact hnil κ off ad fun q e => hs q _ _ (by rw [e])
  ·rw [h1] at e; cases e
 ·let κ':Kn:=⟨fun b' o => if b' = b then (if o < es.length * sz then some (vs.getD o Go.undef) else none) else κ b' o,κ.m⟩
  have hle:κ.le κ':=⟨fun b' o v hh => by
   by_cases e:b' = b
   ·subst e; rw [g3] at hh; cases hh
   ·simp only [κ',if_neg e]; exact hh,fun _ _ hh => hh⟩
  refine ⟨κ',hle,⟨fun b' o v hh => ?_,h.mem.know.m⟩,fun b' hb o => ?_,fun _ => rfl,fun b' c' e => (by rw [g1] at e; cases e; exact g2),fun off len x hv hs => ?_⟩
  ·by_cases e:b' = b
   ·subst e
    simp only [κ',if_true] at hh
    split at hh
    ·rename_i ho
     cases hh
     have ho':o < vs.size:=by omega
     simp [World.cell?,g4,ho']
    ·cases hh
   ·simp only [κ',if_neg e] at hh
    exact h.mem.know.c _ _ _ hh
  ·have e:b' ≠ b:=fun e => hb c (by rw [e]; exact g1)
   simp only [κ',if_neg e]
  ·obtain ⟨ad,cap,rfl,k1,k2,k3⟩:=hv
   rcases k3 with rfl | ⟨b',c',e,rfl,k4⟩
   ·obtain rfl:len = 0:=by omega
    exact hnil κ' off ad fun q e => hs q _ _ (by rw [e])
   ·rw [g1] at e
    cases e
    have hlen:((es.drop off).take len).length = len:=by rw [czO,List.length_drop]; omega
    have hget:∀ i,i < len → ((es.drop off).take len).getD i [] = es.getD (off + i) []:=fun i hi => by
     simp only [List.getD,czR,hi,if_true,czQ]
    have:=Rep.sl (κ:=κ') (ρ:=ρ) ((es.drop off).take len) .no b (off * sz) cap sz (fun i j => vs.getD ((off + i) * sz + j) Go.undef)
     (fun i hi => by rw [hlen] at hi; rw [hget i hi]; exact he0 _ (by omega))
     (fun i j hi hj => by
      rw [hlen] at hi
      have h1:(off + i + 1) * sz ≤ es.length * sz:=czq sz (by omega)
      rw [Nat.add_mul] at h1
      have h2:off * sz + i * sz + j = (off + i) * sz + j:=by rw [Nat.add_mul]
      simp only [κ',if_true]
      rw [h2,if_pos (by omega)])
     (fun i j hi hj => by
      rw [hlen] at hi
      rw [hget i hi]
      exact (g7 (off + i) j (by omega) hj).mono hle (Lc.le_refl _))
     (fun e => by cases e) (by rw [hlen]; exact k1)
    rw [hlen] at this
    exact this
theorem Rel.freeze (h:Rel X w0 m0 κ ρ τ st a w) {l L sz s:Nat} {es:List (List AV)} {cs:List AV} (hl:zaa st.mem l = .vec es sz s) (hL:zaa st.mem L = .cells cs) :
  ∃ κ' τ',Rel X w0 m0 κ' ρ τ' (zgI st L cs l s es sz) a w ∧ Ext m0 κ ρ τ st.mem κ' ρ τ' (zgI st L cs l s es sz).mem:=by
 obtain ⟨κ',hle,hk,hκo,hκm,hX,hrep⟩:=h.known hl
 have hlt:l < st.mem.length:=za9 hl (by simp)
 have hLt:L < st.mem.length:=za9 hL (by simp)
 have hne:L ≠ l:=fun e => by rw [e,hl] at hL; cases hL
 have hm:∀ i,zaa (zgI st L cs l s es sz).mem i = if i = L then .cells (cs.map (fzV l s es)) else if i = l then .vec [] sz (s + 1) else zaa st.mem i:=fun i => by
  unfold zgI
  rw [zap _ _ _ _ (by rw [czt]; exact hLt),zap _ _ _ _ hlt]
 have hst:TStep st.mem.length τ st.mem (zbo τ l none) (zgI st L cs l s es sz).mem:=by
  refine ⟨fun i k s0 hi hh => ?_,fun i es0 sz0 s0 hi hh => ?_⟩
  ·have e1:i ≠ L:=fun e => by rw [e,hL] at hh; cases hh
   have e2:i ≠ l:=fun e => by rw [e,hl] at hh; cases hh
   exact ⟨k,by rw [hm,if_neg e1,if_neg e2]; exact hh,czf _,fun _ => by unfold zbo; rw [if_neg e2]⟩
  ·have e1:i ≠ L:=fun e => by rw [e,hL] at hh; cases hh
   by_cases e2:i = l
   ·subst e2
    rw [hl] at hh
    cases hh
    exact ⟨[],s + 1,by rw [hm,if_neg e1,if_pos rfl],by omega,fun e => by omega⟩
   ·exact ⟨es0,s0,by rw [hm,if_neg e1,if_neg e2]; exact hh,czf _,fun _ => ⟨rfl,by unfold zbo; rw [if_neg e2]⟩⟩
 have hblk:∀ i b,blk ρ (zbo τ l none) i (zaa (zgI st L cs l s es sz).mem i) = some b → blk ρ τ i (zaa st.mem i) = some b:=fun i b hb => by
  rw [hm] at hb
  by_cases e1:i = L
  ·subst e1
   rw [if_pos rfl] at hb
   rw [hL]
   exact hb
  ·rw [if_neg e1] at hb
   by_cases e2:i = l
   ·subst e2
    rw [if_pos rfl] at hb
    simp [blk,zbo] at hb
   ·rw [if_neg e2] at hb
    revert hb
    cases zaa st.mem i <;> simp [blk,zbo,e2]
 have hbl:∀ i b,i ≠ l → blk ρ τ i (zaa st.mem i) = some b → ∀ c,τ l ≠ some (b,c):=fun i b hi hb c e =>
  hi (h.mem.inj i l b hb (by rw [hl]; simp [blk,e]))
 have hfz:∀ (v:AV) (x:Value),Rep κ ρ v x → TokOK τ st.mem v x → Rep κ' ρ (fzV l s es v) x ∧ TokOK (zbo τ l none) (zgI st L cs l s es sz).mem (fzV l s es v) x:=fun v x hr ht => by
  have old:Rep κ' ρ v x ∧ TokOK (zbo τ l none) (zgI st L cs l s es sz).mem v x:=⟨hr.mono hle (Lc.le_refl _),ht.move hst⟩
  unfold fzV
  split
  ·rename_i l' s' off len sz'
   split
   ·rename_i e
    obtain ⟨rfl,rfl⟩:=e
    obtain ⟨es0,s0,k1,k2,k3⟩:=ht.vec l' s' off len sz' rfl trivial
    rw [hl] at k1
    cases k1
    refine ⟨hrep off len x (k3 rfl) fun ad len' cap e => ?_,zax rfl⟩
    cases hr with
    | vec _ _ _ _ _ _ _ q =>
     cases e
     exact q.2 ad rfl
   ·exact old
  ·exact old
 refine ⟨κ',zbo τ l none,⟨h.defers,h.size,fun i => (h.tm i).mono hle (Lc.le_refl _),fun i => (h.tk i).move hst,⟨fun i => ?_,fun i i' b hi hi' => h.mem.inj i i' b (hblk i b hi) (hblk i' b hi'),hk,fun i hi => h.mem.dom i (by simpa [zgI] using hi),?_⟩,h.frm,h.xlt,by simpa [zgI] using h.prot,h.prm,
  h.kx.trans ⟨fun b o hb => hκo b (fun c e => hX b c e hb) o,fun b _ => hκm b⟩⟩,hle,fun _ _ _ q => q,hst.le h.prot⟩
 ·rw [hm]
  by_cases e1:i = L
  ·subst e1
   rw [if_pos rfl]
   have ho:=h.mem.obj i
   rw [hL] at ho
   obtain ⟨b,vs,T,h1,h2,h3,h4,h5,h6⟩:=ho
   refine ⟨b,vs,T,h1,h2,fun o => by rw [hκo b (hbl i b hne (by rw [hL]; exact h1))]; exact h3 o,h4,by rw [czz]; exact h5,fun j hj => ?_⟩
   rw [czz] at hj
   have e:(cs.map (fzV l s es)).getD j .undef = fzV l s es (cs.getD j .undef):=by simp [List.getD,hj]
   rw [e]
   exact (hfz _ _ (h6 j hj) (h.mem.toks i cs b vs T hL h1 h4 j hj)).1
  ·rw [if_neg e1]
   by_cases e2:i = l
   ·subst e2
    rw [if_pos rfl]
    exact ⟨fun i hi => by simp at hi,.inl ⟨by simp [zbo],rfl⟩⟩
   ·rw [if_neg e2]
    exact RelObj.mono (h.mem.obj i) hle (Lc.le_refl _) ⟨fun _ _ _ => by unfold zbo; rw [if_neg e2],fun _ _ _ _ => by unfold zbo; rw [if_neg e2]⟩ (fun b hb => rfl) (fun b hb => ⟨fun o => hκo b (hbl i b e2 hb) o,hκm b⟩)
 ·intro i cs' b vs T hi hb hh j hj
  rw [hm] at hi
  by_cases e1:i = L
  ·subst e1
   rw [if_pos rfl] at hi
   cases hi
   rw [czz] at hj
   have ho:=h.mem.obj i
   rw [hL] at ho
   obtain ⟨b',vs',T',h1,_,_,h4,h5,h6⟩:=ho
   obtain rfl:b = b':=by rw [hb] at h1; exact czK h1
   rw [hh] at h4
   cases h4
   have e:(cs.map (fzV l s es)).getD j .undef = fzV l s es (cs.getD j .undef):=by simp [List.getD,hj]
   rw [e]
   exact (hfz _ _ (h6 j hj) (h.mem.toks i cs b vs T hL h1 hh j hj)).2
  ·rw [if_neg e1] at hi
   by_cases e2:i = l
   ·subst e2; rw [if_pos rfl] at hi; cases hi
   ·rw [if_neg e2] at hi
    exact (h.mem.toks i cs' b vs T hi hb hh j hj).move hst
theorem Rel.freezeN {L:Nat}:∀ (n:Nat) {κ:Kn} {τ:Tc} {st st':St},Rel X w0 m0 κ ρ τ st a w → frzN n st L = some st' →
  ∃ κ' τ',st'.n = st.n ∧ Rel X w0 m0 κ' ρ τ' st' a w ∧ Ext m0 κ ρ τ st.mem κ' ρ τ' st'.mem
 | 0,κ,τ,st,st',h,e => by
  unfold frzN at e
  cases e
  exact ⟨κ,τ,rfl,h,Ext.refl _ _ _ _ _⟩
 | n + 1,κ,τ,st,st',h,e => by
  unfold frzN at e
  split at e
  ·rename_i cs hL
   split at e
   ·cases e
    exact ⟨κ,τ,rfl,h,Ext.refl _ _ _ _ _⟩
   ·rename_i l s hv
    split at e
    ·rename_i es sz s' hl
     split at e
     ·rename_i hs
      subst hs
      obtain ⟨κ1,τ1,h1,h2⟩:=h.freeze hl hL
      obtain ⟨κ2,τ2,hn,h3,h4⟩:=Rel.freezeN n h1 e
      exact ⟨κ2,τ2,hn,h3,h2.trans h4⟩
     ·cases e
    ·cases e
  ·cases e
theorem zlm (h:Rel X w0 m0 κ ρ τ st a w) {l sz len:Nat} {t:TypeId} {e:TypeId} {es:List (List AV)} {parts:Array (Nat × Operand)}
  (hl:zaa st.mem l = .vec [] sz 0) (hsl:zbs P t = some (e,sz)) (hb:zc6 P t len (parts.toList.map fun q => (q.1,(evT st.tm q.2).un)) = some es)
  (hav:zgz (parts.toList.map fun q => (evT st.tm q.2).av)) :
  ∃ v w' τ',(Instr.buildSlice t len (parts.map fun (i,x) => (i,a.eval x))).run P w = .ok v w' ∧
   Rel X w0 m0 κ ρ τ' { st with mem:=st.mem.set l (.vec es sz 1) } a w' ∧ Ext m0 κ ρ τ st.mem κ ρ τ' (st.mem.set l (.vec es sz 1)) ∧
   Rep κ ρ (.vec l 1 0 len sz) v ∧ TokOK τ' (st.mem.set l (.vec es sz 1)) (.vec l 1 0 len sz) v:=by
 have hlt:l < st.mem.length:=za9 hl (by simp)
 have hparts:=zhm (κ:=κ) (ρ:=ρ) (σ:=fun x => (evT st.tm x).un) (e:=a.eval) parts.toList (fun x hx => (h.ev x).un (by
  obtain ⟨q,hq,rfl⟩:=czx.1 hx
  exact zcI hav _ (czx.2 ⟨q,hq,rfl⟩)))
 obtain ⟨e',s',vs,k1,k2,k3,k4,k5,k6⟩:=znQ (P:=P) (w:=w) (κ:=κ) (ρ:=ρ) (partsC:=parts.map fun (i,x) => (i,a.eval x)) (by simp) (by simpa using hparts) hb
 rw [hsl] at k1
 cases k1
 let w2:World:={ w with heap:=w.heap.push (.cells vs e) }
 have hw2:∀ b',b' ≠ w.heap.size → w2.heap[b']? = w.heap[b']?:=fun b' hb' => zba w (.cells vs e) b' hb'
 have hw2n:w2.heap[w.heap.size]? = some (.cells vs e (0,0)):=za0 w (.cells vs e)
 have hκn:∀ o,κ w.heap.size o = none:=Kn.fresh_c h.mem.know
 have hk':zcw κ w2:=by
  refine ⟨fun b' o v hv => ?_,fun b' es' hm => ze6 _ (h.mem.know.m b' es' hm)⟩
  have h1:=h.mem.know.c _ _ _ hv
  have h2:=zeh h1
  rw [← h1]
  unfold World.cell?
  rw [hw2 b' (by omega)]
 have hX:¬ X w.heap.size:=fun hb => by have:=h.xlt _ hb; have:=h.frm.size; omega
 obtain ⟨r1,r2⟩:=h.revec (s':=1) (es':=es) (bl:=w.heap.size) (c:=vs.size) (κ':=κ) (w':=w2) hl (by omega) (Kn.le_refl _) hk'
  ⟨fun i hi => k5 i (by omega),.inr ⟨w.heap.size,vs.size,vs,e,by simp [zbo],hX,hκn,hw2n,rfl,by rw [k3,k4]; exact czf _,fun i j hi hj => k6 i j (by omega) hj⟩⟩
  (fun b' hb' _ => hw2 b' hb') (fun _ _ _ => rfl) (fun _ => rfl)
  (fun i' b' _ hb' e' => by subst e'; have:=h.mem.blk_lt hb'; omega)
  ⟨h.frm.os,h.frm.tape,h.frm.output,by show _ ≤ (w.heap.push _).size; simp; have:=h.frm.size; omega,fun b' hb' => by rw [hw2 b' (by have:=h.xlt b' hb'; have:=h.frm.size; omega)]; exact h.frm.block b' hb'⟩ hX
 refine ⟨_,w2,_,k2,r1,r2,.vec _ _ _ _ _ _ _ ⟨⟨(by intro q; cases q),czf _⟩,fun ad q => by cases q; rfl⟩,
  zfF ⟨_,_,by rw [zap _ _ _ _ hlt,if_pos rfl],czf _,fun _ => ⟨_,len,rfl,czf _,by omega,.inr ⟨w.heap.size,vs.size,by simp [zbo],by simp,by rw [k3,Nat.zero_add]; exact czf _⟩⟩⟩⟩
theorem zpG {o:Oper} {d:Tmp} {K:St → Prop} (ho:o.dst = some d) (h:Rel X w0 m0 κ ρ τ st a w) (hK:vecA P o d K st):zpB P X w0 m0 κ ρ τ st a w o K:=by
 unfold vecA at hK
 split at hK
 ·rename_i args ts hop
  split at hK
  ·rename_i x s t0 t1 hargs hts
   split at hK
   ·rename_i fs tk' e sz e1 sz1 hdv hsv hs0 hs1
    split at hK
    ·rename_i by_ z hby hz
     obtain ⟨hd,hav,has,hzl,hb0,hfs,hone,hbd,hK⟩:=hK
     have hxa:args = #[x,s]:=by rw [← Array.toList_inj]; exact hargs
     have hta:ts = #[t0,t1]:=by rw [← Array.toList_inj]; exact hts
     subst hxa
     subst hta
     have rd:=(h.ev x).un hav
     have rs:=(h.ev s).un has
     rw [hdv] at rd
     rw [hsv] at rs
     obtain ⟨τ1,h0,h1,h2⟩:=h.newVec sz
     obtain ⟨q1,q2⟩:=ze9 (τ:=τ1) (l:=st.mem.length) (sz:=sz) rd
     obtain ⟨v,w',τ',r1,r2,r3,r4,r5⟩:=zj4 (ty:=o.type) (l:=st.mem.length) (len:=0) (s:=0) (es:=[]) h1 hs0 hs1 hby hz hzl hb0 hfs hone (by simpa using hbd) (by rw [zb0,if_pos rfl]) q2 q1 (zc8 h.mem.know rs hfs)
     have hset:(st.mem ++ [AObj.vec [] sz 0]).set st.mem.length (.vec ([].take 0 ++ fs) sz (0 + 1)) = st.mem ++ [AObj.vec fs sz 1]:=by simp
     simp only [hset,Nat.zero_add] at r2 r3 r4 r5
     refine ⟨.value v,v,w',κ,ρ,τ',{ st with mem:=st.mem ++ [AObj.vec fs sz 1] }.put o.dst (.vec st.mem.length 1 0 fs.length sz),?_,.inl rfl,?_,h2.trans r3,by rw [ho]; exact hK⟩
     ·simp [execOp,hop,resolve,invoke,builtin,r1]
     ·exact r2.putV (Grow.refl r2.mem.know) (by rw [ho]; exact hd) r4 r5
    ·exact hK.elim
   ·exact hK.elim
  ·exact hK.elim
 ·rename_i t len parts hop
  split at hK
  ·rename_i e sz es hsl hb
   obtain ⟨hd,hav,hK⟩:=hK
   obtain ⟨τ1,h0,h1,h2⟩:=h.newVec sz
   obtain ⟨v,w',τ',r1,r2,r3,r4,r5⟩:=zlm (P:=P) (l:=st.mem.length) (sz:=sz) (len:=len) (t:=t) (parts:=parts) h1 (by rw [zb0,if_pos rfl]) hsl hb hav
   have hset:(st.mem ++ [AObj.vec [] sz 0]).set st.mem.length (.vec es sz 1) = st.mem ++ [AObj.vec es sz 1]:=by simp
   simp only [hset] at r2 r3 r5
   refine ⟨.value v,v,w',κ,ρ,τ',{ st with mem:=st.mem ++ [AObj.vec es sz 1] }.put o.dst (.vec st.mem.length 1 0 len sz),?_,.inl rfl,?_,h2.trans r3,by rw [ho]; exact hK⟩
   ·simp [execOp,hop,r1]
   ·exact r2.putV (Grow.refl r2.mem.know) (by rw [ho]; exact hd) r4 r5
  ·exact hK.elim
 ·rename_i t x hop
  split at hK
  ·rename_i L off hx
   split at hK
   ·rename_i st' hf
    split at hK
    ·rename_i p v hs
     obtain ⟨hp,hd,hK⟩:=hK
     obtain ⟨κ1,τ1,hn,h1,h2⟩:=h.freezeN 4 hf
     obtain ⟨y,w',κ2,r1,r2,r3,r4⟩:=zha h1 hs hp
     exact ⟨.value y,y,w',κ2,ρ,τ1,st'.put o.dst v,r1,.inl rfl,h1.putV r4 (by rw [ho,hn]; exact hd) r2 r3,h2.trans ⟨r4.le,fun _ _ _ q => q,TStep.refl _ _ _⟩,by rw [ho]; exact hK⟩
    ·exact hK.elim
   ·exact hK.elim
  ·exact hK.elim
 ·exact hK.elim
theorem zmC {o:Oper} {K:St → Prop} {next:Act → World → Prop} {Q:Exit → Act → World → Prop} (hΦ:zam P Φ) (h:Rel X w0 m0 κ ρ τ st a w) (hK:stepA P Φ o K st)
  (hn:Next X w0 m0 κ ρ τ st K next):o.wpIn (Fw rd) 0 P a w next Q:=by
 unfold stepA at hK
 split at hK
 ·rename_i d hfl
  split at hK
  ·exact zge h hK hn
  ·exact zbB (zpG (zqB hfl) h hK) hn
 split at hK
 ·rename_i p v hs
  obtain ⟨hp,hd,hk⟩:=hK
  exact ziG hΦ h hs hp (fun x w' κ' h1 h2 h3 => hn _ _ _ _ _ _ (h.putV h3 hd h1 h2) ⟨h3.le,fun _ _ _ q => q,TStep.refl _ _ _⟩ hk)
 ·split at hK
  ·rename_i p es sz hs
   obtain ⟨hp,hd,hk⟩:=hK
   exact frA_sound hΦ h hs hp hd hk hn
  ·exact zge h hK hn
end
end Go.Fs
namespace Go.Fs
open Go.RowKit (Below)
section
variable {P:Program} {Φ:zay} {X:Nat → Prop} {w0:W0} {w w':World} {m0:Nat} {κ κ':Kn} {ρ:Lc} {τ:Tc} {st:St} {a:Act} {rd:Option Nat}
theorem zk7 (_h:Rel X w0 m0 κ ρ τ st a w) {d:Nat} {b:Bool} (hv:a.tmps.getD d Go.undef = .bool b):a.tmps[d]? = some (.bool b):=by
 rw [czo] at hv
 cases hq:a.tmps[d]? with
 | none => rw [hq] at hv; cases hv
 | some x => rw [hq] at hv; simpa using hv
theorem zee {ops:Array Oper} {o:Oper} {g:Option Bool} (h:Rel X w0 m0 κ ρ τ st a w) (hg:zcy (ops.toList.map (·.dst)) st.tm o = some g) :
  Region.wanted o (yielded ops a.tmps) = g.getD true:=by
 unfold zcy at hg
 unfold Region.wanted
 cases hgu:o.guard with
 | none => rw [hgu] at hg; simp at hg; subst hg; rfl
 | some q =>
  obtain ⟨j,want⟩:=q
  rw [hgu] at hg
  dsimp only at hg ⊢
  have hds:(ops.toList.map (·.dst)).getD j none = (ops[j]?).bind (·.dst):=by
   simp only [List.getD,List.getElem?_map,Array.getElem?_toList]
   cases ops[j]? <;> rfl
  rw [hds] at hg
  split at hg
  ·rename_i d hd
   have hy:yielded ops a.tmps j = match a.tmps[d]? with
     | some (.bool b) => some b
     | _ => none:=by
    unfold yielded
    rw [hd]
    rfl
   have htm:=h.tm d
   unfold St.get at htm
   split at hg
   ·rename_i b hb
    rw [hb] at htm
    simp at hg
    subst hg
    rw [hy,zk7 h htm.bool_inv]
    cases want <;> cases b <;> rfl
   ·rename_i g' b hb
    rw [hb] at htm
    simp at hg
    subst hg
    generalize hx:a.tmps.getD d Go.undef = x at htm
    cases htm with
    | onlyIf _ _ _ h1 h0 =>
     cases g' with
     | true =>
      have:=(h1 rfl).bool_inv
      rw [this] at hx
      rw [hy,zk7 h hx]
      cases want <;> cases b <;> rfl
     | false =>
      have:=h0 rfl
      rw [this] at hx
      have:yielded ops a.tmps j = none:=by
       rw [hy]
       rw [czo] at hx
       cases hq:a.tmps[d]? with
       | none => rfl
       | some x => rw [hq] at hx; simp at hx; subst hx; rfl
      rw [this]
      rfl
   ·cases hg
  ·cases hg
theorem zg4 (hΦ:zam P Φ) {ops:Array Oper} {Q:Exit → Act → World → Prop} {K:St → Prop} :
  ∀ (os:List Oper) (i:Nat) (κ:Kn) (ρ:Lc) (τ:Tc) (st:St) (a:Act) (w:World),(∀ j,os[j]? = ops[i + j]?) → Rel X w0 m0 κ ρ τ st a w →
   zcj P Φ (ops.toList.map (·.dst)) os K st → Next X w0 m0 κ ρ τ st K (fun a w => Q .normal a w) → wpOpsIn (Fw rd) 0 P ops Q (List.range' i os.length) a w
 | [],i,κ,ρ,τ,st,a,w,_,h,hv,hn => hn _ _ _ _ _ _ h (Ext.refl _ _ _ _ _) hv
 | o :: os,i,κ,ρ,τ,st,a,w,hos,h,hv,hn => by
  have ho:ops[i]? = some o:=by simpa using (hos 0).symm
  have hos':∀ j,os[j]? = ops[i + 1 + j]?:=fun j => by
   have:=hos (j + 1)
   rw [czS] at this
   rw [this]
   congr 1
   omega
  have ih:Next X w0 m0 κ ρ τ st (zcj P Φ (ops.toList.map (·.dst)) os K) (wpOpsIn (Fw rd) 0 P ops Q (List.range' (i + 1) os.length)) :=
   fun κ' ρ' τ' st' a' w' h' he' hk' => zg4 hΦ os (i + 1) κ' ρ' τ' st' a' w' hos' h' hk' (fun κ'' ρ'' τ'' st'' a'' w'' h'' he'' hk'' => hn _ _ _ _ _ _ h'' (he'.trans he'') hk'')
  simp only [cza,List.range'_succ,wpOpsIn,ho]
  unfold zcj at hv
  split at hv
  ·exact hv.elim
  ·rename_i hg
   rw [zee h hg]
   simp only [Option.getD_none,if_true]
   exact zmC hΦ h hv ih
  ·rename_i g hg
   rw [zee h hg]
   simp only [Option.getD_some]
   split at hv
   ·rename_i p v hs
    obtain ⟨hd,hp,hk⟩:=hv
    cases g with
    | true =>
     simp only [if_true]
     exact ziG hΦ h hs (hp rfl) (fun x w' κ' h1 h2 h3 => ih _ _ _ _ _ _ (h.putV h3 hd (.onlyIf true v x (fun _ => h1) (fun e => by cases e))
      (TokOK.only fun _ => h2)) ⟨h3.le,fun _ _ _ q => q,TStep.refl _ _ _⟩ hk)
    | false =>
     simp only [czp,if_false]
     exact ⟨fun _ _ => trivial,ih _ _ _ _ _ _ (h.putV (Grow.refl h.mem.know) hd (.onlyIf false v _ (fun e => by cases e) (fun _ => rfl))
      (TokOK.only fun e => by cases e)) (Ext.refl _ _ _ _ _) hk⟩
   ·cases g with
    | true =>
     simp only [if_true]
     exact zge h (hv.1 rfl) ih
    | false =>
     simp only [czp,if_false]
     obtain ⟨hd,hk⟩:=hv.2 rfl
     exact ⟨fun _ _ => trivial,ih _ _ _ _ _ _ (h.putV (Grow.refl h.mem.know) hd (.undef _) (zax rfl)) (Ext.refl _ _ _ _ _) hk⟩
/-! Less is known. -/
theorem zej {k:Nat} {ρ':Lc} (hρ:∀ l b,l < k → ρ l = some b → ρ' l = some b):∀ (n:Nat) {v:AV} {x:Value},bel k n v → Rep κ ρ v x → Rep κ ρ' v x
 | 0,v,x,hi,_ => by simp [bel] at hi
 | n + 1,v,x,hi,h => by
  have ih:∀ {v:AV} {x:Value},bel k n v → Rep κ ρ v x → Rep κ ρ' v x:=fun hi h => zej hρ n hi h
  cases h with
  | undef x => exact .undef x
  | int k n => exact .int k n
  | bool b => exact .bool b
  | nilp => exact .nilp
  | nilf => exact .nilf
  | agg cs vs hs h =>
   simp only [bel] at hi
   exact .agg _ _ hs (fun i hl => ih (hi _ (za5 hl)) (h i hl))
  | tup cs vs hs h =>
   simp only [bel] at hi
   exact .tup _ _ hs (fun i hl => ih (hi _ (za5 hl)) (h i hl))
  | slnil tk => exact .slnil tk
  | sl es tk b o cap sz val hsz hk h ht hcap =>
   simp only [bel] at hi
   exact .sl es tk b o cap sz val hsz hk (fun i j hl hj => ih (hi.1 _ (zhr hl) _ (za5 (by rw [hsz i hl]; exact hj))) (h i j hl hj)) ht hcap
  | ref es off b o val hk h =>
   simp only [bel] at hi
   exact .ref es off b o val hk (fun j hj => ih (hi _ (za5 hj)) (h j hj))
  | ptr l off b hl => exact .ptr l off b (hρ _ _ (by simpa [bel] using hi) hl)
  | arr l off len sz b cap hl hcap => exact .arr l off len sz b cap (hρ _ _ (by simpa [bel] using hi) hl) hcap
  | fn f fst cap vs ws h1 h2 h3 h4 =>
   simp only [bel] at hi
   exact .fn f _ _ vs ws h1 h2 (fun i hl => ih (hi.1 _ (za5 hl)) (h3 i hl)) (fun i hl => ih (hi.2 _ (za5 hl)) (h4 i hl))
  | mpr ks vs b es hm hl hs hk h =>
   simp only [bel] at hi
   exact .mpr ks vs b es hm hl hs hk (fun i hl' => ih (hi _ (za5 (by omega))) (h i hl'))
  | mp l b hl => exact .mp l b (hρ _ _ (by simpa [bel] using hi) hl)
  | yld l b hl => exact .yld l b (hρ _ _ (by simpa [bel] using hi) hl)
  | vec l s off len sz a cap h => exact .vec l s off len sz a cap h
  | vp l s i off a => exact .vp l s i off a
  | onlyIf g v x h h0 =>
   simp only [bel] at hi
   exact .onlyIf g v x (fun hg => ih hi (h hg)) h0
theorem zlq {k:Nat}:∀ (n:Nat) {v:AV},bel k n v → ∃ m,bel k m v.un
 | 0,v,hi => by simp [bel] at hi
 | n + 1,v,hi => by
  cases v with
  | onlyIf g v => exact zlq n (v:=v) (by simpa only [bel] using hi)
  | _ => exact ⟨n + 1,hi⟩
theorem bel_tok {k:Nat} (n:Nat) {v:AV} {es:List (List AV)} {l:Nat} (hi:bel k n v) (e:v.un = .sl es (.own l)):l < k:=by
 obtain ⟨m,h⟩:=zlq n hi
 rw [e] at h
 cases m <;> simp only [bel] at h
 exact h.2
theorem bel_vecL {k:Nat} (n:Nat) {v:AV} {l s off len sz:Nat} (hi:bel k n v) (e:v.un = .vec l s off len sz):l < k:=by
 obtain ⟨m,h⟩:=zlq n hi
 rw [e] at h
 cases m <;> simpa only [bel] using h
theorem bel_vpL {k:Nat} (n:Nat) {v:AV} {l s i off:Nat} (hi:bel k n v) (e:v.un = .vp l s i off):l < k:=by
 obtain ⟨m,h⟩:=zlq n hi
 rw [e] at h
 cases m <;> simpa only [bel] using h
theorem zk0:∀ (tm:List (Nat × AV)) (i:Nat),lk tm i = .undef ∨ ∃ q ∈ tm,q.1 = i ∧ q.2 = lk tm i
 | [],_ => .inl rfl
 | (j,v) :: r,i => by
  unfold lk
  split
  ·rename_i e; subst e; exact .inr ⟨(i,v),by simp,rfl,rfl⟩
  ·rcases zk0 r i with h | ⟨q,h1,h2,h3⟩
   ·exact .inl h
   ·exact .inr ⟨q,by simp [h1],h2,h3⟩
def cutL (ρ:Lc) (k:Nat):Lc:=fun l => if l < k then ρ l else none
theorem DefOk.cut {k:Nat}:∀ {ls:List Nat} {ds:List Deferred},(∀ l ∈ ls,l < k) → DefOk ρ ls ds → DefOk (cutL ρ k) ls ds
 | [],_,_,h => h
 | l :: _,_,hk,⟨b,rest,h1,h2,h3⟩ => ⟨b,rest,by unfold cutL; rw [if_pos (hk l (by simp))]; exact h1,h2,h3.cut (fun l hl => hk l (by simp [hl]))⟩
theorem Rel.weak {st':St} (h:Rel X w0 m0 κ ρ τ st a w) (hw:zrn st st') :
  Rel X w0 m0 κ (cutL ρ st'.mem.length) τ st' a w ∧ Ext m0 κ ρ τ st.mem κ (cutL ρ st'.mem.length) τ st'.mem:=by
 obtain ⟨w1,w2,w3,w4,⟨r,w5⟩,w6,w7,w8⟩:=hw
 have hm0:m0 ≤ st'.mem.length:=by rw [← h.prm]; exact w4
 have hρ:∀ l b,l < st'.mem.length → ρ l = some b → cutL ρ st'.mem.length l = some b:=fun l b hl hb => by unfold cutL; rw [if_pos hl]; exact hb
 have hget:∀ i,st'.get i = .undef ∨ ((st.get i = st'.get i ∨ (st.get i).bare = st'.get i) ∧ bel st'.mem.length 9 (st'.get i)):=fun i => by
  rcases zk0 st'.tm i with hq | ⟨q,q1,q2,q3⟩
  ·exact .inl hq
  ·right
   obtain ⟨e1,e2⟩:=w6 q q1
   unfold St.get
   rw [← q3,← q2]
   exact ⟨e1,e2⟩
 have hmem:∀ l,l < st'.mem.length → zaa st.mem l = zaa st'.mem l:=fun l hl => by rw [w5]; exact zgq _ _ _ hl
 have hdead:∀ l,¬ l < st'.mem.length → zaa st'.mem l = .dead:=fun l hl => by
  unfold zaa
  simp [List.getD,czB (czE hl)]
 have htok:∀ v x,TokOK τ st.mem v x → bel st'.mem.length 9 v → TokOK τ st'.mem v x:=fun v x hv hb => by
  have h1:∀ (n:Nat) (v:AV) (x:Value),Tok1 τ st.mem v x → bel st'.mem.length n v → Tok1 τ st'.mem v x:=fun n v x hv hb => by
   refine ⟨fun es l e ha => ?_,fun l s off len sz e ha => ?_,fun l s i off e ha => ?_⟩
   ·rw [← hmem l (bel_tok n hb e)]; exact hv.own es l e ha
   ·rw [← hmem l (bel_vecL n hb e)]; exact hv.vec l s off len sz e ha
   ·rw [← hmem l (bel_vpL n hb e)]; exact hv.vp l s i off e ha
  refine ⟨h1 9 v x hv.toTok1 hb,fun cs xs e ha ex i hi => ?_⟩
  obtain ⟨m,hm⟩:=zlq 9 hb
  rw [e] at hm
  cases m with
  | zero => simp [bel] at hm
  | succ m =>
   simp only [bel] at hm
   exact h1 m _ _ (hv.agg cs xs e ha ex i hi) (hm _ (za5 hi))
 have hbelO:∀ l cs,zaa st'.mem l = .cells cs → ∀ i,i < cs.length → bel st'.mem.length 9 (cs.getD i .undef):=fun l cs hl i hi => by
  have hlt:=za9 hl (by simp)
  have hin:AObj.cells cs ∈ st'.mem:=by
   unfold zaa at hl
   simp only [List.getD,czw hlt,Option.getD_some] at hl
   rw [← hl]
   exact List.getElem_mem hlt
  exact w7 _ hin _ (za5 hi)
 have hbelM:∀ l,l < st'.mem.length → zcK st'.mem.length (zaa st'.mem l):=fun l hlt => by
  have hin:zaa st'.mem l ∈ st'.mem:=by
   unfold zaa
   simp only [List.getD,czw hlt,Option.getD_some]
   exact List.getElem_mem hlt
  exact w7 _ hin
 have hblk:∀ l,blk (cutL ρ st'.mem.length) τ l (zaa st'.mem l) = if l < st'.mem.length then blk ρ τ l (zaa st.mem l) else none:=fun l => by
  split
  ·rename_i hl
   rw [hmem l hl]
   cases zaa st'.mem l <;> simp [blk,cutL,hl]
  ·rename_i hl
   rw [hdead l hl]
   rfl
 refine ⟨⟨?_,by rw [w1]; exact h.size,fun i => ?_,fun i => ?_,⟨fun l => ?_,fun l l' b hl hl' => ?_,h.mem.know,fun l hl => ?_,?_⟩,h.frm,h.xlt,hm0,by rw [w3]; exact h.prm,h.kx⟩,
  Kn.le_refl _,fun l b hl hb => hρ l b (by omega) hb,TStep.same (fun l hl => (hmem l (by omega)).symm) (fun _ _ => rfl)⟩
 ·have:=h.defers
  rw [← w2] at this
  exact this.cut w8
 ·rcases hget i with hq | ⟨hq,hb⟩
  ·rw [hq]; exact .undef _
  ·have:=h.tm i
   rcases hq with hq | hq
   ·rw [hq] at this
    exact zej hρ 9 hb this
   ·have:=this.bare
    rw [hq] at this
    exact zej hρ 9 hb this
 ·rcases hget i with hq | ⟨hq,hb⟩
  ·rw [hq]; exact zax rfl
  ·have:=h.tk i
   rcases hq with hq | hq
   ·rw [hq] at this
    exact htok _ _ this hb
   ·have:=this.bare
    rw [hq] at this
    exact htok _ _ this hb
 ·by_cases hl:l < st'.mem.length
  ·have ho:=h.mem.obj l
   rw [hmem l hl] at ho
   cases hm:zaa st'.mem l with
   | dead => trivial
   | cells cs =>
    rw [hm] at ho
    obtain ⟨b,vs,T,h1,h2,h3,h4,h5,h6⟩:=ho
    exact ⟨b,vs,T,hρ _ _ hl h1,h2,h3,h4,h5,fun i hi => zej hρ 9 (hbelO l cs hm i hi) (h6 i hi)⟩
   | tok n sz => rw [hm] at ho; exact ho
   | vec es sz s =>
    have hbl:=hbelM l hl
    rw [hm] at ho hbl
    refine ⟨ho.1,?_⟩
    rcases ho.2 with ho | ⟨b,c,vs,T,h1,h2,h3,h4,h5,h6,h7⟩
    ·exact .inl ho
    ·exact .inr ⟨b,c,vs,T,h1,h2,h3,h4,h5,h6,fun i j hi hj => zej hρ 9 (hbl _ (zhr hi) _ (za5 (by rw [ho.1 i hi]; exact hj))) (h7 i j hi hj)⟩
   | deferred =>
    rw [hm] at ho
    obtain ⟨b,h1,h2,h3⟩:=ho
    exact ⟨b,hρ _ _ hl h1,h2,h3⟩
   | loop s pend tm n ps asg body =>
    have hbl:=hbelM l hl
    rw [hm] at ho hbl
    obtain ⟨b,lp,h1,h2,h3,h4,h5⟩:=ho
    refine ⟨b,lp,hρ _ _ hl h1,h2,h3,h4,fun i => ?_⟩
    rcases zk0 tm i with hq | ⟨q,q1,_,q3⟩
    ·rw [hq]; exact .undef _
    ·rw [← q3]
     exact zej hρ 9 (hbl q q1) (by rw [q3]; exact h5 i)
   | map ks vs =>
    have hbl:=hbelM l hl
    rw [hm] at ho hbl
    obtain ⟨b,es,h1,h2,h3,h4,h5⟩:=ho
    exact ⟨b,es,hρ _ _ hl h1,h2,h3,h4,h5.1,h5.2.1,h5.2.2.1,fun i hi => zej hρ 9 (hbl _ (za5 (by have:=h5.1; omega))) (h5.2.2.2 i hi)⟩
   | iter src n seen =>
    have hbl:=hbelM l hl
    rw [hm] at ho hbl
    obtain ⟨b,mb,h1,h2,h3,h4⟩:=ho
    exact ⟨b,mb,hρ _ _ hl h1,h2,h3,zej hρ 9 hbl h4⟩
  ·rw [hdead l hl]; trivial
 ·rw [hblk] at hl hl'
  split at hl <;> split at hl'
  ·exact h.mem.inj l l' b hl hl'
  ·cases hl'
  ·cases hl
  ·cases hl
 ·unfold cutL
  rw [if_neg (by omega)]
 ·intro l cs b vs T hl hb hh i hi
  have hlt:=za9 hl (by simp)
  unfold cutL at hb
  rw [if_pos hlt] at hb
  exact htok _ _ (h.mem.toks l cs b vs T (by rw [hmem l hlt]; exact hl) hb hh i hi) (hbelO l cs hl i hi)
theorem zk9 {τ:Tc} {es:List (List AV)} {x:Value} {l sz:Nat} (h:Rep κ ρ (.sl es .full) x):Fits τ l sz x:=by
 cases h with
 | slnil => exact ⟨none,0,0,rfl,.inl rfl⟩
 | sl _ _ b o cap _ _ _ _ _ ht _ => exact ⟨_,_,_,rfl,.inl (ht rfl)⟩
theorem zoC {es:List (List AV)} {x:Value} {l:Nat} (h:Rep κ ρ (.sl es .full) x):Rep κ ρ (.sl es (.own l)) x:=by
 cases h with
 | slnil => exact .slnil _
 | sl _ _ b o cap sz val hsz hk hr ht hc => exact .sl es _ b o cap sz val hsz hk hr (fun e => by cases e) hc
theorem Rel.newSlot (h:Rel X w0 m0 κ ρ τ st a w) {O:AObj} (hO:NewO O) (i:Nat) (v':AV)
  (hv:∀ (τ':Tc) x,τ' st.mem.length = none → Rep κ ρ (lk st.tm i) x → Rep κ ρ v' x ∧ TokOK τ' (st.mem ++ [O]) v' x) :
  ∃ τ',Rel X w0 m0 κ ρ τ' { st with tm:=(i,v') :: st.tm,mem:=st.mem ++ [O] } a w ∧ Ext m0 κ ρ τ st.mem κ ρ τ' (st.mem ++ [O]):=by
 refine ⟨fun l => if l = st.mem.length then none else τ l,⟨h.defers,h.size,fun j => ?_,fun j => ?_,h.mem.newO hO,h.frm,h.xlt,?_,h.prm,h.kx⟩,Kn.le_refl _,fun _ _ _ q => q,zdL _ _ _ _ h.prot⟩
 ·unfold St.get lk
  split
  ·rename_i e; subst e; exact (hv (fun l => if l = st.mem.length then none else τ l) _ (by simp) (h.tm _)).1
  ·exact h.tm j
 ·unfold St.get lk
  split
  ·rename_i e; subst e; exact (hv _ _ (by simp) (h.tm _)).2
  ·exact (h.tk j).move (zdL _ _ _ _ (czf _))
 ·have:=h.prot; simp; omega
theorem Rel.newCell (h:Rel X w0 m0 κ ρ τ st a w) {O:AObj} (hO:NewO O) {l o:Nat} {cs:List AV} (hcs:zaa st.mem l = .cells cs) (v':AV)
  (hv:∀ (τ':Tc) (mem':List AObj) x,τ' st.mem.length = none → zaa mem' st.mem.length = O → Rep κ ρ (cs.getD o .undef) x → Rep κ ρ v' x ∧ TokOK τ' mem' v' x) :
  ∃ τ',Rel X w0 m0 κ ρ τ' { st with mem:=st.mem.set l (AObj.cells (cs.set o v')) ++ [O] } a w ∧ Ext m0 κ ρ τ st.mem κ ρ τ' (st.mem.set l (AObj.cells (cs.set o v')) ++ [O]):=by
 have hlt:=za9 hcs (by simp)
 have hset:∀ k,zaa (st.mem.set l (AObj.cells (cs.set o v'))) k = if k = l then AObj.cells (cs.set o v') else zaa st.mem k:=fun k => by
  unfold zaa
  simp only [List.getD,List.getElem?_set]
  by_cases e:l = k
  ·subst e; simp [hlt]
  ·rw [if_neg e,if_neg (fun q => e q.symm)]
 have hlen:(st.mem.set l (AObj.cells (cs.set o v'))).length = st.mem.length:=by simp
 have hsn:∀ k,zaa (st.mem.set l (AObj.cells (cs.set o v')) ++ [O]) k = if k = st.mem.length then O else if k = l then AObj.cells (cs.set o v') else zaa st.mem k:=fun k => by
  rw [zb0,hlen,hset]
 have hst:TStep st.mem.length τ st.mem (fun l => if l = st.mem.length then none else τ l) (st.mem.set l (AObj.cells (cs.set o v')) ++ [O]):=by
  refine ⟨fun k n sz hk hm => ⟨n,?_,czf _,fun _ => by rw [if_neg (by omega)]⟩,fun k es sz s hk hm => ⟨es,s,?_,czf _,fun _ => ⟨rfl,by rw [if_neg (by omega)]⟩⟩⟩
  ·rw [hsn,if_neg (by omega),if_neg (fun q => by rw [q,hcs] at hm; cases hm)]; exact hm
  ·rw [hsn,if_neg (by omega),if_neg (fun q => by rw [q,hcs] at hm; cases hm)]; exact hm
 have htok:∀ v x,TokOK τ st.mem v x → TokOK (fun l => if l = st.mem.length then none else τ l) (st.mem.set l (AObj.cells (cs.set o v')) ++ [O]) v x:=fun v x hv => hv.move hst
 have hblk:∀ k,blk ρ (fun l => if l = st.mem.length then none else τ l) k (zaa (st.mem.set l (AObj.cells (cs.set o v')) ++ [O]) k) = if k = st.mem.length then none else blk ρ τ k (zaa st.mem k):=fun k => by
  rw [hsn]
  split
  ·rename_i e; exact hO.blk (by simp [e])
  ·rename_i e
   split
   ·rename_i e2; subst e2; rw [hcs]; rfl
   ·exact zoR e
 have ho:=h.mem.obj l
 rw [hcs] at ho
 obtain ⟨b,vs,T,h1,h2,h3,h4,h5,h6⟩:=ho
 have hget:∀ i,(cs.set o v').getD i .undef = if i = o ∧ o < cs.length then v' else cs.getD i .undef:=fun i => by
  simp only [List.getD,List.getElem?_set]
  by_cases e:o = i
  ·subst e
   by_cases q:o < cs.length
   ·simp [q]
   ·simp [q]
  ·rw [if_neg e,if_neg (fun q => e q.1.symm)]
 refine ⟨fun l => if l = st.mem.length then none else τ l,⟨h.defers,h.size,h.tm,fun j => htok _ _ (h.tk j),⟨fun k => ?_,fun k k' b hk hk' => ?_,h.mem.know,fun k hk => h.mem.dom k (by simp at hk; omega),fun k cs' b' vs' T' hk hb' hh' i hi => ?_⟩,h.frm,h.xlt,?_,h.prm,h.kx⟩,
  Kn.le_refl _,fun _ _ _ q => q,hst.le h.prot⟩
 ·rw [hsn]
  split
  ·rename_i e; exact hO.rel (by simp [e])
  ·rename_i e
   split
   ·rename_i e2
    subst e2
    refine ⟨b,vs,T,h1,h2,h3,h4,by simpa using h5,fun i hi => ?_⟩
    rw [hget]
    split
    ·rename_i q
     obtain ⟨rfl,q⟩:=q
     exact (hv (fun l => if l = st.mem.length then none else τ l) _ _ (by simp) (by rw [hsn,if_pos rfl]) (h6 i q)).1
    ·exact h6 i (by simpa using hi)
   ·exact (h.mem.obj k).mono (Kn.le_refl _) (Lc.le_refl _) ⟨fun _ _ _ => by simp [e],fun _ _ _ _ => by simp [e]⟩ (fun _ _ => rfl) (fun _ _ => ⟨fun _ => rfl,rfl⟩)
 ·rw [hblk] at hk hk'
  split at hk <;> split at hk'
  ·cases hk
  ·cases hk
  ·cases hk'
  ·exact h.mem.inj k k' b hk hk'
 ·rw [hsn] at hk
  split at hk
  ·exact absurd hk (hO.ne_cells _)
  ·split at hk
   ·rename_i e2
    subst e2
    cases hk
    rw [hget]
    have hi':i < cs.length:=by simpa using hi
    obtain rfl:b = b':=by rw [h1] at hb'; exact czK hb'
    have hv':vs' = vs:=by rw [h4] at hh'; cases hh'; rfl
    subst hv'
    split
    ·rename_i q
     obtain ⟨rfl,q⟩:=q
     exact (hv _ _ _ (by simp) (by rw [hsn,if_pos rfl]) (h6 i q)).2
    ·exact htok _ _ (h.mem.toks k cs b vs' T hcs h1 h4 i hi')
   ·exact htok _ _ (h.mem.toks k cs' b' vs' T' hk hb' hh' i hi)
 ·have:=h.prot; simp; omega
theorem Rel.tokz1 (h:Rel X w0 m0 κ ρ τ st a w) (t:TZ):∃ τ',Rel X w0 m0 κ ρ τ' (tokz1 t st) a w ∧ Ext m0 κ ρ τ st.mem κ ρ τ' (tokz1 t st).mem:=by
 cases t with
 | slot i sz =>
  unfold Go.Fs.tokz1
  dsimp only
  split
  ·rename_i es he
   refine h.newSlot (.inl ⟨_,_,rfl⟩) i _ fun τ' x h0 hx => ?_
   rw [he] at hx
   exact ⟨zoC hx,zdM ⟨_,_,by rw [zb0,if_pos rfl],czf _,fun _ => zk9 hx⟩⟩
  ·exact ⟨τ,h,Ext.refl _ _ _ _ _⟩
 | cell l o sz =>
  unfold Go.Fs.tokz1
  dsimp only
  split
  ·rename_i cs hcs
   split
   ·rename_i es he
    refine h.newCell (.inl ⟨_,_,rfl⟩) hcs _ fun τ' mem' x h0 hm hx => ?_
    rw [he] at hx
    exact ⟨zoC hx,zdM ⟨_,_,hm,czf _,fun _ => zk9 hx⟩⟩
   ·exact ⟨τ,h,Ext.refl _ _ _ _ _⟩
  ·exact ⟨τ,h,Ext.refl _ _ _ _ _⟩
 | vslot i sz =>
  unfold Go.Fs.tokz1
  dsimp only
  split
  ·rename_i he
   refine h.newSlot (.inr ⟨_,rfl⟩) i _ fun τ' x h0 hx => ?_
   rw [he] at hx
   exact ⟨(ze9 (τ:=τ') hx).1,zfF ⟨_,_,by rw [zb0,if_pos rfl],czf _,fun _ => (ze9 hx).2⟩⟩
  ·exact ⟨τ,h,Ext.refl _ _ _ _ _⟩
 | vcell l o sz =>
  unfold Go.Fs.tokz1
  dsimp only
  split
  ·rename_i cs hcs
   split
   ·rename_i he
    refine h.newCell (.inr ⟨_,rfl⟩) hcs _ fun τ' mem' x h0 hm hx => ?_
    rw [he] at hx
    exact ⟨(ze9 (τ:=τ') hx).1,zfF ⟨_,_,hm,czf _,fun _ => (ze9 hx).2⟩⟩
   ·exact ⟨τ,h,Ext.refl _ _ _ _ _⟩
  ·exact ⟨τ,h,Ext.refl _ _ _ _ _⟩
theorem Rel.tokz (ts:List TZ):∀ {τ:Tc} {st:St},Rel X w0 m0 κ ρ τ st a w → ∃ τ',Rel X w0 m0 κ ρ τ' (tokz ts st) a w ∧ Ext m0 κ ρ τ st.mem κ ρ τ' (tokz ts st).mem:=by
 induction ts with
 | nil => intro τ st h; exact ⟨τ,h,Ext.refl _ _ _ _ _⟩
 | cons t ts ih =>
  intro τ st h
  obtain ⟨τ1,h1,h2⟩:=h.tokz1 t
  obtain ⟨τ2,h3,h4⟩:=ih h1
  exact ⟨τ2,h3,h2.trans h4⟩
theorem AWp.weak {c:Code} {Q:QA} {st st':St} (h:AWp P c Q st') (hw:zrn st st'):AWp P c Q st:=by
 intro rd hrd X w0 m0 κ ρ τ a w hr
 obtain ⟨h1,h2⟩:=hr.weak hw
 refine wpIn_mono (h rd hrd X w0 m0 κ _ τ a w h1) ?_
 rintro e a' w' ⟨κ',ρ',τ',st'',g1,g2,g3⟩
 exact ⟨κ',ρ',τ',st'',g1,h2.trans g2,g3⟩
theorem AWp.mono {c:Code} {Q Q':QA} {st:St} (h:AWp P c Q st) (hq:∀ e s,Q e s → Q' e s):AWp P c Q' st:=by
 intro rd hrd X w0 m0 κ ρ τ a w hr
 refine wpIn_mono (h rd hrd X w0 m0 κ ρ τ a w hr) ?_
 rintro e a' w' ⟨κ',ρ',τ',st'',g1,g2,g3⟩
 exact ⟨κ',ρ',τ',st'',g1,g2,hq _ _ g3⟩
end
end Go.Fs
namespace Go.Fs
open Go.RowKit (Below)
section
variable {P:Program} {Φ:zay} {X:Nat → Prop} {w0:W0} {w w':World} {m0:Nat} {κ κ':Kn} {ρ:Lc} {τ:Tc} {st:St} {a:Act}
structure Eqv (st st':St):Prop where
 get:∀ i,st.get i = st'.get i
 mem:∀ l,zaa st.mem l = zaa st'.mem l
 len:st.mem.length = st'.mem.length
 n:st.n = st'.n
 marks:st.marks = st'.marks
 pr:st.pr = st'.pr
theorem Eqv.refl (st:St):Eqv st st:=⟨fun _ => rfl,fun _ => rfl,rfl,rfl,rfl,rfl⟩
theorem Eqv.trans {a b c:St} (h:Eqv a b) (h':Eqv b c):Eqv a c :=
 ⟨fun i => (h.get i).trans (h'.get i),fun l => (h.mem l).trans (h'.mem l),h.len.trans h'.len,h.n.trans h'.n,h.marks.trans h'.marks,h.pr.trans h'.pr⟩
theorem Eqv.symm {a b:St} (h:Eqv a b):Eqv b a :=
 ⟨fun i => (h.get i).symm,fun l => (h.mem l).symm,h.len.symm,h.n.symm,h.marks.symm,h.pr.symm⟩
theorem zgd {m m':List AObj} (h:∀ l,zaa m l = zaa m' l) (hl:m.length = m'.length):m = m':=by
 apply List.ext_getElem hl
 intro i h1 h2
 have:=h i
 unfold zaa at this
 simpa [List.getD,h1,h2] using this
theorem Rel.congr {st':St} (h:Rel X w0 m0 κ ρ τ st a w) (he:Eqv st st'):Rel X w0 m0 κ ρ τ st' a w:=by
 have hm:=zgd he.mem he.len
 refine ⟨by rw [← he.marks]; exact h.defers,by rw [← he.n]; exact h.size,fun i => by rw [← he.get]; exact h.tm i,fun i => by rw [← he.get,← hm]; exact h.tk i,by rw [← hm]; exact h.mem,h.frm,h.xlt,by rw [← hm]; exact h.prot,by rw [← he.pr]; exact h.prm,h.kx⟩
theorem Rel.fillO (h:Rel X w0 m0 κ ρ τ st a w) {L:Nat} (hL:L < st.mem.length) (hm0:m0 ≤ L) (hdead:zaa st.mem L = .dead) (hρ:ρ L = none)
  {o:AObj} {ob:Obj} {d:Option Tmp} {v:AV} {x:Value} (hd:zbv st.n d) (hnt:(∀ n sz,o ≠ .tok n sz) ∧ ∀ es sz s,o ≠ .vec es sz s)
  (hno:ρ.le (zbU ρ L w.heap.size) → ¬ X w.heap.size → RelObj κ (zbU ρ L w.heap.size) τ X { w with heap:=w.heap.push ob } L o)
  (ht:∀ cs vs T,o = .cells cs → ob = .cells vs T (0,0) → ∀ i,i < cs.length → TokOK τ st.mem (cs.getD i .undef) (vs.getD i Go.undef))
  (hv:Rep κ (zbU ρ L w.heap.size) v x) (hvt:v.un.tkB = false) :
  Rel X w0 m0 κ (zbU ρ L w.heap.size) τ ({ st with mem:=st.mem.set L o }.put d v) (a.put d x) { w with heap:=w.heap.push ob } ∧
  Ext m0 κ ρ τ st.mem κ (zbU ρ L w.heap.size) τ (st.mem.set L o):=by
 have hle:ρ.le (zbU ρ L w.heap.size):=fun l b hl => by
  unfold zbU
  split
  ·rename_i e; subst e; rw [hρ] at hl; cases hl
  ·exact hl
 have hX:∀ b,X b → b < w.heap.size:=fun b hb => by have:=h.xlt b hb; have:=h.frm.size; omega
 have hst:TStep st.mem.length τ st.mem τ (st.mem.set L o):=TStep.set _ _ _ hL ⟨fun n sz => by rw [hdead]; simp,fun es sz s => by rw [hdead]; simp⟩
 have htok:∀ v x,TokOK τ st.mem v x → TokOK τ (st.mem.set L o) v x:=fun v x hv => hv.move hst
 have hlt:∀ l b,blk ρ τ l (zaa st.mem l) = some b → b < w.heap.size:=fun l b hb => h.mem.blk_lt hb
 have hnew:∀ b,blk (zbU ρ L w.heap.size) τ L o = some b → b = w.heap.size:=fun b hb => by
  cases o with
  | dead => cases hb
  | tok n sz => exact absurd rfl (hnt.1 _ _)
  | vec es sz s => exact absurd rfl (hnt.2 _ _ _)
  | _ => simp only [blk,zbU,if_true] at hb; cases hb; rfl
 have hblk:∀ l,blk (zbU ρ L w.heap.size) τ l (zaa (st.mem.set L o) l) = if l = L then blk (zbU ρ L w.heap.size) τ L o else blk ρ τ l (zaa st.mem l):=fun l => by
  rw [zap _ _ _ _ hL]
  split
  ·rename_i e; subst e; rfl
  ·rename_i e
   cases zaa st.mem l <;> simp [blk,zbU,e]
 refine ⟨⟨by rw [zfb]; exact h.defers.mono hle,by rw [zgL]; exact h.size,fun i => ?_,fun i => ?_,⟨fun l => ?_,fun l l' b hl hl' => ?_,⟨fun b off u hk => zlj w _ (h.mem.know.c b off u hk),fun b es hk => ze6 _ (h.mem.know.m b es hk)⟩,fun l hl => ?_,?_⟩,
  h.frm.push h.xlt _,h.xlt,by have:=h.prot; show m0 ≤ (st.mem.set L _).length; simpa using this,h.prm,h.kx⟩,
  Kn.le_refl _,fun l b hl hb => by unfold zbU; rw [if_neg (by omega)]; exact hb,hst.le h.prot⟩
 ·rw [zew a d x st.n h.size hd,zcq]
  split
  ·exact hv
  ·exact (h.tm i).mono (Kn.le_refl _) hle
 ·rw [zew a d x st.n h.size hd,zcq]
  split
  ·exact zax hvt
  ·exact htok _ _ (h.tk i)
 ·show RelObj κ _ τ X _ l (zaa (st.mem.set L o) l)
  rw [zap _ _ _ _ hL]
  split
  ·rename_i e
   subst e
   exact hno hle (fun hb => by have:=hX _ hb; omega)
  ·rename_i e
   exact RelObj.mono (h.mem.obj l) (Kn.le_refl _) hle ⟨fun _ _ _ => rfl,fun _ _ _ _ => rfl⟩ (fun b hb => zba _ _ _ (by have:=hlt l b hb; omega)) (fun b hb => ⟨fun _ => rfl,rfl⟩)
 ·change blk _ τ l (zaa (st.mem.set L o) l) = some b at hl
  change blk _ τ l' (zaa (st.mem.set L o) l') = some b at hl'
  rw [hblk] at hl hl'
  split at hl <;> split at hl'
  ·omega
  ·have:=hnew _ hl; have:=hlt l' _ hl'; omega
  ·have:=hnew _ hl'; have:=hlt l _ hl; omega
  ·exact h.mem.inj l l' b hl hl'
 ·change (st.mem.set L o).length ≤ l at hl
  simp only [czt] at hl
  unfold zbU
  rw [if_neg (by omega)]
  exact h.mem.dom l hl
 ·intro l cs' b us T' hl hb hh i hi
  change zaa (st.mem.set L o) l = .cells cs' at hl
  rw [zap _ _ _ _ hL] at hl
  split at hl
  ·rename_i e
   subst e
   simp only [zbU,if_true] at hb
   cases hb
   rw [za0] at hh
   exact htok _ _ (ht cs' us T' hl (czK hh) i hi)
  ·rename_i e
   simp only [zbU,if_neg e] at hb
   have hbl:=hlt l b (by rw [hl]; exact hb)
   rw [zba _ _ _ (by omega)] at hh
   exact htok _ _ (h.mem.toks l cs' b us T' hl hb hh i hi)
theorem Rel.fill (h:Rel X w0 m0 κ ρ τ st a w) {L:Nat} (hL:L < st.mem.length) (hm0:m0 ≤ L) (hdead:zaa st.mem L = .dead) (hρ:ρ L = none)
  {cs:List AV} {vs:Array Value} {T:TypeId} {d:Option Tmp} {v:AV} {x:Value} (hd:zbv st.n d) (hR:RepL κ ρ cs vs)
  (ht:∀ i,i < cs.length → TokOK τ st.mem (cs.getD i .undef) (vs.getD i Go.undef))
  (hv:Rep κ (zbU ρ L w.heap.size) v x) (hvt:v.un.tkB = false) :
  Rel X w0 m0 κ (zbU ρ L w.heap.size) τ ({ st with mem:=st.mem.set L (AObj.cells cs) }.put d v) (a.put d x) { w with heap:=w.heap.push (.cells vs T) } ∧
  Ext m0 κ ρ τ st.mem κ (zbU ρ L w.heap.size) τ (st.mem.set L (AObj.cells cs)) :=
 h.fillO hL hm0 hdead hρ hd ⟨by simp,by simp⟩ (fun hle hX => ⟨w.heap.size,vs,T,by simp [zbU],hX,Kn.fresh_c h.mem.know,za0 _ _,hR.1,fun i hi => (hR.2 i hi).mono (Kn.le_refl _) hle⟩)
  (fun cs' vs' T' e1 e2 => by cases e1; cases e2; exact ht) hv hvt
theorem Rel.subTm (h:Rel X w0 m0 κ ρ τ st a w) {tm:List (Nat × AV)} (ht:∀ i,lk tm i = .undef ∨ lk tm i = st.get i):Rel X w0 m0 κ ρ τ { st with tm:=tm } a w:=by
 refine ⟨h.defers,h.size,fun i => ?_,fun i => ?_,h.mem,h.frm,h.xlt,h.prot,h.prm,h.kx⟩
 ·rcases ht i with e | e
  ·show Rep κ ρ (lk tm i) _; rw [e]; exact .undef _
  ·show Rep κ ρ (lk tm i) _; rw [e]; exact h.tm i
 ·rcases ht i with e | e
  ·show TokOK τ st.mem (lk tm i) _; rw [e]; exact zax rfl
  ·show TokOK τ st.mem (lk tm i) _; rw [e]; exact h.tk i
end
end Go.Fs
namespace Go.Fs
open Go.RowKit (Below)
def zpC (ops:List Oper) (D:Nat → Bool):Prop :=
 ∀ i o,ops[i]? = some o → D i = true → ∀ e ∈ o.after,Region.binds .any e = true → D e.on = true
theorem mask_spec {acc:List Nat} {o:Oper} {j:Nat} (h:(zkT acc o).testBit j = true) :
  ∃ e ∈ o.after,Region.binds .any e = true ∧ (e.on = j ∨ (acc.getD e.on 0).testBit j = true):=by
 have key:∀ (es:List Edge) (s:Nat),(es.foldl (fun s e => if Region.binds .any e then s ||| (2 ^ e.on ||| acc.getD e.on 0) else s) s).testBit j = true →
   s.testBit j = true ∨ ∃ e ∈ es,Region.binds .any e = true ∧ (e.on = j ∨ (acc.getD e.on 0).testBit j = true):=by
  intro es
  induction es with
  | nil => intro s hs; exact .inl hs
  | cons e es ih =>
   intro s hs
   rw [List.foldl_cons] at hs
   rcases ih _ hs with h1 | ⟨e',h1,h2,h3⟩
   ·split at h1
    ·rename_i hb
     rw [Nat.testBit_or,Nat.testBit_or] at h1
     simp only [czI] at h1
     rcases h1 with h1 | h1 | h1
     ·exact .inl h1
     ·refine .inr ⟨e,by simp,hb,.inl ?_⟩
      rw [Nat.testBit_two_pow] at h1
      simpa using h1
     ·exact .inr ⟨e,by simp,hb,.inr h1⟩
    ·exact .inl h1
   ·exact .inr ⟨e',by simp [h1],h2,h3⟩
 unfold zkT at h
 rcases key _ 0 h with h1 | ⟨e,h1,h2,h3⟩
 ·simp at h1
 ·exact ⟨e,by simpa using h1,h2,h3⟩
theorem zlz {ops:List Oper} {D:Nat → Bool} (hD:zpC ops D) :
  ∀ (os:List Oper) (acc:List Nat),(∀ k,os[k]? = ops[acc.length + k]?) → (∀ i j,i < acc.length → (acc.getD i 0).testBit j = true → D i = true → D j = true) →
   ∀ i j,((zlA acc os).getD i 0).testBit j = true → D i = true → D j = true
 | [],acc,_,hacc,i,j,hb,hi => by
  by_cases hl:i < acc.length
  ·exact hacc i j hl hb hi
  ·simp [zlA,List.getD,czB (czE hl)] at hb
 | o :: os,acc,hos,hacc,i,j,hb,hi => by
  refine zlz hD os (acc ++ [zkT acc o]) (fun k => ?_) (fun i j hl hb hi => ?_) i j hb hi
  ·have:=hos (k + 1)
   rw [czS] at this
   rw [this]
   simp
   congr 1
   omega
  ·simp at hl
   by_cases hl':i < acc.length
   ·refine hacc i j hl' ?_ hi
    simpa [List.getD,czi hl'] using hb
   ·obtain rfl:i = acc.length:=by omega
    have hb':(zkT acc o).testBit j = true:=by simpa [List.getD] using hb
    obtain ⟨e,h1,h2,h3⟩:=mask_spec hb'
    have ho:ops[acc.length]? = some o:=by simpa using (hos 0).symm
    have hd:=hD _ o ho hi e h1 h2
    rcases h3 with h3 | h3
    ·rw [← h3]; exact hd
    ·by_cases hl2:e.on < acc.length
     ·exact hacc _ _ hl2 h3 hd
     ·simp [List.getD,czB (czE hl2)] at h3
def Plan (P:Program) (Φ:zay) (fr:Oper → Bool) (ds:List (Option Tmp)) (M:List AObj):List Oper → List PE → Nat → St → Prop
 | _,[],_,_ => True
 | o :: os,e :: es,L,st => ∃ p L',zco P Φ fr ds M L st o = some (p,e,L') ∧ p ∧ zbv st.n o.dst ∧ Plan P Φ fr ds M os es L' (zaW o e st)
 | [],_ :: _,_,_ => False
def zaJ (D:Nat → Bool):Nat → List Oper → List PE → St → St
 | k,o :: os,e :: es,st => zaJ D (k + 1) os es (if D k then zaW o e st else st)
 | _,_,_,st => st
def FreeOK (fl:Nat) (D:Nat → Bool) (ops:List Oper) (es:List PE) (k:Nat) (st:St):Prop :=
 ∀ i o,ops[i]? = some o → fl.testBit (k + i) = true → D i = false → ∃ t x l,o.op = .load t x ∧ zgH (evT (zcM (zaJ (fun j => decide (j < i) && !D j) 0 ops es st).tm o.op) x).un = some l ∧
  ∀ (j:Nat) (e:PE) (l':Nat) (ob:AObj),es[j]? = some e → e.eff = some (l',ob) → l' ≠ l ∨ ((zlA [] ops).getD j 0).testBit i = true
def Kbig (P:Program) (Φ:zay) (ops:List Oper) (K:St → Prop) (m:Nat) (free:List Nat) (rest:List Oper) (T st':St):Prop :=
 zj8 P Φ (zdb ops) (ops.map (·.dst)) (st'.mem ++ List.replicate (zaV (zdb ops) rest) AObj.dead) st'.mem.length ops { T with mem:=st'.mem } free ∧
  vcDr P Φ ops (m + 1) (st'.mem ++ List.replicate (zaV (zdb ops) rest) AObj.dead) rest st'.mem.length K { st' with mem:=st'.mem ++ List.replicate (zaV (zdb ops) rest) AObj.dead }
theorem zhc {P:Program} {Φ:zay} {ops:List Oper} {M:List AObj} {K:St → Prop}:∀ (os:List Oper) (L k:Nat) (st:St),vcDr P Φ ops k M os L K st →
  ∃ es,es.length ≤ os.length ∧ Plan P Φ (zdb ops) (ops.map (·.dst)) M os es L st ∧
   ((es.length = os.length ∧ K (zaJ (fun _ => true) 0 os es st)) ∨ ∃ o rest free,os.drop es.length = o :: rest ∧ zqU ops (k + es.length) free = true ∧
     zdJ P o (Kbig P Φ ops K (k + es.length) free rest (zaJ (fun _ => true) 0 os es st)) (zaJ (fun _ => true) 0 os es st))
 | [],L,k,st,h => ⟨[],czf _,trivial,.inl ⟨rfl,h⟩⟩
 | o :: os,L,k,st,h => by
  unfold vcDr at h
  split at h
  ·rename_i p e L' hp
   obtain ⟨h1,h2,h3⟩:=h
   obtain ⟨es,g1,g2,g3⟩:=zhc os L' (k + 1) _ h3
   have e0:zaJ (fun _ => true) 0 (o :: os) (e :: es) st = zaJ (fun _ => true) 0 os es (zaW o e st):=by
    show zaJ (fun _ => true) (0 + 1) os es (zaW o e st) = _
    have key:∀ (os:List Oper) (es:List PE) (k k':Nat) (st:St),zaJ (fun _ => true) k os es st = zaJ (fun _ => true) k' os es st:=by
     intro os
     induction os with
     | nil => intro es k k' st; simp [zaJ]
     | cons o os ih =>
      intro es k k' st
      cases es with
      | nil => simp [zaJ]
      | cons e es => unfold zaJ; exact ih es _ _ _
    exact key _ _ _ _ _
   refine ⟨e :: es,by simp; omega,⟨p,L',hp,h1,h2,g2⟩,?_⟩
   rw [e0]
   rcases g3 with ⟨q1,q2⟩ | ⟨o',rest,free,q1,q2,q3⟩
   ·exact .inl ⟨by simp [q1],q2⟩
   ·refine .inr ⟨o',rest,free,by simpa using q1,?_,?_⟩
    ·rw [show k + (e :: es).length = k + 1 + es.length by simp; omega]; exact q2
    ·rw [show k + (e :: es).length = k + 1 + es.length by simp; omega]; exact q3
  ·obtain ⟨free,h1,h2⟩:=h
   exact ⟨[],Nat.zero_le _,trivial,.inr ⟨o,os,free,rfl,h1,h2⟩⟩
theorem runD_true (os:List Oper) (es:List PE) (k k':Nat) (st:St):zaJ (fun _ => true) k os es st = zaJ (fun _ => true) k' os es st:=by
 induction os generalizing es k k' st with
 | nil => simp [zaJ]
 | cons o os ih =>
  cases es with
  | nil => simp [zaJ]
  | cons e es => unfold zaJ; exact ih es _ _ _
theorem runD_lt {i:Nat}:∀ (os:List Oper) (es:List PE) (k:Nat) (st:St),zaJ (fun j => decide (j < i + 1)) (k + 1) os es st = zaJ (fun j => decide (j < i)) k os es st
 | [],es,k,st => by simp [zaJ]
 | _ :: _,[],k,st => by simp [zaJ]
 | o :: os,e :: es,k,st => by
  unfold zaJ
  rw [runD_lt os es (k + 1)]
  have:decide (k + 1 < i + 1) = decide (k < i):=by simp
  rw [this]
theorem zqz {fl k:Nat} {tm:List (Nat × AV)} {o:Oper} {r:List Nat} (h:freeR fl k tm o = some r) (hb:fl.testBit k = true) :
  ∃ t x l,o.op = .load t x ∧ zgH (evT (zcM tm o.op) x).un = some l ∧ l ∈ r:=by
 unfold freeR at h
 rw [if_pos hb] at h
 split at h
 ·rename_i t x hop
  split at h
  ·rename_i l hl
   cases h
   exact ⟨t,x,l,hop,hl,by simp⟩
  ·cases h
 ·cases h
theorem zkA {P:Program} {Φ:zay} {ops:List Oper} {M:List AObj} {fl:Nat} {K:St → Prop}:∀ (os:List Oper) (L k:Nat) (rs ws:List Nat) (st:St),vcFr P Φ ops fl k M os L rs ws K st →
  ∃ es,es.length = os.length ∧ Plan P Φ (zdb ops) (ops.map (·.dst)) M os es L st ∧ K (zaJ (fun _ => true) 0 os es st) ∧
   ∃ Rs Ws,zlF (rs ++ Rs) (ws ++ Ws) = true ∧ (∀ (j:Nat) (e:PE) (l:Nat) (ob:AObj),es[j]? = some e → e.eff = some (l,ob) → (fl.testBit 399 && fl.testBit (400 + (k + j))) = true ∨ l ∈ Ws) ∧
    ∀ i o,os[i]? = some o → fl.testBit (k + i) = true → ∃ t x l,o.op = .load t x ∧ zgH (evT (zcM (zaJ (fun j => decide (j < i)) 0 os es st).tm o.op) x).un = some l ∧ l ∈ Rs
 | [],L,k,rs,ws,st,h => ⟨[],rfl,trivial,h.2,[],[],by simpa using h.1,fun j e l ob h => by simp at h,fun i o h => by simp at h⟩
 | o :: os,L,k,rs,ws,st,h => by
  unfold vcFr at h
  split at h
  ·rename_i p e L' hp
   split at h
   ·rename_i r hr
    obtain ⟨h1,h2,h3⟩:=h
    obtain ⟨es,g1,g2,g3,Rs,Ws,g4,g5,g6⟩:=zkA os L' (k + 1) _ _ _ h3
    refine ⟨e :: es,by simp [g1],⟨p,L',hp,h1,h2,g2⟩,?_,r ++ Rs,(if (fl.testBit 399 && fl.testBit (400 + k)) = true then [] else effL e) ++ Ws,by rw [czd,czd] at g4; exact g4,fun j e' l ob hj he => ?_,fun i o' hi hb => ?_⟩
    ·show K (zaJ (fun _ => true) (0 + 1) os es (zaW o e st))
     rw [runD_true _ _ (0 + 1) 0]
     exact g3
    ·cases j with
     | zero =>
      simp only [czD,czg] at hj
      subst hj
      by_cases hx:(fl.testBit 399 && fl.testBit (400 + k)) = true
      ·exact .inl hx
      refine .inr (List.mem_append_left _ ?_)
      rw [if_neg hx]
      unfold effL
      rw [he]
      simp
     | succ j =>
      rcases g5 j e' l ob (by simpa using hj) he with q | q
      ·exact .inl (by rw [show k + (j + 1) = k + 1 + j by omega]; exact q)
      ·exact .inr (List.mem_append_right _ q)
    ·cases i with
     | zero =>
      simp only [czD,czg] at hi
      subst hi
      obtain ⟨t,x,l,q1,q2,q3⟩:=zqz hr (by simpa using hb)
      refine ⟨t,x,l,q1,?_,List.mem_append_left _ q3⟩
      have e0:zaJ (fun j => decide (j < 0)) 0 (o :: os) (e :: es) st = st:=by
       have key:∀ (os:List Oper) (es:List PE) (k:Nat) (S:St),zaJ (fun j => decide (j < 0)) k os es S = S:=by
        intro os
        induction os with
        | nil => intro es k S; simp [zaJ]
        | cons o os ih =>
         intro es k S
         cases es with
         | nil => simp [zaJ]
         | cons e es => unfold zaJ; simpa using ih es _ _
       exact key _ _ _ _
      rw [e0]
      exact q2
     | succ i =>
      obtain ⟨t,x,l,q1,q2,q3⟩:=g6 i o' (by simpa using hi) (by rw [show k + 1 + i = k + (i + 1) by omega]; exact hb)
      refine ⟨t,x,l,q1,?_,List.mem_append_right _ q3⟩
      have e0:zaJ (fun j => decide (j < i + 1)) 0 (o :: os) (e :: es) st = zaJ (fun j => decide (j < i)) 0 os es (zaW o e st):=by
       show zaJ (fun j => decide (j < i + 1)) (0 + 1) os es (if decide (0 < i + 1) = true then zaW o e st else st) = _
       rw [if_pos (by simp),runD_lt]
      rw [e0]
      exact q2
   ·exact h.elim
  ·exact h.elim
end Go.Fs
namespace Go.Fs
open Go.RowKit (Below)
theorem zbi (mem:List AObj) (o:AObj) (l l':Nat):zaa (mem.set l o) l' = if l' = l ∧ l < mem.length then o else zaa mem l':=by
 by_cases hl:l < mem.length
 ·rw [zap _ _ _ _ hl]
  by_cases h:l' = l <;> simp [h,hl]
 ·rw [if_neg (by omega),List.set_eq_of_length_le (by omega)]
theorem zci (o:Oper) (e:PE) (st:St) (s:Nat):(zaW o e st).get s = if o.dst = some s then e.v else st.get s:=zcq st o.dst e.v s
theorem zbF (o:Oper) (e:PE) (st:St) (l:Nat):zaa (zaW o e st).mem l = match e.eff with
  | some (l',ob) => if l = l' ∧ l' < st.mem.length then ob else zaa st.mem l
  | none => zaa st.mem l:=by
 unfold zaW
 cases e.eff with
 | none => rfl
 | some q => obtain ⟨l',ob⟩:=q; exact zbi _ _ _ _
theorem zde (o:Oper) (e:PE) (st:St):(zaW o e st).mem.length = st.mem.length:=by
 unfold zaW
 cases e.eff with
 | none => rfl
 | some q => simp
theorem zqW {o:Oper} {e:PE} {a b:St} (h:Eqv a b):Eqv (zaW o e a) (zaW o e b):=by
 refine ⟨fun s => by rw [zci,zci,h.get],fun l => ?_,by rw [zde,zde,h.len],h.n,h.marks,h.pr⟩
 rw [zbF,zbF,h.len,h.mem]
theorem zjr {D:Nat → Bool}:∀ (os:List Oper) (es:List PE) (k:Nat) {a b:St},Eqv a b → Eqv (zaJ D k os es a) (zaJ D k os es b)
 | [],es,k,a,b,h => by unfold zaJ; exact h
 | _ :: _,[],k,a,b,h => by unfold zaJ; exact h
 | o :: os,e :: es,k,a,b,h => by
  unfold zaJ
  refine zjr os es (k + 1) ?_
  split
  ·exact zqW h
  ·exact h
def Apart (o:Oper) (e:PE) (o':Oper) (e':PE):Prop :=
 (∀ s,o.dst = some s → o'.dst ≠ some s) ∧ ∀ l ob l' ob',e.eff = some (l,ob) → e'.eff = some (l',ob') → l ≠ l'
theorem znZ {o o':Oper} {e e':PE} (h:Apart o e o' e') (st:St):Eqv (zaW o e (zaW o' e' st)) (zaW o' e' (zaW o e st)):=by
 refine ⟨fun s => ?_,fun l => ?_,by simp only [zde],rfl,rfl,rfl⟩
 ·simp only [zci]
  by_cases h1:o.dst = some s
  ·simp [h1,h.1 s h1]
  ·simp [h1]
 ·simp only [zbF,zde]
  cases h1:e.eff with
  | none => rfl
  | some q =>
   cases h2:e'.eff with
   | none => rfl
   | some q' =>
    obtain ⟨l1,ob⟩:=q
    obtain ⟨l2,ob'⟩:=q'
    have hne:=h.2 l1 ob l2 ob' h1 h2
    dsimp only
    by_cases hl:l = l1
    ·subst hl
     by_cases hq:l < st.mem.length <;> simp [hq,hne]
    ·simp [hl]
theorem zkD {D:Nat → Bool} {o:Oper} {e:PE}:∀ (os:List Oper) (es:List PE) (k:Nat) (st:St),
  (∀ j o' e',os[j]? = some o' → es[j]? = some e' → D (k + j) = true → Apart o e o' e') → Eqv (zaJ D k os es (zaW o e st)) (zaW o e (zaJ D k os es st))
 | [],es,k,st,_ => by unfold zaJ; exact Eqv.refl _
 | _ :: _,[],k,st,_ => by unfold zaJ; exact Eqv.refl _
 | o' :: os,e' :: es,k,st,h => by
  unfold zaJ
  have ih:=fun st => zkD (D:=D) (o:=o) (e:=e) os es (k + 1) st (fun j o'' e'' h1 h2 h3 => h (j + 1) o'' e'' (by simpa using h1) (by simpa using h2) (by rw [show k + (j + 1) = k + 1 + j by omega]; exact h3))
  split
  ·rename_i hk
   have hap:=h 0 o' e' (by simp) (by simp) (by simpa using hk)
   exact (zjr os es (k + 1) (znZ hap st).symm).trans (ih _)
  ·exact ih st
def zct (D:Nat → Bool) (i:Nat):Nat → Bool:=fun j => if j = i then true else D j
theorem zb9 {D D':Nat → Bool}:∀ (os:List Oper) (es:List PE) (k:Nat) (st:St),(∀ j,k ≤ j → j < k + es.length → D j = D' j) → zaJ D k os es st = zaJ D' k os es st
 | [],es,k,st,_ => by simp [zaJ]
 | _ :: _,[],k,st,_ => by simp [zaJ]
 | o :: os,e :: es,k,st,h => by
  unfold zaJ
  rw [h k (czf _) (by simp)]
  exact zb9 os es (k + 1) _ (fun j h1 h2 => h j (by omega) (by simp; omega))
theorem zor {D:Nat → Bool} {i:Nat} (hi:D i = false):∀ (os:List Oper) (es:List PE) (k:Nat) (st:St) (o:Oper) (e:PE),k ≤ i → os[i - k]? = some o → es[i - k]? = some e →
  (∀ j o' e',os[j]? = some o' → es[j]? = some e' → i < k + j → D (k + j) = true → Apart o e o' e') → Eqv (zaJ (zct D i) k os es st) (zaW o e (zaJ D k os es st))
 | [],es,k,st,o,e,_,h,_,_ => by simp at h
 | _ :: _,[],k,st,o,e,_,_,h,_ => by simp at h
 | o' :: os,e' :: es,k,st,o,e,hk,h1,h2,h => by
  by_cases hki:k = i
  ·subst hki
   simp only [Nat.sub_self,czD,czg] at h1 h2
   subst h1
   subst h2
   unfold zaJ
   have e1:zct D k k = true:=by simp [zct]
   rw [e1,hi,zb9 (D:=zct D k) (D':=D) os es (k + 1) _ (fun j h1 _ => by unfold zct; rw [if_neg (by omega)])]
   simp only [if_true,czp,if_false]
   exact zkD os es (k + 1) st (fun j o'' e'' q1 q2 q3 => h (j + 1) o'' e'' (by simpa using q1) (by simpa using q2) (by omega) (by rw [show k + (j + 1) = k + 1 + j by omega]; exact q3))
  ·unfold zaJ
   have e1:zct D i k = D k:=by unfold zct; rw [if_neg hki]
   rw [e1]
   have e2:i - k = (i - (k + 1)) + 1:=by omega
   rw [e2,czS] at h1 h2
   exact zor hi os es (k + 1) _ o e (by omega) h1 h2 (fun j o'' e'' q1 q2 q3 q4 => h (j + 1) o'' e'' (by simpa using q1) (by simpa using q2) (by omega) (by rw [show k + (j + 1) = k + 1 + j by omega]; exact q4))
theorem zfI {D D':Nat → Bool} {s:Nat}:∀ (os:List Oper) (es:List PE) (k:Nat) {st st':St},(∀ j o,j < es.length → os[j]? = some o → o.dst = some s → D (k + j) = D' (k + j)) → st.get s = st'.get s →
  (zaJ D k os es st).get s = (zaJ D' k os es st').get s
 | [],es,k,st,st',_,h => by unfold zaJ; exact h
 | _ :: _,[],k,st,st',_,h => by unfold zaJ; exact h
 | o :: os,e :: es,k,st,st',hD,h => by
  unfold zaJ
  refine zfI os es (k + 1) (fun j o' h0 h1 h2 => by have:=hD (j + 1) o' (by simpa using h0) (by simpa using h1) h2; rw [show k + 1 + j = k + (j + 1) by omega]; exact this) ?_
  by_cases hd:o.dst = some s
  ·have:=hD 0 o (by simp) (by simp) hd
   simp only [Nat.add_zero] at this
   rw [this]
   split
   ·rw [zci,zci,if_pos hd,if_pos hd]
   ·exact h
  ·have e1:∀ (b:Bool) (q:St),(if b then zaW o e q else q).get s = q.get s:=fun b q => by
    cases b
    ·rfl
    ·simp only [if_true,zci,if_neg hd]
   rw [e1,e1]
   exact h
theorem zoq {D:Nat → Bool}:∀ (os:List Oper) (es:List PE) (k:Nat) (st:St),(zaJ D k os es st).mem.length = st.mem.length
 | [],es,k,st => by simp [zaJ]
 | _ :: _,[],k,st => by simp [zaJ]
 | o :: os,e :: es,k,st => by
  unfold zaJ
  rw [zoq os es (k + 1)]
  split
  ·exact zde _ _ _
  ·rfl
theorem zc9 {D D':Nat → Bool} {l:Nat}:∀ (os:List Oper) (es:List PE) (k:Nat) {st st':St},(∀ j e ob,j < os.length → es[j]? = some e → e.eff = some (l,ob) → D (k + j) = D' (k + j)) → zaa st.mem l = zaa st'.mem l →
  st.mem.length = st'.mem.length → zaa (zaJ D k os es st).mem l = zaa (zaJ D' k os es st').mem l
 | [],es,k,st,st',_,h,_ => by unfold zaJ; exact h
 | _ :: _,[],k,st,st',_,h,_ => by unfold zaJ; exact h
 | o :: os,e :: es,k,st,st',hD,h,hl => by
  unfold zaJ
  refine zc9 os es (k + 1) (fun j e' ob h0 h1 h2 => by have:=hD (j + 1) e' ob (by simpa using h0) (by simpa using h1) h2; rw [show k + 1 + j = k + (j + 1) by omega]; exact this) ?_ ?_
  ·by_cases hd:∃ ob,e.eff = some (l,ob)
   ·obtain ⟨ob,hd⟩:=hd
    have:=hD 0 e ob (by simp) (by simp) hd
    simp only [Nat.add_zero] at this
    rw [this]
    split
    ·rw [zbF,zbF,hd]
     dsimp only
     rw [hl,h]
    ·exact h
   ·have e1:∀ (b:Bool) (q:St),zaa (if b then zaW o e q else q).mem l = zaa q.mem l:=fun b q => by
     cases b
     ·rfl
     ·simp only [if_true,zbF]
      cases hq:e.eff with
      | none => rfl
      | some q' =>
       obtain ⟨l',ob⟩:=q'
       dsimp only
       rw [if_neg]
       rintro ⟨rfl,_⟩
       exact hd ⟨ob,hq⟩
    rw [e1,e1]
    exact h
  ·split <;> split <;> simp [zde,hl]
theorem zbZ {D:Nat → Bool}:∀ (os:List Oper) (es:List PE) (k:Nat) (st:St),(zaJ D k os es st).n = st.n ∧ (zaJ D k os es st).marks = st.marks ∧ (zaJ D k os es st).pr = st.pr
 | [],es,k,st => by simp [zaJ]
 | _ :: _,[],k,st => by simp [zaJ]
 | o :: os,e :: es,k,st => by
  unfold zaJ
  have:=zbZ (D:=D) os es (k + 1) (if D k then zaW o e st else st)
  refine ⟨this.1.trans ?_,this.2.1.trans ?_,this.2.2.trans ?_⟩ <;> (split <;> rfl)
theorem ziH {D:Nat → Bool}:∀ (os:List Oper) (es:List PE) (k:Nat) (st:St),zaJ D (k + 1) os es st = zaJ (fun j => D (j + 1)) k os es st
 | [],es,k,st => by simp [zaJ]
 | _ :: _,[],k,st => by simp [zaJ]
 | o :: os,e :: es,k,st => by
  unfold zaJ
  exact ziH os es (k + 1) _
theorem zhf {D:Nat → Bool} {s:Nat}:∀ (os:List Oper) (es:List PE) (k j:Nat) (st:St) (o:Oper) (e:PE),os[j]? = some o → es[j]? = some e → o.dst = some s → D (k + j) = true →
  (∀ i o',j < i → i < es.length → os[i]? = some o' → o'.dst ≠ some s) → (zaJ D k os es st).get s = e.v
 | [],es,k,j,st,o,e,h,_,_,_,_ => by simp at h
 | _ :: _,[],k,j,st,o,e,_,h,_,_,_ => by simp at h
 | o' :: os,e' :: es,k,0,st,o,e,h1,h2,h3,h4,h5 => by
  simp only [czD,czg] at h1 h2
  subst h1; subst h2
  unfold zaJ
  rw [if_pos (by simpa using h4)]
  have e0:(zaJ D (k + 1) os es (zaW o' e' st)).get s = (zaJ (fun _ => false) (k + 1) os es (zaW o' e' st)).get s:=by
   have key:∀ (os:List Oper) (es:List PE) (k:Nat) (st:St),(∀ i o',i < es.length → os[i]? = some o' → o'.dst ≠ some s) → (zaJ D k os es st).get s = st.get s:=by
    intro os
    induction os with
    | nil => intro es k st _; simp [zaJ]
    | cons o os ih =>
     intro es k st hh
     cases es with
     | nil => simp [zaJ]
     | cons e es =>
      unfold zaJ
      rw [ih es (k + 1) _ (fun i o' hi ho => hh (i + 1) o' (by simpa using hi) (by simpa using ho))]
      split
      ·rw [zci,if_neg (hh 0 o (by simp) (by simp))]
      ·rfl
   have key2:∀ (os:List Oper) (es:List PE) (k:Nat) (st:St),zaJ (fun _ => false) k os es st = st:=by
    intro os
    induction os with
    | nil => intro es k st; simp [zaJ]
    | cons o os ih =>
     intro es k st
     cases es with
     | nil => simp [zaJ]
     | cons e es => unfold zaJ; exact ih es (k + 1) _
   rw [key2,key os es (k + 1) _ (fun i o'' hi ho => h5 (i + 1) o'' (by omega) (by simpa using hi) (by simpa using ho))]
  have key2:∀ (os:List Oper) (es:List PE) (k:Nat) (st:St),zaJ (fun _ => false) k os es st = st:=by
   intro os
   induction os with
   | nil => intro es k st; simp [zaJ]
   | cons o os ih =>
    intro es k st
    cases es with
    | nil => simp [zaJ]
    | cons e es => unfold zaJ; exact ih es (k + 1) _
  rw [e0,key2,zci,if_pos h3]
 | o' :: os,e' :: es,k,j + 1,st,o,e,h1,h2,h3,h4,h5 => by
  unfold zaJ
  exact zhf os es (k + 1) j _ o e (by simpa using h1) (by simpa using h2) h3 (by rw [show k + 1 + j = k + (j + 1) by omega]; exact h4)
   (fun i o'' hi hl ho => h5 (i + 1) o'' (by omega) (by simp; omega) (by simpa using ho))
theorem zd6 {D:Nat → Bool}:∀ (os1:List Oper) (es1:List PE) (os2:List Oper) (es2:List PE) (k:Nat) (st:St),os1.length = es1.length →
  zaJ D k (os1 ++ os2) (es1 ++ es2) st = zaJ D (k + os1.length) os2 es2 (zaJ D k os1 es1 st)
 | [],[],os2,es2,k,st,_ => by simp [zaJ]
 | [],_ :: _,os2,es2,k,st,h => by simp at h
 | _ :: _,[],os2,es2,k,st,h => by simp at h
 | o :: os1,e :: es1,os2,es2,k,st,h => by
  have e1:zaJ D k (o :: os1 ++ os2) (e :: es1 ++ es2) st = zaJ D (k + 1) (os1 ++ os2) (es1 ++ es2) (if D k then zaW o e st else st):=rfl
  have e2:zaJ D k (o :: os1) (e :: es1) st = zaJ D (k + 1) os1 es1 (if D k then zaW o e st else st):=rfl
  rw [e1,e2,zd6 os1 es1 os2 es2 (k + 1) _ (by simpa using h)]
  simp only [cza]
  rw [show k + 1 + os1.length = k + (os1.length + 1) by omega]
theorem zkC {D:Nat → Bool}:∀ (os1:List Oper) (es:List PE) (os2:List Oper) (k:Nat) (st:St),os1.length = es.length → zaJ D k (os1 ++ os2) es st = zaJ D k os1 es st:=by
 intro os1 es os2 k st h
 have:=zd6 (D:=D) os1 es os2 [] k st h
 rw [List.append_nil] at this
 rw [this]
 cases os2 <;> simp [zaJ]
theorem zhe {D:Nat → Bool} (m:Nat):∀ (os:List Oper) (es:List PE) (k:Nat) (st:St),zaJ D (k + m) os es st = zaJ (fun j => D (j + m)) k os es st
 | [],es,k,st => by simp [zaJ]
 | _ :: _,[],k,st => by simp [zaJ]
 | o :: os,e :: es,k,st => by
  unfold zaJ
  rw [show k + m + 1 = k + 1 + m by omega]
  exact zhe m os es (k + 1) _
end Go.Fs
