/- The texts H39, H36, H37, H38, joined. -/
import Derived.Test.YtilbconikmpadaaGreatG18
set_option linter.all false
namespace Go.Fs
open Go.RowKit (Below)
section
variable {P:Program} {Φ:zaJ}
theorem ziD {f:FuncId} {fn:Func} {c:Code} {args:List AV} {mem:List AObj} {R:AV → List AObj → Prop} (hf:P.funcs[f]? = some fn) (hb:fn.body = some c)
  (hnm : (fn.name == "runtime.NumGoroutine") = false) (hn : args.length ≤ fn.ntmps) (hmx : P.follows .mixedOrders = true) (hΦ : zaz P Φ)
  (h:vc P Φ c (retA P fn.results.toList (fun vs st => ∃ k,mem.length ≤ k ∧ k ≤ st.mem.length ∧ R (zeN vs).bare (st.mem.take k) ∧ bel k 9 (zeN vs).bare ∧ ∀ o ∈ st.mem.take k,zb6 k o)) (zai fn.ntmps args mem)) :
  zeK P f args mem R:=by
 refine ⟨⟨fn,hf,hnm,by rw [hb]; rfl⟩,fun X κ ρ τ w vs hm hX hs hr ht => ?_⟩
 have hrel:=zh1 (n:=fn.ntmps) hm hX hn hs hr ht
 refine callsIn_of_wp_marks hf hb trivial ?_
 have hwp:c.wpIn Fence.wide 0 P _ _ w:=zcO hmx hΦ c _ _ h none (.inl rfl) X ⟨w,κ⟩ mem.length κ ρ τ _ w hrel
 refine wpIn_mono hwp ?_
 rintro e a' w' ⟨κ',ρ',τ',st',g1,g2,g3⟩
 have hfin:zgM P fn.results.toList (fun vs st => ∃ k,mem.length ≤ k ∧ k ≤ st.mem.length ∧ R (zeN vs).bare (st.mem.take k) ∧ bel k 9 (zeN vs).bare ∧ ∀ o ∈ st.mem.take k,zb6 k o) st'.marks st' →
   LeavesInM Fence.wide 0 P fn a'.tmps (fun e w' => ∃ x κ' ρ' τ' mem' r,e = .returned x ∧ RelM κ' ρ' τ' X mem' w' ∧ Frm X w w' ∧ Rep κ' ρ' r x ∧ TokOK τ' mem' r x ∧
   Ext mem.length κ ρ τ mem κ' ρ' τ' mem' ∧ mem.length ≤ mem'.length ∧ KeepX X κ κ' ∧ R r mem') a'.defers .returning w':=by
  intro hd
  refine zeq (κ:=κ') (st:=st') (X:=X) (w0:=⟨w,κ⟩) (m0:=mem.length) ?_ st'.marks st' a' w' rfl g1 (Ext.refl _ _ _ _ _) hd
  intro κ2 st2 a2 w2 us x q1 q2 q3 qt ⟨k,q0,q0',q4,q5,q6⟩
  have hlen:(st2.mem.take k).length = k:=by
   simp; omega
  have hone:TokOK τ' st2.mem (zeN us) x:=by
   match us,qt with
   | [u],qt => exact qt
   | [],_ => exact zaO rfl
   | _ :: _ :: _,_ => exact zaO rfl
  have q7:Rel X ⟨w,κ⟩ mem.length κ2 ρ' τ' { st2 with tm:=[(0,zeN us)],n:=1,marks:=[] } { tmps:=#[x],defers:=[] } w2 :=
   ⟨rfl,rfl,fun i => by
    show Rep κ2 ρ' (lk [(0,zeN us)] i) _
    unfold lk
    split
    ·rename_i e; subst e; exact q3
    ·exact .undef _,fun i => by
    show TokOK τ' st2.mem (lk [(0,zeN us)] i) _
    unfold lk
    split
    ·rename_i e; subst e; exact hone
    ·exact zaO rfl,q1.mem,q1.frm,q1.xlt,q1.prot,q1.prm,q1.kx⟩
  have hweak:Weak { st2 with tm:=[(0,zeN us)],n:=1,marks:=[] } { tm:=[(0,(zeN us).bare)],mem:=st2.mem.take k,n:=1,marks:=[],pr:=st2.pr }:=by
   refine ⟨rfl,rfl,rfl,by rw [hlen]; have:=q1.prm; show st2.pr ≤ k; omega,⟨st2.mem.drop k,(List.take_append_drop _ _).symm⟩,fun q hq => ?_,fun o ho => (by dsimp only at ho ⊢; rw [hlen]; exact q6 o ho),fun l hl => (by cases hl)⟩
   simp only [czC] at hq
   subst hq
   exact ⟨.inr rfl,by dsimp only; rw [hlen]; exact q5⟩
  obtain ⟨k1,k2⟩:=q7.weak hweak
  have r1:Rep κ2 _ (lk [(0,(zeN us).bare)] 0) _:=k1.tm 0
  have r2:TokOK τ' _ (lk [(0,(zeN us).bare)] 0) _:=k1.tk 0
  have e0:lk [(0,(zeN us).bare)] 0 = (zeN us).bare:=rfl
  rw [e0] at r1 r2
  exact ⟨x,κ2,_,τ',st2.mem.take k,(zeN us).bare,rfl,k1.mem,k1.frm,by simpa using r1,by simpa using r2,(g2.trans q2).trans k2,by rw [hlen]; exact q0,q1.kx,q4⟩
 cases e with
 | normal => exact hfin g3
 | ret => exact hfin g3
 | _ => exact g3.elim
end
end Go.Fs
namespace Go.Proofs
open Go.Fs
set_option maxHeartbeats 4000000
set_option maxRecDepth 8000
section
variable {mem:List AObj} {O so:Nat}
theorem zra (s:List Int) (zs:List (List AV)) (hO:zaa mem O = .vec (s.map EncE.cs ++ zs) 1 so) (hm:∀ o ∈ mem,zb6 mem.length o) (h:s.length ≤ 4096) :
  zeK Tryz.prog 105 [.vec O so 0 s.length 1] mem (fun r m => r = .sl (s.map EncE.cs) .no ∧ m = mem):=by
 have hpic:(s.map EncE.cs ++ zs).take s.length = s.map EncE.cs:=List.take_left' (by simp)
 refine ziD (Φ:=P117) Tryz.func105 rfl (by rfl) (by rw [Tryz.ntmps105]; simp) zaB zin ?_
 rw [Tryz.ntmps105]
 simp only [Tryz.f105,zai,zam]
 simp (maxSteps:=4000000) only [go_sem,zae,zac,zad,zan,zaq,czb,cza,↓reduceIte,zab,zay,onz,hO,hpic]
 refine fun b hb => ⟨fun e => ?_,fun e => ?_⟩
 ·have:=List.eq_nil_of_length_eq_zero (hb e)
  subst this
  exact ⟨mem.length,czf _,czf _,⟨rfl,czm⟩,by simp [AV.bare,AV.bare,zal,zaN,zaR,zak,zar,zaf,tokz1,lk,zaa,za3],by rw [czm]; exact hm⟩
 ·refine ⟨fun x hx c hc => ?_,by omega,mem.length,czf _,by simp,⟨rfl,by simp⟩,by simp [AV.bare,AV.bare,zal,zaN,zaR,zak,zar,zaf,tokz1,lk,zaa,za3],by rw [List.take_left' rfl]; exact hm⟩
  obtain ⟨a,_,rfl⟩:=czx.1 hx
  simp only [zeF,czC] at hc
  subst hc; rfl
end
structure Mm (y:Yd) (K:List Sea) (Ms:List AObj):Prop where
 len:Ms.length = K.length
 m:∀ i,i < K.length → ∃ ks vs,Memo8 y (at_ K i) ks vs ∧ zaa Ms i = .map ks (vs.map AV.bool)
theorem memAt_ext {a b:List AObj} (hl:a.length = b.length) (h:∀ j,j < a.length → zaa a j = zaa b j):a = b:=List.ext_getElem hl fun j h1 h2 => by
 have:=h j h1
 simpa [zaa,List.getD,h1,h2] using this
theorem zm6 {A B C:List AObj} {j:Nat} (h1:A.length ≤ j) (h2:j < A.length + B.length):zaa (A ++ (B ++ C)) j = zaa B (j - A.length):=by
 have e:j = A.length + (j - A.length):=by omega
 rw [e,zaK,zaT (by omega)]
 congr 1; omega
theorem zjI {A B C:List AObj} {j:Nat} (h1:A.length + B.length ≤ j):zaa (A ++ (B ++ C)) j = zaa C (j - A.length - B.length):=by
 have e:j = A.length + (B.length + (j - A.length - B.length)):=by omega
 rw [e,zaK,zaK]
 congr 1; omega
theorem kn8_mid {y:Yd} {K:List Sea} {A Ms T m:List AObj} (hA:A.length = 10) (hM:Ms.length = K.length) (h:Kn8 y K 10 (A ++ (Ms ++ T)) m):∃ Ms',m = A ++ (Ms' ++ T) ∧ Mm y K Ms':=by
 have hl:=h.len
 rw [czc,czc,hA,hM] at hl
 have hl2:((m.drop 10).take K.length).length = K.length:=by rw [czO,List.length_drop]; omega
 refine ⟨(m.drop 10).take K.length,memAt_ext ?_ fun j hj => ?_,hl2,fun i hi => ?_⟩
 ·rw [czc,czc,hl2,hA,hl]
 ·by_cases c1:j < 10
  ·rw [h.same j (.inl c1),zaT (by omega),zaT (by omega)]
  ·by_cases c2:j < 10 + K.length
   ·rw [zm6 (by omega) (by omega),hA]
    unfold zaa
    simp only [List.getD,czR,czQ]
    rw [if_pos (by omega),show 10 + (j - 10) = j by omega]
   ·rw [h.same j (.inr (by omega)),zjI (by omega),zjI (by omega),hl2,hM]
 ·obtain ⟨ks,vs,h1,h2⟩:=h.maps i hi
  refine ⟨ks,vs,h1,?_⟩
  rw [← h2]
  unfold zaa
  simp only [List.getD,czR,czQ]
  rw [if_pos hi]
theorem kn8_of {y:Yd} {K:List Sea} {A Ms T:List AObj} (hA:A.length = 10) (hM:Mm y K Ms) (hok:∀ o ∈ A ++ (Ms ++ T),zb6 (A ++ (Ms ++ T)).length o):Kn8 y K 10 (A ++ (Ms ++ T)) (A ++ (Ms ++ T)):=by
 refine ⟨rfl,fun _ _ => rfl,fun i hi => ?_,hok⟩
 obtain ⟨ks,vs,h1,h2⟩:=hM.m i hi
 exact ⟨ks,vs,h1,by rw [zm6 (by omega) (by rw [hA,hM.len]; omega),hA,show 10 + i - 10 = i by omega,h2]⟩
theorem Mm.bel {y:Yd} {K:List Sea} {Ms:List AObj} (h:Mm y K Ms) (n:Nat):∀ o ∈ Ms,zb6 n o:=fun o ho => by
 obtain ⟨i,hi,rfl⟩:=List.mem_iff_getElem.1 ho
 obtain ⟨ks,vs,_,e⟩:=h.m i (by rw [← h.len]; exact hi)
 have:Ms[i] = zaa Ms i:=by simp [zaa,List.getD,hi]
 rw [this,e]
 exact (zj9 _ _ _).mpr trivial
def wC (y:Yd) (v S L:Nat):AObj:=.cells [.int .i64 y.t.last,.sl (y.t.heights.map EncE.cs) .no,.int .i64 y.t.step,.sl (y.t.levels.map EncE.cs) .no,.sl (y.t.marks.map EncE.cs) .no,.int .i64 y.hands,.sl (y.chairs.map EncE.cs) .no,.sl (y.order.map EncE.cs) .no,.sl (y.hires.map EncE.cs) .no,.vec v S 0 L 2]
def addF (L:Nat):AV:=.fn (.func 107) [] [.ptr (11 + L) 0,.ptr 0 0,.ptr 8 0,.ptr (10 + L) 0,.ptr 2 0,.ptr 1 0,.ptr (12 + L) 0]
def bA (y:Yd) (K:List Sea) (S:Nat) (RR:List (List AV)) (oc:AV) (mn:Int):List AObj:=[yC y,.cells [oc],.cells [.int .i64 mn],yC y,yC y,wC y 7 S K.length,.cells [.ptr 5 0],.vec (K.map EncE.cs ++ RR) 2 S,.cells [.ptr 5 0],.cells ((List.range K.length).map fun i => .mp (10 + i))]
def bT (L:Nat) (nw:AV) (V:List AObj) (D:Nat):List AObj:=.cells [.arr 9 0 L 1] :: .cells [nw] :: .cells [addF L] :: (V ++ List.replicate D .dead)
def bM (y:Yd) (K:List Sea) (S:Nat) (RR:List (List AV)) (oc:AV) (mn:Int) (Ms:List AObj) (nw:AV) (V:List AObj) (D:Nat):List AObj:=bA y K S RR oc mn ++ (Ms ++ bT K.length nw V D)
section
variable {y:Yd} {K:List Sea} {S:Nat} {RR:List (List AV)} {Ms:List AObj}
theorem zhW (oc:AV) (mn:Int):(bA y K S RR oc mn).length = 10:=rfl
theorem zgS (hM:Ms.length = K.length) (oc:AV) (mn:Int) (nw:AV) (V:List AObj) (D:Nat):(bM y K S RR oc mn Ms nw V D).length = 13 + K.length + V.length + D:=by
 unfold bM bT
 simp only [czc,cza,List.length_replicate,zhW,hM]
 omega
theorem bM_A {i:Nat} (h:i < 10) (oc:AV) (mn:Int) (nw:AV) (V:List AObj) (D:Nat):zaa (bM y K S RR oc mn Ms nw V D) i = zaa (bA y K S RR oc mn) i:=zaT (by rw [zhW]; exact h)
theorem bM_T (hM:Ms.length = K.length) (j:Nat) (oc:AV) (mn:Int) (nw:AV) (V:List AObj) (D:Nat):zaa (bM y K S RR oc mn Ms nw V D) (10 + K.length + j) = zaa (bT K.length nw V D) j:=by
 unfold bM
 rw [zjI (by rw [zhW,hM]; omega),zhW,hM]
 congr 1; omega
theorem bM_setA {i:Nat} (h:i < 10) (o:AObj) (oc:AV) (mn:Int) (nw:AV) (V:List AObj) (D:Nat):(bM y K S RR oc mn Ms nw V D).set i o = (bA y K S RR oc mn).set i o ++ (Ms ++ bT K.length nw V D):=List.set_append_left _ _ (by rw [zhW]; exact h)
theorem bM_setT (hM:Ms.length = K.length) (j:Nat) (o:AObj) (oc:AV) (mn:Int) (nw:AV) (V:List AObj) (D:Nat):(bM y K S RR oc mn Ms nw V D).set (10 + K.length + j) o = bA y K S RR oc mn ++ (Ms ++ (bT K.length nw V D).set j o):=by
 unfold bM
 rw [List.set_append_right _ _ (by rw [zhW]; omega),zhW,List.set_append_right _ _ (by omega),hM]
 congr 3
 omega
theorem zkC (hM:Mm y K Ms) {oc:AV} (ho:∀ n,bel n 9 oc) (mn:Int) (nw:AV) (V:List AObj) (D n:Nat) (hn:13 + K.length ≤ n) (h1:bel n 9 nw) (h2:∀ o ∈ V,zb6 n o) (hvb:∀ k st,zb6 k (.vec (K.map EncE.cs ++ RR) 2 st)) :
  ∀ o ∈ bM y K S RR oc mn Ms nw V D,zb6 n o:=fun o h => by
 unfold bM bT at h
 rcases czv.1 h with q | q
 ·refine zcY (k:=n) (l:=bA y K S RR oc mn) ⟨zcc y _,?_,?_,zcc y _,zcc y _,?_,?_,hvb _ _,?_,?_,trivial⟩ o q
  ·simp [AV.bare,zal,zaN,zaR,zak,zar,zaf,tokz1,lk,zaa,za3,ho n]
  ·simp [AV.bare,zal,zaN,zaR,zak,zar,zaf,tokz1,lk,zaa,za3]
  ·simp [wC,AV.bare,zal,zaN,zaR,zak,zar,zaf,tokz1,lk,zaa,za3,-List.map_map]; omega
  ·simp [AV.bare,zal,zaN,zaR,zak,zar,zaf,tokz1,lk,zaa,za3]; omega
  ·simp [AV.bare,zal,zaN,zaR,zak,zar,zaf,tokz1,lk,zaa,za3]; omega
  ·simp [AV.bare,zal,zaN,zaR,zak,zar,zaf,tokz1,lk,zaa,za3]; omega
 ·rcases czv.1 q with q | q
  ·exact hM.bel n o q
  ·rcases czn.1 q with q | q
   ·subst q; simp [AV.bare,zal,zaN,zaR,zak,zar,zaf,tokz1,lk,zaa,za3]; omega
   ·rcases czn.1 q with q | q
    ·subst q; simp [AV.bare,zal,zaN,zaR,zak,zar,zaf,tokz1,lk,zaa,za3,h1]
    ·rcases czn.1 q with q | q
     ·subst q; simp [addF,AV.bare,zal,zaN,zaR,zak,zar,zaf,tokz1,lk,zaa,za3]; omega
     ·rcases czv.1 q with q | q
      ·exact h2 o q
      ·rw [(czL.1 q).2]; trivial
end
def OrdC (oc:AV) (mn:Int) (a:List Int × Int):Prop:=mn = a.2 ∧ (oc = .sl (a.1.map EncE.cs) .no ∨ (oc = .sl [] .full ∧ a.1 = []))
theorem OrdC.bel {oc:AV} {mn:Int} {a:List Int × Int} (h:OrdC oc mn a) (n:Nat):bel n 9 oc:=by
 rcases h.2 with q | ⟨q,_⟩
 ·rw [q]; simp [AV.bare,zal,zaN,zaR,zak,zar,zaf,tokz1,lk,zaa,za3]
 ·rw [q]; simp [AV.bare,zal,zaN,zaR,zak,zar,zaf,tokz1,lk,zaa,za3]
def P245:zaJ:=zeR 105 P145
theorem P245_app (g:FuncId):P245 g = if g = 105 then none else P145 g:=rfl
theorem zmi:zaz Tryz.prog P245:=zfz P145_ok
theorem P245_flag (d:Option Nat):zaF P245 d = none:=(zfy (by decide) d).trans (zkj d)
attribute [go_sem] P245_app P245_flag
section
variable {y:Yd} {K:List Sea} {S:Nat} {RR:List (List AV)}
def nwV (L:Nat) (now:List Int) (st:Nat):AV:=.vec (13 + L) st 0 now.length 1
def nwO (now:List Int) (st:Nat) (zs:List (List AV)):AObj:=.vec (now.map EncE.cs ++ zs) 1 st
def AddR (y:Yd) (K:List Sea) (S:Nat) (RR:List (List AV)) (now:List Int) (D:Nat) (a:List Int × Int) (r:AV) (m:List AObj):Prop :=
 r = .tup [] ∧ ∃ oc mn Ms st zs,m = bM y K S RR oc mn Ms (nwV K.length now st) [nwO now st zs] D ∧ Mm y K Ms ∧ OrdC oc mn a ∧ (∀ k,zb6 k (nwO now st zs))
theorem zqE {Ms:List AObj} (hM:Ms.length = K.length) (oc:AV) (mn:Int) (nw:AV) (V:List AObj) (D:Nat):zaa (bM y K S RR oc mn Ms nw V D) (11 + K.length) = .cells [nw]:=by
 have:=bM_T (y:=y) (S:=S) (RR:=RR) hM 1 oc mn nw V D
 rw [show 10 + K.length + 1 = 11 + K.length by omega] at this
 exact this
theorem bM_t2 {Ms:List AObj} (hM:Ms.length = K.length) (oc:AV) (mn:Int) (nw:AV) (V:List AObj) (D:Nat):zaa (bM y K S RR oc mn Ms nw V D) (12 + K.length) = .cells [addF K.length]:=by
 have:=bM_T (y:=y) (S:=S) (RR:=RR) hM 2 oc mn nw V D
 rw [show 10 + K.length + 2 = 12 + K.length by omega] at this
 exact this
theorem bM_t3 {Ms:List AObj} (hM:Ms.length = K.length) (oc:AV) (mn:Int) (nw:AV) (V:AObj) (D:Nat):zaa (bM y K S RR oc mn Ms nw [V] D) (13 + K.length) = V:=by
 have:=bM_T (y:=y) (S:=S) (RR:=RR) hM 3 oc mn nw [V] D
 rw [show 10 + K.length + 3 = 13 + K.length by omega] at this
 exact this
theorem bM_s1 {Ms:List AObj} (hM:Ms.length = K.length) (nw':AV) (oc:AV) (mn:Int) (nw:AV) (V:List AObj) (D:Nat):(bM y K S RR oc mn Ms nw V D).set (11 + K.length) (.cells [nw']) = bM y K S RR oc mn Ms nw' V D:=by
 have:=bM_setT (y:=y) (S:=S) (RR:=RR) hM 1 (.cells [nw']) oc mn nw V D
 rw [show 10 + K.length + 1 = 11 + K.length by omega] at this
 exact this
theorem bM_s3 {Ms:List AObj} (hM:Ms.length = K.length) (V':AObj) (oc:AV) (mn:Int) (nw:AV) (V:AObj) (D:Nat):(bM y K S RR oc mn Ms nw [V] D).set (13 + K.length) V' = bM y K S RR oc mn Ms nw [V'] D:=by
 have:=bM_setT (y:=y) (S:=S) (RR:=RR) hM 3 V' oc mn nw [V] D
 rw [show 10 + K.length + 3 = 13 + K.length by omega] at this
 exact this
theorem zrB (now:List Int) (k:Int) (st:Nat) (zs:List (List AV)):nwO (now ++ [k]) st zs = nwO now st ([AV.int .i64 k] :: zs):=by
 unfold nwO
 rw [List.map_append,czd]
 rfl
theorem zlM (now:List Int) (st:Nat):∀ k,zb6 k (nwO now st []):=fun k e he c hc => by
 rw [List.append_nil] at he
 obtain ⟨a,_,rfl⟩:=czx.1 he
 simp only [zeF,czC] at hc
 subst hc; trivial
theorem leaf_call (hw:zu1 ⟨y,K⟩) (hvb:∀ k st,zb6 k (.vec (K.map EncE.cs ++ RR) 2 st)) {now:List Int} {a:List Int × Int} {oc:AV} {mn:Int} {Ms:List AObj} {st:Nat} {zs:List (List AV)} {D:Nat}
  (hM:Mm y K Ms) (hl:now.length = y.chairs.length) (hO:OrdC oc mn a) (hz:∀ k,zb6 k (nwO now st zs)) :
  zfS Tryz.prog 107 [.ptr (11 + K.length) 0,.ptr 0 0,.ptr 8 0,.ptr (10 + K.length) 0,.ptr 2 0,.ptr 1 0,.ptr (12 + K.length) 0] (bM y K S RR oc mn Ms (nwV K.length now st) [nwO now st zs] D)
   (AddR y K S RR now D (tryP (zhF y K) a now)):=by
 have hv:=hw.vy
 dsimp only at hv
 have hc5:=hv.c5
 have hll:=hM.len
 obtain ⟨L,hL⟩:∃ L,K.length = L:=⟨_,rfl⟩
 have hml:=zgS (S:=S) (RR:=RR) (y:=y) hll
 have hA:=fun i (h:i < 10) => bM_A (y:=y) (K:=K) (S:=S) (RR:=RR) (Ms:=Ms) h
 have hT:=fun j => bM_T (y:=y) (S:=S) (RR:=RR) hll j
 have sA:=fun i (h:i < 10) => bM_setA (y:=y) (K:=K) (S:=S) (RR:=RR) (Ms:=Ms) h
 have hml':decide ((now.length:Int) = y.chairs.length) = true:=by simp; omega
 have hob:∀ n,bel n 9 oc:=hO.bel
 have hok:=zkC (S:=S) (RR:=RR) hM hob mn (nwV K.length now st) [nwO now st zs] D (14 + K.length + D) (by omega) (by simp [nwV,AV.bare,zal,zaN,zaR,zak,zar,zaf,tokz1,lk,zaa,za3]; omega) (fun o ho => by rw [czC] at ho; subst ho; exact hz _) hvb
 have hmlen:=hml oc mn (nwV K.length now st) [nwO now st zs] D
 have m0:=hA 0 (by omega) oc mn (nwV K.length now st) [nwO now st zs] D
 have m1:=hA 1 (by omega) oc mn (nwV K.length now st) [nwO now st zs] D
 have m2:=hA 2 (by omega) oc mn (nwV K.length now st) [nwO now st zs] D
 have m5:=hA 5 (by omega) oc mn (nwV K.length now st) [nwO now st zs] D
 have m7:=hA 7 (by omega) oc mn (nwV K.length now st) [nwO now st zs] D
 have m8:=hA 8 (by omega) oc mn (nwV K.length now st) [nwO now st zs] D
 have m9:=hA 9 (by omega) oc mn (nwV K.length now st) [nwO now st zs] D
 have t0:=hT 0 oc mn (nwV K.length now st) [nwO now st zs] D
 have t1:=hT 1 oc mn (nwV K.length now st) [nwO now st zs] D
 have t3:=hT 3 oc mn (nwV K.length now st) [nwO now st zs] D
 rw [show 10 + K.length + 1 = 11 + K.length by omega] at t1
 rw [show 10 + K.length + 3 = 13 + K.length by omega] at t3
 rw [Nat.add_zero] at t0
 have u0:∀ l:List AObj,zaa (bA y K S RR oc mn) 0 = yC y:=fun _ => rfl
 rw [show zaa (bA y K S RR oc mn) 0 = yC y from rfl] at m0
 rw [show zaa (bA y K S RR oc mn) 1 = .cells [oc] from rfl] at m1
 rw [show zaa (bA y K S RR oc mn) 2 = .cells [.int .i64 mn] from rfl] at m2
 rw [show zaa (bA y K S RR oc mn) 5 = wC y 7 S K.length from rfl] at m5
 rw [show zaa (bA y K S RR oc mn) 7 = .vec (K.map EncE.cs ++ RR) 2 S from rfl] at m7
 rw [show zaa (bA y K S RR oc mn) 8 = .cells [.ptr 5 0] from rfl] at m8
 rw [show zaa (bA y K S RR oc mn) 9 = .cells ((List.range K.length).map fun i => .mp (10 + i)) from rfl] at m9
 rw [show zaa (bT K.length (nwV K.length now st) [nwO now st zs] D) 0 = .cells [.arr 9 0 K.length 1] from rfl] at t0
 rw [show zaa (bT K.length (nwV K.length now st) [nwO now st zs] D) 1 = .cells [nwV K.length now st] from rfl] at t1
 rw [show zaa (bT K.length (nwV K.length now st) [nwO now st zs] D) 3 = nwO now st zs from rfl] at t3
 obtain ⟨mm,hmm⟩:∃ mm,bM y K S RR oc mn Ms (nwV K.length now st) [nwO now st zs] D = mm:=⟨_,rfl⟩
 rw [hmm] at m0 m1 m2 m5 m7 m8 m9 t0 t1 t3 hok hmlen ⊢
 have hmlen':mm.length = 14 + K.length + D:=by rw [hmlen]; simp; omega
 have hk0:Kn8 y K 10 mm mm:=by
  rw [← hmm]
  exact kn8_of rfl hM (by
   have:(bA y K S RR oc mn ++ (Ms ++ bT K.length (nwV K.length now st) [nwO now st zs] D)).length = 14 + K.length + D:=by
    have:=hmlen'; rw [← hmm] at this; exact this
   rw [this]
   rw [← hmm] at hok
   exact hok)
 have hlc:=ztA (mem:=mm) (a:=5) (v:=7) (L:=9) (M0:=10) (O:=13 + K.length) (so:=st) y K S RR zs now hw (by omega) m5 m7 m9 t3 hk0
 have hpic:(now.map EncE.cs ++ zs).take now.length = now.map EncE.cs:=List.take_left' (by simp)
 unfold nwV at t1
 unfold nwO at t3
 unfold yC at m0
 refine zch (Φ:=P245) Tryz.func107 rfl (by rfl) (by rw [Tryz.ntmps107]; simp) zaB zmi (by simp [AV.strip,AV.strip1,Tk.strip]) ?_
 rw [Tryz.ntmps107]
 simp only [Tryz.f107,zai,zam]
 simp (maxSteps:=4000000) only [go_sem,zae,zac,zad,zan,zaq,czb,cza,↓reduceIte,zab,zay,onz,m0,t1,t3,hml',m8,t0]
 refine ⟨_,hlc,?_⟩
 rintro r m ⟨rfl,hk1⟩ _
 have hb:=zrJ y K now
 obtain ⟨W,hW⟩:∃ W,(zc0 y K now K.length).2 = W:=⟨_,rfl⟩
 have hV:(zc0 y K now K.length).1 = zhF y K now:=rfl
 rw [hW,hV]
 obtain ⟨V,hV2⟩:∃ V,zhF y K now = V:=⟨_,rfl⟩
 rw [hV2] at hb ⊢
 have hk1':=hk1
 rw [← hmm] at hk1'
 obtain ⟨Ms',hm',hM'⟩:=kn8_mid (A:=bA y K S RR oc mn) rfl hll hk1'
 have hml1:=hk1.len
 have n1:=hk0.keep hk1 t1
 have n2:=hk0.keep hk1 m2
 have n4:=hk0.keep hk1 m1
 have n3:=hk0.keepV hk1 t3
 have hm1l:1 < m.length:=by omega
 have n5:∀ o,zaa (m.set 1 o) 2 = .cells [.int .i64 mn]:=fun o => by rw [zaD _ _ _ _ hm1l,if_neg (by decide)]; exact n2
 have hm2l:2 < m.length:=by omega
 have htm:tryP (zhF y K) a now = if V < a.2 then (now,V) else a:=by unfold tryP; rw [hV2]
 have hmn:=hO.1
 cases d:decide (V < mn)
 ·rw [if_neg (by rw [← hmn]; simpa using d)] at htm
  simp (maxSteps:=4000000) only [go_sem,zae,zac,zad,zan,zaq,czb,cza,↓reduceIte,zab,zay,onz,n1,n2,n3,d,decide_true,decide_false]
  refine ⟨?_,?_,?_⟩
  ·rw [cze (by omega),htm]
   exact ⟨rfl,oc,mn,Ms',st,zs,hm',hM',hO,hz⟩
  ·simp [AV.bare,zal,zaN,zaR,zak,zar,zaf,tokz1,lk,zaa,za3]
  ·rw [cze (by omega)]
   have:=hk1.ok
   rw [hml1] at this
   exact this
 ·rw [if_pos (by rw [← hmn]; simpa using d)] at htm
  have hcl:=zra (mem:=m) now zs n3 hk1.ok (by omega)
  simp (maxSteps:=4000000) only [go_sem,zae,zac,zad,zan,zaq,czb,cza,↓reduceIte,zab,zay,onz,n1,n2,n3,n4,n5,hpic,d,decide_true,decide_false]
  refine ⟨_,hcl,?_⟩
  rintro r m' ⟨rfl,rfl⟩ _
  simp (maxSteps:=4000000) only [go_sem,zae,zac,zad,zan,zaq,czb,cza,↓reduceIte,zab,zay,onz,n1,n2,n3,n4,n5,hpic,d,decide_true,decide_false]
  have hset:(m'.set 1 (.cells [.sl (now.map EncE.cs) .no])).set 2 (.cells [.int .i64 V]) = bM y K S RR (.sl (now.map EncE.cs) .no) V Ms' (nwV K.length now st) [nwO now st zs] D:=by rw [hm']; rfl
  have hO':OrdC (.sl (now.map EncE.cs) .no) V (now,V):=⟨rfl,.inl rfl⟩
  have hlen:((m'.set 1 (.cells [.sl (now.map EncE.cs) .no])).set 2 (.cells [.int .i64 V])).length = mm.length:=by rw [czt,czt,hml1]
  refine ⟨?_,?_,?_⟩
  ·rw [cze (by omega),htm,hset]
   exact ⟨rfl,_,_,Ms',st,zs,rfl,hM',hO',hz⟩
  ·simp [AV.bare,zal,zaN,zaR,zak,zar,zaf,tokz1,lk,zaa,za3]
  ·rw [cze (by omega),hset,hmlen']
   exact zkC hM' hO'.bel _ _ _ _ _ (by omega) (by simp [nwV,AV.bare,zal,zaN,zaR,zak,zar,zaf,tokz1,lk,zaa,za3]; omega) (fun o ho => by rw [czC] at ho; subst ho; exact hz _) hvb
theorem zr5 (hw:zu1 ⟨y,K⟩) (hvb:∀ k st,zb6 k (.vec (K.map EncE.cs ++ RR) 2 st)):∀ (f:Nat) {now:List Int} {a:List Int × Int} {oc:AV} {mn:Int} {Ms:List AObj} {st:Nat} {zs:List (List AV)} {D:Nat},
  Mm y K Ms → now.length + f = y.chairs.length → OrdC oc mn a → (∀ k,zb6 k (nwO now st zs)) →
  zfS Tryz.prog 107 [.ptr (11 + K.length) 0,.ptr 0 0,.ptr 8 0,.ptr (10 + K.length) 0,.ptr 2 0,.ptr 1 0,.ptr (12 + K.length) 0] (bM y K S RR oc mn Ms (nwV K.length now st) [nwO now st zs] D)
   (AddR y K S RR now D (tryF y K f now a))
 | 0,now,a,oc,mn,Ms,st,zs,D,hM,hl,hO,hz => by
  rw [tryF_zero]
  exact leaf_call hw hvb hM (by omega) hO hz
 | f + 1,now,a,oc0,mn0,Ms0,st0,zs0,D,hM0,hl,hO0,hz0 => by
  have hv:=hw.vy
  dsimp only at hv
  have hc5:=hv.c5
  rw [zmx]
  have hne:decide ((now.length:Int) = y.chairs.length) = false:=by simp; omega
  have hml0:=zgS (S:=S) (RR:=RR) (y:=y) hM0.len oc0 mn0 (nwV K.length now st0) [nwO now st0 zs0] D
  have m0:=bM_A (y:=y) (K:=K) (S:=S) (RR:=RR) (Ms:=Ms0) (i:=0) (by omega) oc0 mn0 (nwV K.length now st0) [nwO now st0 zs0] D
  rw [show zaa (bA y K S RR oc0 mn0) 0 = yC y from rfl] at m0
  have t1:=bM_T (y:=y) (S:=S) (RR:=RR) hM0.len 1 oc0 mn0 (nwV K.length now st0) [nwO now st0 zs0] D
  rw [show 10 + K.length + 1 = 11 + K.length by omega,show zaa (bT K.length (nwV K.length now st0) [nwO now st0 zs0] D) 1 = .cells [nwV K.length now st0] from rfl] at t1
  have hok0:=zkC (S:=S) (RR:=RR) hM0 hO0.bel mn0 (nwV K.length now st0) [nwO now st0 zs0] D (14 + K.length + D) (by omega) (by simp [nwV,AV.bare,zal,zaN,zaR,zak,zar,zaf,tokz1,lk,zaa,za3]; omega) (fun o ho => by rw [czC] at ho; subst ho; exact hz0 _) hvb
  have hml0':(bM y K S RR oc0 mn0 Ms0 (nwV K.length now st0) [nwO now st0 zs0] D).length = 14 + K.length + D:=by rw [hml0]; simp; omega
  refine zch (Φ:=P245) Tryz.func107 rfl (by rfl) (by rw [Tryz.ntmps107]; simp) zaB zmi (by simp [AV.strip,AV.strip1,Tk.strip]) ?_
  rw [Tryz.ntmps107]
  simp only [Tryz.f107,zai,zam]
  refine zkI fun Q0 hQ0 => ?_
  generalize hB0:bM y K S RR oc0 mn0 Ms0 (nwV K.length now st0) [nwO now st0 zs0] D = B0 at m0 t1 hok0 hml0' ⊢
  unfold nwV at t1
  unfold yC at m0
  simp (maxSteps:=4000000) only [go_sem,zae,zac,zad,zan,zaq,czb,cza,↓reduceIte,zab,zay,onz,m0,t1,hne,decide_false]
  refine zjN [] [0,6,31] (fun b:Nat × AV × Int × List AObj × Nat × List (List AV) => [(32,.int .i64 b.1)]) (fun b _ => bM y K S RR b.2.1 b.2.2.1 b.2.2.2.1 (nwV K.length now b.2.2.2.2.1) [nwO now b.2.2.2.2.1 b.2.2.2.2.2] D) (fun b => b.1 ≤ y.chairs.length ∧ Mm y K b.2.2.2.1 ∧ OrdC b.2.1 b.2.2.1 (tryN y K f now b.1 a) ∧ ∀ k,zb6 k (nwO now b.2.2.2.2.1 b.2.2.2.2.2)) (fun b => y.chairs.length - b.1) (((0,oc0,mn0,Ms0,st0,zs0):Nat × AV × Int × List AObj × Nat × List (List AV))) ?_ ?_ ?_
  ·exact ⟨Nat.zero_le _,hM0,hO0,hz0⟩
  ·dsimp only
   rw [hB0]
   refine ⟨rfl,rfl,rfl,?_,za0 _,?_,zby ?_,trivial⟩
   ·show B0.length ≤ B0.length
    exact czf _
   ·show zaN _ B0.length _
    rw [hml0']
    simp [AV.bare,zal,zaN,zaR,zak,zar,zaf,tokz1,lk,zaa,za3]
    try omega
   ·show ∀ o ∈ B0,zb6 B0.length o
    rw [hml0']; exact hok0
  ·rintro ⟨k,oc,mn,Ms,st,zs⟩ ⟨hk,hM,hO,hz⟩
   simp only at hk hM hO hz
   have hpic:(now.map EncE.cs ++ zs).take now.length = now.map EncE.cs:=List.take_left' (by simp)
   have hts:=zmw y K f now k a
   obtain ⟨B,hB⟩:∃ B,bM y K S RR oc mn Ms (nwV K.length now st) [nwO now st zs] D = B:=⟨_,rfl⟩
   have b1:=zqE (y:=y) (S:=S) (RR:=RR) hM.len oc mn (nwV K.length now st) [nwO now st zs] D
   have b3:=bM_t3 (y:=y) (S:=S) (RR:=RR) hM.len oc mn (nwV K.length now st) (nwO now st zs) D
   have hok:=zkC (S:=S) (RR:=RR) hM hO.bel mn (nwV K.length now st) [nwO now st zs] D (14 + K.length + D) (by omega) (by simp [nwV,AV.bare,zal,zaN,zaR,zak,zar,zaf,tokz1,lk,zaa,za3]; omega) (fun o ho => by rw [czC] at ho; subst ho; exact hz _) hvb
   have hml:=zgS (S:=S) (RR:=RR) (y:=y) hM.len oc mn (nwV K.length now st) [nwO now st zs] D
   rw [hB] at b1 b3 hok hml
   rw [hB]
   have hml':B.length = 14 + K.length + D:=by rw [hml]; simp; omega
   unfold nwV at b1
   unfold nwO at b3
   by_cases e:k < y.chairs.length
   ·have e':=czH.2 e
    cases d:now.contains (k:Int)
    ·obtain ⟨B2,hB2⟩:∃ B2,bM y K S RR oc mn Ms (nwV K.length now st) [nwO (now ++ [(k:Int)]) (st + 1) []] D = B2:=⟨_,rfl⟩
     have s1:=bM_s3 (y:=y) (S:=S) (RR:=RR) hM.len (nwO (now ++ [(k:Int)]) (st + 1) []) oc mn (nwV K.length now st) (nwO now st zs) D
     have d1:=zqE (y:=y) (S:=S) (RR:=RR) hM.len oc mn (nwV K.length now st) [nwO (now ++ [(k:Int)]) (st + 1) []] D
     obtain ⟨B3,hB3⟩:∃ B3,bM y K S RR oc mn Ms (nwV K.length (now ++ [(k:Int)]) (st + 1)) [nwO (now ++ [(k:Int)]) (st + 1) []] D = B3:=⟨_,rfl⟩
     have s2:=bM_s1 (y:=y) (S:=S) (RR:=RR) hM.len (nwV K.length (now ++ [(k:Int)]) (st + 1)) oc mn (nwV K.length now st) [nwO (now ++ [(k:Int)]) (st + 1) []] D
     have d2:=bM_t2 (y:=y) (S:=S) (RR:=RR) hM.len oc mn (nwV K.length (now ++ [(k:Int)]) (st + 1)) [nwO (now ++ [(k:Int)]) (st + 1) []] D
     have hih:=zr5 hw hvb f (now:=now ++ [(k:Int)]) (D:=D) (st:=st + 1) (zs:=[]) hM (by simp; omega) hO (zlM _ _)
     rw [if_neg (by rw [d]; simp)] at hts
     rw [← hts] at hih
     rw [hB] at s1
     rw [hB2] at s1 d1 s2
     rw [hB3] at s2 d2 hih
     unfold nwV at d1 s2
     unfold nwO at s1
     unfold addF at d2
     rw [List.map_append,List.append_nil] at s1
     rw [czc] at s2
     simp only [czb,List.map_nil,cza,czy,zeF,Nat.zero_add] at s1 s2
     simp (maxSteps:=4000000) only [go_sem,zae,zac,zad,zan,zaq,czb,cza,↓reduceIte,zab,zay,onz,b1,b3,hpic,e',d,s1,d1,s2,d2,decide_true,decide_false]
     refine ⟨by omega,by omega,_,zbE hih,?_⟩
     rintro r m' ⟨r0,rfl,⟨rfl,oc',mn',Ms',st',zs',rfl,hM',hO',hz'⟩,_⟩ _
     obtain ⟨B4,hB4⟩:∃ B4,bM y K S RR oc' mn' Ms' (nwV K.length (now ++ [(k:Int)]) st') [nwO (now ++ [(k:Int)]) st' zs'] D = B4:=⟨_,rfl⟩
     have f1:=zqE (y:=y) (S:=S) (RR:=RR) hM'.len oc' mn' (nwV K.length (now ++ [(k:Int)]) st') [nwO (now ++ [(k:Int)]) st' zs'] D
     have f3:=bM_t3 (y:=y) (S:=S) (RR:=RR) hM'.len oc' mn' (nwV K.length (now ++ [(k:Int)]) st') (nwO (now ++ [(k:Int)]) st' zs') D
     have s3:=bM_s1 (y:=y) (S:=S) (RR:=RR) hM'.len (nwV K.length now st') oc' mn' (nwV K.length (now ++ [(k:Int)]) st') [nwO (now ++ [(k:Int)]) st' zs'] D
     rw [hB4] at f1 f3 s3
     rw [hB4]
     rw [zrB] at s3 hz'
     unfold nwV at f1
     unfold nwO at f3
     rw [czc] at f1
     simp only [cza,czy,Nat.zero_add] at f1
     have hle:(((now.length + 1:Nat):Int) - 1) = (now.length:Int):=by omega
     have hz2:((now.length:Int) - 0).toNat = now.length:=by omega
     unfold nwV at s3
     simp (maxSteps:=4000000) only [go_sem,zae,zac,zad,zan,zaq,czb,cza,↓reduceIte,zab,zay,onz,f1,f3,hle,hz2,s3,decide_true,decide_false]
     refine ⟨(by simp only [InR]; omega),⟨by omega,by omega⟩,(by simp only [InR]; omega),(k + 1,oc',mn',Ms',st',[AV.int .i64 (k:Int)] :: zs'),⟨by dsimp only; omega,hM',hO',hz'⟩,by dsimp only; omega,zbl ?_⟩
     dsimp only
     have hml4:=zgS (S:=S) (RR:=RR) (y:=y) hM'.len oc' mn' (nwV K.length now st') [nwO now st' ([AV.int .i64 (k:Int)] :: zs')] D
     have hok4:=zkC (S:=S) (RR:=RR) hM' hO'.bel mn' (nwV K.length now st') [nwO now st' ([AV.int .i64 (k:Int)] :: zs')] D (14 + K.length + D) (by omega) (by simp [nwV,AV.bare,zal,zaN,zaR,zak,zar,zaf,tokz1,lk,zaa,za3]; omega) (fun o ho => by rw [czC] at ho; subst ho; exact hz' _) hvb
     unfold nwV at hml4 hok4
     unfold nwV
     generalize bM y K S RR oc' mn' Ms' _ [nwO now st' ([AV.int .i64 (k:Int)] :: zs')] D = B5 at hml4 hok4 ⊢
     have hml5:B5.length = 14 + K.length + D:=by rw [hml4]; simp; omega
     refine ⟨rfl,rfl,rfl,?_,za0 _,?_,zby ?_,trivial⟩
     ·show B0.length ≤ B5.length
      omega
     ·show zaN _ B5.length _
      rw [hml5]
      simp [AV.bare,zal,zaN,zaR,zak,zar,zaf,tokz1,lk,zaa,za3]
      try omega
     ·show ∀ o ∈ B5,zb6 B5.length o
      rw [hml5]; exact hok4
    ·rw [if_pos d] at hts
     simp (maxSteps:=4000000) only [go_sem,zae,zac,zad,zan,zaq,czb,cza,↓reduceIte,zab,zay,onz,b1,b3,hpic,e',d,decide_true,decide_false]
     refine ⟨by omega,(by simp only [InR]; omega),(k + 1,oc,mn,Ms,st,zs),⟨by dsimp only; omega,hM,by dsimp only; rw [hts]; exact hO,hz⟩,by dsimp only; omega,zbl ?_⟩
     dsimp only
     rw [hB]
     refine ⟨rfl,rfl,rfl,?_,za0 _,?_,zby ?_,trivial⟩
     ·show B0.length ≤ B.length
      omega
     ·show zaN _ B.length _
      rw [hml']
      simp [AV.bare,zal,zaN,zaR,zak,zar,zaf,tokz1,lk,zaa,za3]
      try omega
     ·show ∀ o ∈ B,zb6 B.length o
      rw [hml']; exact hok
   ·have e2:k = y.chairs.length:=by omega
    subst e2
    simp (maxSteps:=4000000) only [go_sem,zae,zac,zad,zan,zaq,czb,cza,↓reduceIte,zab,zay,onz,hQ0,czA,decide_false]
    rw [hB0,cze (by omega),← hB]
    refine ⟨⟨rfl,oc,mn,Ms,st,zs,rfl,hM,hO,hz⟩,by simp [AV.bare,zal,zaN,zaR,zak,zar,zaf,tokz1,lk,zaa,za3],?_⟩
    rw [hB,hml0']; exact hok
end
theorem znI {P:Program} {g:FuncId} {es:List (List AV)} {tk:Tk} {v:AV} {args:List AV} {mem:List AObj} {R:AV → List AObj → Prop} (h:zfS P g (v :: .sl es .no :: args) mem R):zfS P g (v :: .sl es tk :: args) mem R :=
 ⟨h.1,fun X κ ρ τ w vs h1 h2 h3 h4 => h.2 X κ ρ τ w vs h1 h2 (by simpa using h3) (fun i hi => by
  match i with
  | 0 => exact h4 0 (by simp)
  | 1 => exact (h4 1 (by simp)).bare
  | i + 2 => exact h4 (i + 2) (by simpa using hi))⟩
section
variable {mem:List AObj}
theorem zrb (hm:∀ o ∈ mem,zb6 mem.length o):zeK Tryz.prog 105 [.sl [] .full] mem (fun r m => r = .sl [] .no ∧ m = mem):=by
 refine ziD (Φ:=P117) Tryz.func105 rfl (by rfl) (by rw [Tryz.ntmps105]; simp) zaB zin ?_
 rw [Tryz.ntmps105]
 simp only [Tryz.f105,zai,zam]
 simp (maxSteps:=4000000) only [go_sem,zae,zac,zad,zan,zaq,czb,cza,↓reduceIte,zab,zay,onz]
 exact fun b => ⟨fun _ => ⟨mem.length,czf _,czf _,⟨rfl,czm⟩,by simp [AV.bare,AV.bare,zal,zaN,zaR,zak,zar,zaf,tokz1,lk,zaa,za3],by rw [czm]; exact hm⟩,
  fun _ => ⟨by omega,mem.length,czf _,by simp,⟨rfl,by simp⟩,by simp [AV.bare,AV.bare,zal,zaN,zaR,zak,zar,zaf,tokz1,lk,zaa,za3],by rw [List.take_left' rfl]; exact hm⟩⟩
end
section
variable {y:Yd} {K:List Sea} {S:Nat} {RR:List (List AV)}
def Add0 (y:Yd) (K:List Sea) (S:Nat) (RR:List (List AV)) (a:List Int × Int) (r:AV) (m:List AObj):Prop :=
 r = .tup [] ∧ ∃ oc mn Ms nw V,m = bM y K S RR oc mn Ms nw V 0 ∧ Mm y K Ms ∧ OrdC oc mn a
theorem ztH (hw:zu1 ⟨y,K⟩) (hvb:∀ k st,zb6 k (.vec (K.map EncE.cs ++ RR) 2 st)) {a:List Int × Int} {oc:AV} {mn:Int} {Ms:List AObj}
  (hM:Mm y K Ms) (hl:y.chairs.length = 0) (hO:OrdC oc mn a) :
  zeK Tryz.prog 107 [.ptr (11 + K.length) 0,.ptr 0 0,.ptr 8 0,.ptr (10 + K.length) 0,.ptr 2 0,.ptr 1 0,.ptr (12 + K.length) 0] (bM y K S RR oc mn Ms (.sl [] .full) [] 0)
   (Add0 y K S RR (tryP (zhF y K) a [])):=by
 have hv:=hw.vy
 dsimp only at hv
 have hc5:=hv.c5
 have hll:=hM.len
 obtain ⟨L,hL⟩:∃ L,K.length = L:=⟨_,rfl⟩
 have hml:=zgS (S:=S) (RR:=RR) (y:=y) hll
 have hA:=fun i (h:i < 10) => bM_A (y:=y) (K:=K) (S:=S) (RR:=RR) (Ms:=Ms) h
 have hT:=fun j => bM_T (y:=y) (S:=S) (RR:=RR) hll j
 have sA:=fun i (h:i < 10) => bM_setA (y:=y) (K:=K) (S:=S) (RR:=RR) (Ms:=Ms) h
 have hml':decide ((0:Int) = y.chairs.length) = true:=by simp; omega
 have hob:∀ n,bel n 9 oc:=hO.bel
 have hok:=zkC (S:=S) (RR:=RR) hM hob mn (.sl [] .full) [] 0 (13 + K.length) (by omega) (by simp [AV.bare,zal,zaN,zaR,zak,zar,zaf,tokz1,lk,zaa,za3]) (fun o ho => by cases ho) hvb
 have hmlen:=hml oc mn (.sl [] .full) [] 0
 have m0:=hA 0 (by omega) oc mn (.sl [] .full) [] 0
 have m1:=hA 1 (by omega) oc mn (.sl [] .full) [] 0
 have m2:=hA 2 (by omega) oc mn (.sl [] .full) [] 0
 have m5:=hA 5 (by omega) oc mn (.sl [] .full) [] 0
 have m7:=hA 7 (by omega) oc mn (.sl [] .full) [] 0
 have m8:=hA 8 (by omega) oc mn (.sl [] .full) [] 0
 have m9:=hA 9 (by omega) oc mn (.sl [] .full) [] 0
 have t0:=hT 0 oc mn (.sl [] .full) [] 0
 have t1:=hT 1 oc mn (.sl [] .full) [] 0
 rw [show 10 + K.length + 1 = 11 + K.length by omega] at t1
 rw [Nat.add_zero] at t0
 have u0:∀ l:List AObj,zaa (bA y K S RR oc mn) 0 = yC y:=fun _ => rfl
 rw [show zaa (bA y K S RR oc mn) 0 = yC y from rfl] at m0
 rw [show zaa (bA y K S RR oc mn) 1 = .cells [oc] from rfl] at m1
 rw [show zaa (bA y K S RR oc mn) 2 = .cells [.int .i64 mn] from rfl] at m2
 rw [show zaa (bA y K S RR oc mn) 5 = wC y 7 S K.length from rfl] at m5
 rw [show zaa (bA y K S RR oc mn) 7 = .vec (K.map EncE.cs ++ RR) 2 S from rfl] at m7
 rw [show zaa (bA y K S RR oc mn) 8 = .cells [.ptr 5 0] from rfl] at m8
 rw [show zaa (bA y K S RR oc mn) 9 = .cells ((List.range K.length).map fun i => .mp (10 + i)) from rfl] at m9
 rw [show zaa (bT K.length (.sl [] .full) [] 0) 0 = .cells [.arr 9 0 K.length 1] from rfl] at t0
 rw [show zaa (bT K.length (.sl [] .full) [] 0) 1 = .cells [.sl [] .full] from rfl] at t1
 obtain ⟨mm,hmm⟩:∃ mm,bM y K S RR oc mn Ms (.sl [] .full) [] 0 = mm:=⟨_,rfl⟩
 rw [hmm] at m0 m1 m2 m5 m7 m8 m9 t0 t1 hok hmlen ⊢
 have hmlen':mm.length = 13 + K.length:=by rw [hmlen]; simp
 have hk0:Kn8 y K 10 mm mm:=by
  rw [← hmm]
  exact kn8_of rfl hM (by
   have:(bA y K S RR oc mn ++ (Ms ++ bT K.length (.sl [] .full) [] 0)).length = 13 + K.length:=by
    have:=hmlen'; rw [← hmm] at this; exact this
   rw [this]
   rw [← hmm] at hok
   exact hok)
 have hlc:=znI (es:=[]) (tk:=.full) (znd (mem:=mm) (a:=5) (v:=7) (L:=9) (M0:=10) y K S RR [] hw (by simp) m5 m7 m9 hk0)
 unfold yC at m0
 refine zbU (Φ:=P245) Tryz.func107 rfl (by rfl) (by rw [Tryz.ntmps107]; simp) zaB zmi ?_
 rw [Tryz.ntmps107]
 simp only [Tryz.f107,zai,zam]
 simp (maxSteps:=4000000) only [go_sem,zae,zac,zad,zan,zaq,czb,cza,↓reduceIte,zab,zay,onz,m0,t1,hml',m8,t0]
 refine ⟨_,zbE hlc,?_⟩
 rintro r m ⟨r0,rfl,⟨rfl,hk1⟩,_⟩ _
 have hb:=zrJ y K []
 obtain ⟨W,hW⟩:∃ W,(zc0 y K [] K.length).2 = W:=⟨_,rfl⟩
 have hV:(zc0 y K [] K.length).1 = zhF y K []:=rfl
 rw [hW,hV]
 obtain ⟨V,hV2⟩:∃ V,zhF y K [] = V:=⟨_,rfl⟩
 rw [hV2] at hb ⊢
 have hk1':=hk1
 rw [← hmm] at hk1'
 obtain ⟨Ms',hm',hM'⟩:=kn8_mid (A:=bA y K S RR oc mn) rfl hll hk1'
 have hml1:=hk1.len
 have n1:=hk0.keep hk1 t1
 have n2:=hk0.keep hk1 m2
 have n4:=hk0.keep hk1 m1
 have hm1l:1 < m.length:=by omega
 have n5:∀ o,zaa (m.set 1 o) 2 = .cells [.int .i64 mn]:=fun o => by rw [zaD _ _ _ _ hm1l,if_neg (by decide)]; exact n2
 have hm2l:2 < m.length:=by omega
 have htm:tryP (zhF y K) a [] = if V < a.2 then ([],V) else a:=by unfold tryP; rw [hV2]
 have hmn:=hO.1
 cases d:decide (V < mn)
 ·rw [if_neg (by rw [← hmn]; simpa using d)] at htm
  simp (maxSteps:=4000000) only [go_sem,zae,zac,zad,zan,zaq,czb,cza,↓reduceIte,zab,zay,onz,n1,n2,d,decide_true,decide_false]
  refine ⟨m.length,by omega,czf _,?_,by simp [AV.bare,zal,zaN,zaR,zak,zar,zaf,tokz1,lk,zaa,za3],?_⟩
  ·rw [czm,htm]
   exact ⟨rfl,oc,mn,Ms',_,_,hm',hM',hO⟩
  ·rw [czm]
   exact hk1.ok
 ·rw [if_pos (by rw [← hmn]; simpa using d)] at htm
  have hcl:=zrb (mem:=m) hk1.ok
  simp (maxSteps:=4000000) only [go_sem,zae,zac,zad,zan,zaq,czb,cza,↓reduceIte,zab,zay,onz,n1,n2,n4,n5,d,decide_true,decide_false]
  refine ⟨_,hcl,?_⟩
  rintro r m' ⟨rfl,rfl⟩ _
  simp (maxSteps:=4000000) only [go_sem,zae,zac,zad,zan,zaq,czb,cza,↓reduceIte,zab,zay,onz,n1,n2,n4,n5,d,decide_true,decide_false]
  have hset:(m'.set 1 (.cells [.sl [] .no])).set 2 (.cells [.int .i64 V]) = bM y K S RR (.sl [] .no) V Ms' (.sl [] .full) [] 0:=by rw [hm']; rfl
  have hO':OrdC (.sl [] .no) V ([],V):=⟨rfl,.inl rfl⟩
  have hlen:((m'.set 1 (.cells [.sl [] .no])).set 2 (.cells [.int .i64 V])).length = mm.length:=by rw [czt,czt,hml1]
  refine ⟨mm.length,by omega,by omega,?_,by simp [AV.bare,zal,zaN,zaR,zak,zar,zaf,tokz1,lk,zaa,za3],?_⟩
  ·rw [cze (by omega),htm,hset]
   exact ⟨rfl,_,_,Ms',_,_,rfl,hM',hO'⟩
  ·rw [cze (by omega),hset,hmlen']
   exact zkC hM' hO'.bel _ _ _ _ _ (by omega) (by simp [AV.bare,zal,zaN,zaR,zak,zar,zaf,tokz1,lk,zaa,za3]) (fun o ho => by cases ho) hvb
theorem top_call (hw:zu1 ⟨y,K⟩) (hvb:∀ k st,zb6 k (.vec (K.map EncE.cs ++ RR) 2 st)) {f:Nat} {now:List Int} (hnow:now = []) {a:List Int × Int} {oc0:AV} {mn0:Int} {Ms0:List AObj}
  (hM0:Mm y K Ms0) (hl:f + 1 = y.chairs.length) (hO0:OrdC oc0 mn0 a) :
  zeK Tryz.prog 107 [.ptr (11 + K.length) 0,.ptr 0 0,.ptr 8 0,.ptr (10 + K.length) 0,.ptr 2 0,.ptr 1 0,.ptr (12 + K.length) 0] (bM y K S RR oc0 mn0 Ms0 (.sl [] .full) [] 0)
   (Add0 y K S RR (tryF y K (f + 1) now a)):=by
 have hv:=hw.vy
 dsimp only at hv
 have hc5:=hv.c5
 have hnl:now.length = 0:=by rw [hnow]; rfl
 rw [zmx]
 have hne:decide ((0:Int) = y.chairs.length) = false:=by simp; omega
 have hml0:=zgS (S:=S) (RR:=RR) (y:=y) hM0.len oc0 mn0 (.sl [] .full) [] 0
 have m0:=bM_A (y:=y) (K:=K) (S:=S) (RR:=RR) (Ms:=Ms0) (i:=0) (by omega) oc0 mn0 (.sl [] .full) [] 0
 rw [show zaa (bA y K S RR oc0 mn0) 0 = yC y from rfl] at m0
 have t1:=zqE (y:=y) (S:=S) (RR:=RR) hM0.len oc0 mn0 (.sl [] .full) [] 0
 have hml0':(bM y K S RR oc0 mn0 Ms0 (.sl [] .full) [] 0).length = 13 + K.length:=by rw [hml0]; simp
 have hs1:(bM y K S RR oc0 mn0 Ms0 (.sl [] .full) [] 0).set (11 + K.length) (.cells [.vec (13 + K.length) 0 0 0 1]) ++ [.vec [] 1 0] = bM y K S RR oc0 mn0 Ms0 (nwV K.length now 0) [nwO now 0 []] 0:=by
  rw [bM_s1 hM0.len,hnow]
  unfold bM bT nwV nwO
  simp
 have hz0:∀ k,zb6 k (nwO now 0 []):=zlM now 0
 have hok1:=zkC (S:=S) (RR:=RR) hM0 hO0.bel mn0 (nwV K.length now 0) [nwO now 0 []] 0 (14 + K.length) (by omega) (by simp [nwV,AV.bare,zal,zaN,zaR,zak,zar,zaf,tokz1,lk,zaa,za3] <;> omega) (fun o ho => by rw [czC] at ho; subst ho; exact hz0 _) hvb
 have hml1:=zgS (S:=S) (RR:=RR) (y:=y) hM0.len oc0 mn0 (nwV K.length now 0) [nwO now 0 []] 0
 have hml1':(bM y K S RR oc0 mn0 Ms0 (nwV K.length now 0) [nwO now 0 []] 0).length = 14 + K.length:=by rw [hml1]; simp only [List.length_singleton]; omega
 refine zbU (Φ:=P245) Tryz.func107 rfl (by rfl) (by rw [Tryz.ntmps107]; simp) zaB zmi ?_
 rw [Tryz.ntmps107]
 simp only [Tryz.f107,zai,zam]
 refine zkI fun Q0 hQ0 => ?_
 generalize hB0:bM y K S RR oc0 mn0 Ms0 (.sl [] .full) [] 0 = B0 at m0 t1 hml0' hs1 ⊢
 unfold yC at m0
 simp (maxSteps:=4000000) only [go_sem,zae,zac,zad,zan,zaq,czb,cza,↓reduceIte,zab,zay,onz,m0,t1,hne,decide_false]
 refine zjN [.vcell (11 + K.length) 0 1] [0,6,31] (fun b:Nat × AV × Int × List AObj × Nat × List (List AV) => [(32,.int .i64 b.1)]) (fun b _ => bM y K S RR b.2.1 b.2.2.1 b.2.2.2.1 (nwV K.length now b.2.2.2.2.1) [nwO now b.2.2.2.2.1 b.2.2.2.2.2] 0) (fun b => b.1 ≤ y.chairs.length ∧ Mm y K b.2.2.2.1 ∧ OrdC b.2.1 b.2.2.1 (tryN y K f now b.1 a) ∧ ∀ k,zb6 k (nwO now b.2.2.2.2.1 b.2.2.2.2.2)) (fun b => y.chairs.length - b.1) (((0,oc0,mn0,Ms0,0,[]):Nat × AV × Int × List AObj × Nat × List (List AV))) ?_ ?_ ?_
 ·exact ⟨Nat.zero_le _,hM0,hO0,hz0⟩
 ·simp only [zdD,tokz1,t1,List.getD_cons_zero,List.set_cons_zero,hml0',hs1,zcj]
  generalize hB1:bM y K S RR oc0 mn0 Ms0 (nwV K.length now 0) [nwO now 0 []] 0 = B1 at hok1 hml1' ⊢
  refine ⟨rfl,rfl,rfl,?_,za0 _,?_,zby ?_,trivial⟩
  ·show 13 + K.length ≤ B1.length
   omega
  ·show zaN _ B1.length _
   rw [hml1']
   simp [AV.bare,zal,zaN,zaR,zak,zar,zaf,tokz1,lk,zaa,za3]
   try omega
  ·show ∀ o ∈ B1,zb6 B1.length o
   rw [hml1']; exact hok1
 ·rintro ⟨k,oc,mn,Ms,st,zs⟩ ⟨hk,hM,hO,hz⟩
  simp only at hk hM hO hz
  have hpic:(now.map EncE.cs ++ zs).take now.length = now.map EncE.cs:=List.take_left' (by simp)
  have hts:=zmw y K f now k a
  obtain ⟨B,hB⟩:∃ B,bM y K S RR oc mn Ms (nwV K.length now st) [nwO now st zs] 0 = B:=⟨_,rfl⟩
  have b1:=zqE (y:=y) (S:=S) (RR:=RR) hM.len oc mn (nwV K.length now st) [nwO now st zs] 0
  have b3:=bM_t3 (y:=y) (S:=S) (RR:=RR) hM.len oc mn (nwV K.length now st) (nwO now st zs) 0
  have hok:=zkC (S:=S) (RR:=RR) hM hO.bel mn (nwV K.length now st) [nwO now st zs] 0 (14 + K.length + 0) (by omega) (by simp [nwV,AV.bare,zal,zaN,zaR,zak,zar,zaf,tokz1,lk,zaa,za3] <;> omega) (fun o ho => by rw [czC] at ho; subst ho; exact hz _) hvb
  have hml:=zgS (S:=S) (RR:=RR) (y:=y) hM.len oc mn (nwV K.length now st) [nwO now st zs] 0
  rw [hB] at b1 b3 hok hml
  rw [hB]
  have hml':B.length = 14 + K.length + 0:=by rw [hml]; simp; omega
  unfold nwV at b1
  unfold nwO at b3
  by_cases e:k < y.chairs.length
  ·have e':=czH.2 e
   cases d:now.contains (k:Int)
   ·obtain ⟨B2,hB2⟩:∃ B2,bM y K S RR oc mn Ms (nwV K.length now st) [nwO (now ++ [(k:Int)]) (st + 1) []] 0 = B2:=⟨_,rfl⟩
    have s1:=bM_s3 (y:=y) (S:=S) (RR:=RR) hM.len (nwO (now ++ [(k:Int)]) (st + 1) []) oc mn (nwV K.length now st) (nwO now st zs) 0
    have d1:=zqE (y:=y) (S:=S) (RR:=RR) hM.len oc mn (nwV K.length now st) [nwO (now ++ [(k:Int)]) (st + 1) []] 0
    obtain ⟨B3,hB3⟩:∃ B3,bM y K S RR oc mn Ms (nwV K.length (now ++ [(k:Int)]) (st + 1)) [nwO (now ++ [(k:Int)]) (st + 1) []] 0 = B3:=⟨_,rfl⟩
    have s2:=bM_s1 (y:=y) (S:=S) (RR:=RR) hM.len (nwV K.length (now ++ [(k:Int)]) (st + 1)) oc mn (nwV K.length now st) [nwO (now ++ [(k:Int)]) (st + 1) []] 0
    have d2:=bM_t2 (y:=y) (S:=S) (RR:=RR) hM.len oc mn (nwV K.length (now ++ [(k:Int)]) (st + 1)) [nwO (now ++ [(k:Int)]) (st + 1) []] 0
    have hih:=zr5 (S:=S) (RR:=RR) hw hvb f (now:=now ++ [(k:Int)]) (D:=0) (st:=st + 1) (zs:=[]) hM (by simp; omega) hO (zlM _ _)
    rw [if_neg (by rw [d]; simp)] at hts
    rw [← hts] at hih
    rw [hB] at s1
    rw [hB2] at s1 d1 s2
    rw [hB3] at s2 d2 hih
    unfold nwV at d1 s2
    unfold nwO at s1
    unfold addF at d2
    rw [List.map_append,List.append_nil] at s1
    rw [czc] at s2
    simp only [czb,List.map_nil,cza,czy,zeF,Nat.zero_add] at s1 s2
    simp (maxSteps:=4000000) only [go_sem,zae,zac,zad,zan,zaq,czb,cza,↓reduceIte,zab,zay,onz,t1,hml0',hs1,b1,b3,hpic,e',d,s1,d1,s2,d2,decide_true,decide_false]
    refine ⟨by omega,by omega,_,zbE hih,?_⟩
    rintro r m' ⟨r0,rfl,⟨rfl,oc',mn',Ms',st',zs',rfl,hM',hO',hz'⟩,_⟩ _
    obtain ⟨B4,hB4⟩:∃ B4,bM y K S RR oc' mn' Ms' (nwV K.length (now ++ [(k:Int)]) st') [nwO (now ++ [(k:Int)]) st' zs'] 0 = B4:=⟨_,rfl⟩
    have f1:=zqE (y:=y) (S:=S) (RR:=RR) hM'.len oc' mn' (nwV K.length (now ++ [(k:Int)]) st') [nwO (now ++ [(k:Int)]) st' zs'] 0
    have f3:=bM_t3 (y:=y) (S:=S) (RR:=RR) hM'.len oc' mn' (nwV K.length (now ++ [(k:Int)]) st') (nwO (now ++ [(k:Int)]) st' zs') 0
    have s3:=bM_s1 (y:=y) (S:=S) (RR:=RR) hM'.len (nwV K.length now st') oc' mn' (nwV K.length (now ++ [(k:Int)]) st') [nwO (now ++ [(k:Int)]) st' zs'] 0
    rw [hB4] at f1 f3 s3
    rw [hB4]
    rw [zrB] at s3 hz'
    unfold nwV at f1
    unfold nwO at f3
    rw [czc] at f1
    simp only [cza,czy,Nat.zero_add] at f1
    have hle:(((now.length + 1:Nat):Int) - 1) = (now.length:Int):=by omega
    have hz2:((now.length:Int) - 0).toNat = now.length:=by omega
    unfold nwV at s3
    simp (maxSteps:=4000000) only [go_sem,zae,zac,zad,zan,zaq,czb,cza,↓reduceIte,zab,zay,onz,t1,hml0',hs1,f1,f3,hle,hz2,s3,decide_true,decide_false]
    refine ⟨(by simp only [InR]; omega),⟨by omega,by omega⟩,(by simp only [InR]; omega),(k + 1,oc',mn',Ms',st',[AV.int .i64 (k:Int)] :: zs'),⟨by dsimp only; omega,hM',hO',hz'⟩,by dsimp only; omega,zbl ?_⟩
    dsimp only
    have hml4:=zgS (S:=S) (RR:=RR) (y:=y) hM'.len oc' mn' (nwV K.length now st') [nwO now st' ([AV.int .i64 (k:Int)] :: zs')] 0
    have hok4:=zkC (S:=S) (RR:=RR) hM' hO'.bel mn' (nwV K.length now st') [nwO now st' ([AV.int .i64 (k:Int)] :: zs')] 0 (14 + K.length + 0) (by omega) (by simp [nwV,AV.bare,zal,zaN,zaR,zak,zar,zaf,tokz1,lk,zaa,za3] <;> omega) (fun o ho => by rw [czC] at ho; subst ho; exact hz' _) hvb
    unfold nwV at hml4 hok4
    unfold nwV
    generalize bM y K S RR oc' mn' Ms' _ [nwO now st' ([AV.int .i64 (k:Int)] :: zs')] 0 = B5 at hml4 hok4 ⊢
    have hml5:B5.length = 14 + K.length + 0:=by rw [hml4]; simp; omega
    refine ⟨rfl,rfl,rfl,?_,za0 _,?_,zby ?_,trivial⟩
    ·show 13 + K.length ≤ B5.length
     omega
    ·show zaN _ B5.length _
     rw [hml5]
     simp [AV.bare,zal,zaN,zaR,zak,zar,zaf,tokz1,lk,zaa,za3]
     try omega
    ·show ∀ o ∈ B5,zb6 B5.length o
     rw [hml5]; exact hok4
   ·rw [if_pos d] at hts
    simp (maxSteps:=4000000) only [go_sem,zae,zac,zad,zan,zaq,czb,cza,↓reduceIte,zab,zay,onz,t1,hml0',hs1,b1,b3,hpic,e',d,decide_true,decide_false]
    refine ⟨by omega,(by simp only [InR]; omega),(k + 1,oc,mn,Ms,st,zs),⟨by dsimp only; omega,hM,by dsimp only; rw [hts]; exact hO,hz⟩,by dsimp only; omega,zbl ?_⟩
    dsimp only
    rw [hB]
    refine ⟨rfl,rfl,rfl,?_,za0 _,?_,zby ?_,trivial⟩
    ·show 13 + K.length ≤ B.length
     omega
    ·show zaN _ B.length _
     rw [hml']
     simp [AV.bare,zal,zaN,zaR,zak,zar,zaf,tokz1,lk,zaa,za3]
     try omega
    ·show ∀ o ∈ B,zb6 B.length o
     rw [hml']; exact hok
  ·have e2:k = y.chairs.length:=by omega
   subst e2
   simp (maxSteps:=4000000) only [go_sem,zae,zac,zad,zan,zaq,czb,cza,↓reduceIte,zab,zay,onz,t1,hml0',hs1,hQ0,czA,decide_false]
   refine ⟨B.length,by first | omega | (rw [hB0]; omega),czf _,?_,by simp [AV.bare,zal,zaN,zaR,zak,zar,zaf,tokz1,lk,zaa,za3],?_⟩
   ·rw [czm,← hB]
    exact ⟨rfl,oc,mn,Ms,_,_,rfl,hM,hO⟩
   ·rw [czm,hml']; exact hok
end
end Go.Proofs
