/- The texts S16, S17, S18, S19, S20, joined. -/
import Derived.Test.YtilbconikmpadaaGreatG9
set_option linter.all false
namespace Go.Proofs
open Go.Fs
set_option maxHeartbeats 4000000
set_option maxRecDepth 8000
def P41 (g:FuncId):=(zas 124 (ziL (fun (w:Wk) (_:Arr 10) (_ _:Int) => 0 ≤ w.t.last ∧ w.t.last ≤ 9) (fun w s level _ => zgA w s level)) (P40):zaJ) g
theorem P41_ok:zaz Tryz.prog P41:=zah (zeg zmC) (P40_ok)
theorem zsg (d:Option Nat):zaF P41 d = none:=(zag (by decide) d).trans (zsh d)
attribute [go_sem] P41 zsg
theorem za1 {k:Nat} {mem:List AObj} (n:Nat):(zb3 n).map (zb5 (k + 1) mem) = zb3 n:=by simp [zb3,zb5]
theorem za9 {k:Nat} (n:Nat):(∀ c ∈ zb3 n,imm (k + 1) c) = True:=by simp [zb3,imm]
theorem zfM (w:Wk):(Enc.dec (.ref [.int .i64 w.t.last,.sl (w.t.heights.map EncE.cs) .no,.int .i64 w.t.step,.sl (w.t.levels.map EncE.cs) .no,.sl (w.t.marks.map EncE.cs) .no,.sl (w.truth.map EncE.cs) .no,.mpr w.ks (zb3 w.ks.length)] 0):Option Wk) = some w:=by
 show zt5 _ = _
 simp only [zt5,zdo,zla,if_true]
inductive Qn where
 | soon
 | top
def Qn.fn:Qn → Nat
 | .soon => 124
 | .top => 9999999
instance:Enc Qn where
 enc q:=.agg [.fn (.func q.fn) [] []]
 dec
  | .agg [.fn (.func g) [] []] => if g = Qn.fn .soon then some .soon else if g = Qn.fn .top then some .top else none
  | _ => none
 law v x h:=by
  split at h
  ·split at h
   ·rename_i e; cases h; rw [e] <;> rfl
   ·split at h
    ·rename_i e; cases h; rw [e] <;> rfl
    ·cases h
  ·cases h
 dep:=2
 ok x:=by simp [zbr]
theorem zgR (q:Qn):Enc.enc q = .agg [.fn (.func q.fn) [] []]:=rfl
theorem zdn:(Enc.dec (.agg [.fn (.func 124) [] []]):Option Qn) = some .soon:=rfl
theorem zdm:True:=trivial
def Qn.ask (q:Qn) (w:Wk) (x y:Int) (s:Arr 10):Int :=
 match q with
 | .soon => zgA w s x
 | .top => zkJ s.l x y
def Qn.pre (q:Qn) (w:Wk) (x y:Int):Prop :=
 match q with
 | .soon => 0 ≤ w.t.last ∧ w.t.last ≤ 9
 | .top => False
def zfE (q:Qn) (w:Wk) (x y:Int):Rg:=w.truth.foldl (fun r s => zdt r (q.ask w x y s)) ⟨q.ask w x y (at_ w.truth 0),q.ask w x y (at_ w.truth 0)⟩
theorem zqx (q:Qn) (w:Wk) (x y:Int) (h:(0 < w.truth.length ∧ w.truth.length ≤ 4096) ∧ q.pre w x y):zaP Tryz.prog 125 [Enc.enc q,Enc.enc w,Enc.enc x,Enc.enc y] (· = Enc.enc (zfE q w x y)):=by
 obtain ⟨⟨h1,h2⟩,h3⟩:=h
 have h0:=zax (f:=EncE.cs) h1
 have h10:=(at_ w.truth 0).h
 have h1':(0:Int) < w.truth.length:=by omega
 simp only [zrR,wkC,zgR]
 cases q
 ·simp only [Qn.fn,Qn.pre] at h3 ⊢
  simp only [zcp]
  refine cpz P41_ok Tryz.func125 zaB ?_
  rw [Tryz.ntmps125]
  simp only [Tryz.f125,zai,zam]
  simp (maxSteps:=4000000) only [go_sem,zae,zac,zad,zan,zaq,zaa,czb,cza,↓reduceIte,za1,za9,zfM,zdn,zdm,zab,zaG,zay,zcD,zc2,zb4,zbB,zbA,zbi,zcd,h0,h10,h1']
  all_goals (repeat' first | (with_reducible first | rfl | apply And.intro | assumption) | ((with_reducible show zaj _ _ = true); rfl)) <;> try first | omega | (simp only [InR]; omega)
  refine zbG (w.truth.length) [] [1,2,3,4,8,10,31,32] (fun i => [(33,.int .i64 i)]) (fun i m => m.set 2 (.cells (EncE.cs ((w.truth.take i).foldl (fun r s => zdt r (Qn.soon.ask w x y s)) (⟨Qn.soon.ask w x y (at_ w.truth 0),Qn.soon.ask w x y (at_ w.truth 0)⟩:Rg))))) (fun _ => True) ?_ ?_ ?_ ?_
  ·trivial
  ·simp [AV.bare,zal,zaN,zaR,zak,zar,zaf,tokz1,lk,zaa,zcL,Qn.ask,zb3]
  ·intro i hi _
   have h10i:=(at_ w.truth i).h
   simp (maxSteps:=4000000) only [go_sem,zae,zac,zad,zan,zaq,zaa,czb,cza,↓reduceIte,za1,za9,zfM,zdn,zdm,zab,zaG,zay,zcD,zc2,zb4,zbB,zbA,zbi,zcd,zax hi,czH.2 hi,h10i]
   all_goals (repeat' first | (with_reducible first | rfl | apply And.intro | assumption) | ((with_reducible show zaj _ _ = true); rfl)) <;> try first | omega | (simp only [InR]; omega)
   refine nxt hi trivial ?_
   simp [AV.bare,zal,zaN,zaR,zak,zar,zaf,tokz1,lk,zaa,zcL,zjU hi,Qn.ask,zb3]
  ·intro _
   simp (maxSteps:=4000000) only [go_sem,zae,zac,zad,zan,zaq,zaa,czb,cza,↓reduceIte,za1,za9,zfM,zdn,zdm,zab,zaG,zay,zcD,zc2,zb4,zbB,zbA,zbi,zcd,czm]
   rfl
 ·exact h3.elim
def P42 (g:FuncId):=(zas 125 (ziL (fun (q:Qn) (w:Wk) (x y:Int) => (0 < w.truth.length ∧ w.truth.length ≤ 4096) ∧ q.pre w x y) zfE) (P41):zaJ) g
theorem ziJ:zaz Tryz.prog P42:=zah (zeg zqx) (P41_ok)
theorem zsf (d:Option Nat):zaF P42 d = none:=(zag (by decide) d).trans (zsg d)
attribute [go_sem] P42 zsf
structure IsB (S:Int → Prop) (r:Rg):Prop where
 all:∀ x,S x → r.lo ≤ x ∧ x ≤ r.hi
 lo:S r.lo
 hi:S r.hi
theorem Rg.ext' {r s:Rg} (h1:r.lo = s.lo) (h2:r.hi = s.hi):r = s:=by cases r; cases s; simp_all
theorem IsB.congr {S T:Int → Prop} {r:Rg} (h:IsB S r) (hst:∀ x,S x ↔ T x):IsB T r :=
 ⟨fun x hx => h.all x ((hst x).2 hx),(hst _).1 h.lo,(hst _).1 h.hi⟩
theorem IsB.eq {S T:Int → Prop} {r s:Rg} (h:IsB S r) (h':IsB T s) (hst:∀ x,S x ↔ T x):r = s:=by
 have h2:=h.congr hst
 have a1:=h2.all _ h'.lo
 have a2:=h2.all _ h'.hi
 have a3:=h'.all _ h2.lo
 have a4:=h'.all _ h2.hi
 exact Rg.ext' (by omega) (by omega)
theorem IsB.le {S:Int → Prop} {r:Rg} (h:IsB S r):r.lo ≤ r.hi:=(h.all _ h.lo).2
theorem isB_wider {S:Int → Prop} {r:Rg} (h:IsB S r) (n:Int):IsB (fun x => S x ∨ x = n) (zdt r n):=by
 refine ⟨fun x hx => ?_,?_,?_⟩
 ·show min r.lo n ≤ x ∧ x ≤ max r.hi n
  rcases hx with hx | hx
  ·have:=h.all x hx; omega
  ·omega
 ·show S (min r.lo n) ∨ min r.lo n = n
  by_cases c:r.lo ≤ n
  ·left; rw [Int.min_eq_left c]; exact h.lo
  ·right; omega
 ·show S (max r.hi n) ∨ max r.hi n = n
  by_cases c:n ≤ r.hi
  ·left; rw [Int.max_eq_left c]; exact h.hi
  ·right; omega
theorem zlV {α:Type} (f:α → Int):∀ (l:List α) (S:Int → Prop) (r:Rg),IsB S r → IsB (fun x => S x ∨ ∃ a ∈ l,f a = x) (l.foldl (fun r a => zdt r (f a)) r)
 | [],S,r,h => h.congr fun x => by simp
 | a :: l,S,r,h => by
  refine (zlV f l _ _ (isB_wider h (f a))).congr fun x => ?_
  simp only [czn,exists_eq_or_imp,or_assoc]
  constructor
  ·rintro (h | h | h)
   ·exact .inl h
   ·exact .inr (.inl h.symm)
   ·exact .inr (.inr h)
  ·rintro (h | h | h)
   ·exact .inl h
   ·exact .inr (.inl h.symm)
   ·exact .inr (.inr h)
theorem isB_one (n:Int):IsB (fun x => x = n) ⟨n,n⟩:=⟨fun x h => by subst h; exact ⟨Int.le_refl _,Int.le_refl _⟩,rfl,rfl⟩
theorem zrO {α:Type} (f:α → Int) (l:List α) (a:α) (h:a ∈ l):IsB (fun x => ∃ a ∈ l,f a = x) (l.foldl (fun r a => zdt r (f a)) ⟨f a,f a⟩):=by
 refine (zlV f l _ _ (isB_one (f a))).congr fun x => ?_
 constructor
 ·rintro (rfl | h')
  ·exact ⟨a,h,rfl⟩
  ·exact h'
 ·exact .inr
theorem znn {α:Type} (f:α → Int) (l:List α) (h:l ≠ []) (hb:∀ a ∈ l,0 ≤ f a ∧ f a ≤ 1099511627776):IsB (fun x => ∃ a ∈ l,f a = x) (l.foldl (fun r a => zdt r (f a)) zjX):=by
 cases l with
 | nil => exact absurd rfl h
 | cons a l =>
  have hba:=hb a (by simp)
  have e:zdt zjX (f a) = ⟨f a,f a⟩:=by
   unfold zdt zjX
   exact Rg.ext' (by dsimp only; omega) (by dsimp only; omega)
  rw [List.foldl_cons,e]
  refine (zlV f l _ _ (isB_one (f a))).congr fun x => ?_
  simp only [czn,exists_eq_or_imp]
  constructor
  ·rintro (h | h)
   ·exact .inl h.symm
   ·exact .inr h
  ·rintro (h | h)
   ·exact .inl h.symm
   ·exact .inr h
theorem zja {t:Tb} (h:zbq t = 0):0 ≤ t.last:=by
 unfold zbq at h
 split at h
 ·cases h
 split at h
 ·cases h
 rename_i h10
 simp only [not_or] at h10
 omega
theorem zjs {σ α:Type} (next:σ → α → σ):∀ (l:List α) (a:σ),zdO (fun _ _ => true) next a l = (l.foldl next a,true)
 | [],a => rfl
 | p :: l,a => by simp only [zdO,if_true,List.foldl_cons]; exact zjs next l _
theorem mem_addK {ks:List (List Int)} {k x:List Int}:x ∈ addK ks k ↔ x ∈ ks ∨ x = k:=by
 unfold addK
 split
 ·rename_i h
  constructor
  ·exact .inl
  ·rintro (h1 | rfl)
   ·exact h1
   ·exact h
 ·simp
theorem zhA {ks:List (List Int)} {p x:List Int}:∀ n,x ∈ ze0 ks p n ↔ x ∈ ks ∨ ∃ i:Nat,i < n ∧ x = [(i:Int),at_ p i]
 | 0 => by simp [ze0]
 | n + 1 => by
  rw [ze0,mem_addK,zhA n]
  constructor
  ·rintro ((h | ⟨i,hi,rfl⟩) | rfl)
   ·exact .inl h
   ·exact .inr ⟨i,by omega,rfl⟩
   ·exact .inr ⟨n,by omega,rfl⟩
  ·rintro (h | ⟨i,hi,rfl⟩)
   ·exact .inl (.inl h)
   ·by_cases c:i = n
    ·subst c; exact .inr rfl
    ·exact .inl (.inr ⟨i,by omega,rfl⟩)
theorem pad10_inj {a b:List Int} (h1:a.length = b.length) (h2:b.length ≤ 10) (h:zdh a = zdh b):a = b:=by
 unfold zdh at h
 rw [cze (by omega),cze h2] at h
 exact (List.append_inj h h1).1
structure Met (t:Tb) (n:Nat) (a:List (List Int) × List (List Int)):Prop where
 len:∀ p ∈ a.1,p.length = n
 key:∀ k ∈ a.2,∃ p ∈ a.1,∃ i:Nat,i < n ∧ k = [(i:Int),at_ p i]
 all:∀ p ∈ a.1,∀ i:Nat,i < n → [(i:Int),at_ p i] ∈ a.2
theorem met_step {t:Tb} {n:Nat} (hn:(t.last + 1).toNat = n) {a:List (List Int) × List (List Int)} {p:List Int} (h:Met t n a) (hp:p.length = n):Met t n (zhf t a p):=by
 unfold zhf
 split
 ·rw [hn]
  refine ⟨fun q hq => ?_,fun k hk => ?_,fun q hq i hi => ?_⟩
  ·rcases czv.1 hq with hq | hq
   ·exact h.len q hq
   ·simp at hq; subst hq; exact hp
  ·rcases (zhA n).1 hk with hk | ⟨i,hi,rfl⟩
   ·obtain ⟨q,hq,i,hi,rfl⟩:=h.key k hk
    exact ⟨q,List.mem_append_left _ hq,i,hi,rfl⟩
   ·exact ⟨p,by simp,i,hi,rfl⟩
  ·rcases czv.1 hq with hq | hq
   ·exact (zhA n).2 (.inl (h.all q hq i hi))
   ·simp at hq; subst hq
    exact (zhA n).2 (.inr ⟨i,hi,rfl⟩)
 ·exact h
theorem met_mono {t:Tb} {a:List (List Int) × List (List Int)} {p q:List Int} (h:q ∈ a.1):q ∈ (zhf t a p).1:=by
 unfold zhf
 split
 ·exact List.mem_append_left _ h
 ·exact h
theorem met_add {t:Tb} {n:Nat} (h10:n ≤ 10) {a:List (List Int) × List (List Int)} {p:List Int} (h:Met t n a) (hp:p.length = n) (hr:zdv t (zdh p) [] t.marks.length = true):p ∈ (zhf t a p).1:=by
 unfold zhf
 split
 ·simp
 ·rename_i c
  rw [hr,Bool.true_and,Bool.not_eq_true,Bool.not_eq_false',czl] at c
  have c1:0 < a.1.length:=by simpa using c.1
  have c2:zdh (at_ a.1 (a.1.length - 1)) = zdh p:=by simpa using c.2
  have hm:=zbv (l:=a.1) (i:=a.1.length - 1) (by omega)
  have:=pad10_inj (by rw [h.len _ hm,hp]) (by omega) c2
  rw [← this]; exact hm
theorem zrE {t:Tb} {n:Nat} (hn:(t.last + 1).toNat = n) (h10:n ≤ 10):∀ (l:List (List Int)) (a:List (List Int) × List (List Int)),(∀ p ∈ l,p.length = n) → Met t n a →
  Met t n (l.foldl (zhf t) a) ∧ (∀ q ∈ a.1,q ∈ (l.foldl (zhf t) a).1) ∧ ∀ p ∈ l,zdv t (zdh p) [] t.marks.length = true → p ∈ (l.foldl (zhf t) a).1
 | [],a,hl,h => ⟨h,fun q hq => hq,fun p hp => by cases hp⟩
 | p :: l,a,hl,h => by
  have hp:=hl p (by simp)
  obtain ⟨h1,h2,h3⟩:=zrE hn h10 l (zhf t a p) (fun q hq => hl q (by simp [hq])) (met_step hn h hp)
  refine ⟨h1,fun q hq => h2 q (met_mono hq),fun q hq hr => ?_⟩
  rcases czn.1 hq with rfl | hq
  ·exact h2 _ (met_add h10 h hp hr)
  ·exact h3 q hq hr
theorem zpo {t:Tb} (hv:VOk t) {p:List Int} (h:p ∈ zks t):p.length = (t.last + 1).toNat:=by
 have:=zbY ((zi6 hv.hok hv.last p).1 h)
 have:=hv.last
 omega
theorem zmc {t:Tb} (hv:VOk t):Met t (t.last + 1).toNat (zgL t) ∧ ∀ p,p ∈ (zgL t).1 ↔ p ∈ zks t ∧ zdv t (zdh p) [] t.marks.length = true:=by
 have h10:(t.last + 1).toNat ≤ 10:=by have:=hv.last; have:=hv.hok.len; omega
 have e:zgL t = (zks t).foldl (zhf t) ([],[]):=by unfold zgL; rw [zjs]
 obtain ⟨h1,_,h3⟩:=zrE rfl h10 (zks t) ([],[]) (fun p hp => zpo hv hp) ⟨by simp,by simp,by simp⟩
 rw [← e] at h1 h3
 refine ⟨h1,fun p => ⟨fun hp => ?_,fun hp => h3 p hp.1 hp.2⟩⟩
 rcases askS_mem (zks t) ([],[]) p hp with h | h
 ·simp at h
 ·exact h
theorem zhr {t:Tb} (hv:VOk t) {p:List Int} (h:zbg t p = true):zdv t (zdh p) [] t.marks.length = t.marks.all (zdP p):=by
 rw [zmQ]
 have hl:=zbY h
 refine zdA fun m hm => ?_
 have:=hv.mok.m m hm
 exact zkS (by have:=hv.hok.len; omega) (by omega) (by omega)
theorem zg2 {t:Tb} (hv:VOk t) (p:List Int):p ∈ zaS t ↔ zbZ t p = true:=by
 unfold zaS
 rw [List.mem_filter,zh9 hv.hok hv.many]
 constructor
 ·exact fun h => h.2
 ·intro h
  refine ⟨?_,h⟩
  unfold zbZ at h
  simp only [czl] at h
  exact h.1
theorem zfG {t:Tb} (hv:VOk t) (p:List Int):p ∈ (zgL t).1 ↔ p ∈ zaS t:=by
 rw [(zmc hv).2 p,zi6 hv.hok hv.last,zg2 hv]
 unfold zbZ
 rw [czl]
 constructor
 ·rintro ⟨h1,h2⟩
  rw [zhr hv h1] at h2
  exact ⟨h1,h2⟩
 ·rintro ⟨h1,h2⟩
  rw [zhr hv h1]
  exact ⟨h1,h2⟩
theorem zhZ {t:Tb} (hv:VOk t):(zgL t).1.length = 0 ↔ zaS t = []:=by
 rw [List.length_eq_zero_iff]
 constructor
 ·intro h
  refine List.eq_nil_iff_forall_not_mem.2 fun p hp => ?_
  have:=(zfG hv p).2 hp
  rw [h] at this; cases this
 ·intro h
  refine List.eq_nil_iff_forall_not_mem.2 fun p hp => ?_
  have:=(zfG hv p).1 hp
  rw [h] at this; cases this
theorem zfW {t:Tb} (hv:VOk t) {p:List Int} (h:p ∈ zaS t):p.length = t.heights.length:=by
 have:=(zg2 hv p).1 h
 unfold zbZ at this
 rw [czl] at this
 exact zbY this.1
theorem zji {t:Tb} (hv:VOk t) {p:List Int} (h:p ∈ zaS t):LOk p:=by
 unfold zaS at h
 exact (znh hv.hok p (List.mem_filter.1 h).1).2
def zmr (t:Tb):Wk:=⟨t,(zgL t).1.map ze1,(zgL t).2⟩
theorem askS_key2 {t:Tb} (hv:VOk t):∀ k ∈ (zmr t).ks,k.length = 2:=by
 intro k hk
 obtain ⟨p,_,i,_,rfl⟩:=(zmc hv).1.key k hk
 rfl
theorem zpY {t:Tb} (hv:VOk t) (hne:zaS t ≠ []) {hour:Int} (h0:0 ≤ hour) (h1:hour ≤ t.last):IsB (fun x => ∃ p ∈ zaS t,at_ p hour.toNat = x) (zgF (zmr t) hour):=by
 obtain ⟨hm,ht⟩:=zmc hv
 have hat:=zfG hv
 have hne':0 < (zgL t).1.length:=by
  have:=zhZ hv
  rcases Nat.eq_zero_or_pos (zgL t).1.length with h | h
  ·exact absurd (this.1 h) hne
  ·exact h
 have h10:t.heights.length ≤ 10:=hv.hok.len
 have hl:=hv.last
 have e0:at_ (at_ (zmr t).truth 0).l hour.toNat = at_ (at_ (zgL t).1 0) hour.toNat:=by
  have:at_ (zmr t).truth 0 = ze1 (at_ (zgL t).1 0):=by
   show at_ ((zgL t).1.map ze1) 0 = _
   simp [at_,List.getD,hne']
  rw [this]
  have hmm:=zbv hne'
  exact zgQ (by rw [hm.len _ hmm]; omega) (by omega)
 unfold zgF
 rw [e0]
 have e1:(zmr t).ks.foldl (zhk hour) ⟨at_ (at_ (zgL t).1 0) hour.toNat,at_ (at_ (zgL t).1 0) hour.toNat⟩ = ((zgL t).2.filter fun k => decide (at_ k 0 = hour)).foldl (fun r k => zdt r (at_ k 1)) ⟨at_ (at_ (zgL t).1 0) hour.toNat,at_ (at_ (zgL t).1 0) hour.toNat⟩:=by
  rw [List.foldl_filter]
  simp only [decide_eq_true_eq]
  rfl
 rw [e1]
 have hk0:=hm.all _ (zbv hne') hour.toNat (by omega)
 have:=zrO (fun k:List Int => at_ k 1) ((zgL t).2.filter fun k => decide (at_ k 0 = hour)) [((hour.toNat:Nat):Int),at_ (at_ (zgL t).1 0) hour.toNat] (by
  rw [List.mem_filter]
  refine ⟨hk0,?_⟩
  simp [at_]; omega)
 refine this.congr fun x => ?_
 constructor
 ·rintro ⟨k,hk,rfl⟩
  rw [List.mem_filter] at hk
  obtain ⟨p,hp,i,hi,rfl⟩:=hm.key k hk.1
  have hi2:(i:Int) = hour:=by simpa [at_] using hk.2
  refine ⟨p,(hat p).1 hp,?_⟩
  rw [show hour.toNat = i by omega]
  rfl
 ·rintro ⟨p,hp,rfl⟩
  refine ⟨[((hour.toNat:Nat):Int),at_ p hour.toNat],?_,rfl⟩
  rw [List.mem_filter]
  refine ⟨hm.all p ((hat p).2 hp) _ (by omega),?_⟩
  simp [at_]; omega
theorem zj3 {t:Tb} (hv:VOk t) (hne:zaS t ≠ []) {hour:Int} (h0:0 ≤ hour) (h1:hour ≤ t.last):IsB (fun x => ∃ p ∈ zaS t,at_ p hour.toNat = x) (zih (zaS t) hour):=by
 refine znn (fun l:List Int => at_ l hour.toNat) (zaS t) hne fun p hp => ?_
 have hl:=zfW hv hp
 have:=hv.last
 have:=(zji hv hp).b _ (zbv (show hour.toNat < p.length by omega))
 omega
theorem zkx {t:Tb} (hv:VOk t) (hne:zaS t ≠ []) {hour:Int} (h0:0 ≤ hour) (h1:hour ≤ t.last):zgF (zmr t) hour = zih (zaS t) hour :=
 (zpY hv hne h0 h1).eq (zj3 hv hne h0 h1) fun _ => Iff.rfl
theorem zj2 {t:Tb} (hv:VOk t) (hne:zaS t ≠ []) (q:Qn) (x y:Int) (f:List Int → Int) (hf:∀ p ∈ zaS t,q.ask (zmr t) x y (ze1 p) = f p):IsB (fun z => ∃ p ∈ zaS t,f p = z) (zfE q (zmr t) x y):=by
 have hat:=zfG hv
 have hne':0 < (zgL t).1.length:=by
  rcases Nat.eq_zero_or_pos (zgL t).1.length with h | h
  ·exact absurd ((zhZ hv).1 h) hne
  ·exact h
 unfold zfE
 have:=zrO (fun s => q.ask (zmr t) x y s) (zmr t).truth (at_ (zmr t).truth 0) (zbv (by show 0 < ((zgL t).1.map ze1).length; simpa using hne'))
 refine this.congr fun z => ?_
 constructor
 ·rintro ⟨s,hs,rfl⟩
  obtain ⟨p,hp,rfl⟩:=czx.1 hs
  exact ⟨p,(hat p).1 hp,(hf p ((hat p).1 hp)).symm⟩
 ·rintro ⟨p,hp,rfl⟩
  exact ⟨ze1 p,czx.2 ⟨p,(hat p).2 hp,rfl⟩,hf p hp⟩
theorem zpc {t:Tb} (hv:VOk t) {p:List Int} (hp:p ∈ zaS t) (level:Int):zgA (zmr t) (ze1 p) level = zeh p level:=by
 have hl:=zfW hv hp
 have h10:=hv.hok.len
 have h:=hv.last
 have e:(t.last + 1).toNat = p.length:=by omega
 unfold zgA zeh
 show (match zko (zdh p) level (t.last + 1).toNat with | [] => t.last + 1 | x :: _ => x) = _
 rw [e,zo1 level (by omega)]
 cases zgP p level with
 | nil =>
  dsimp only
  have e2:t.last + 1 = (p.length:Int):=by omega
  exact e2
 | cons x r => rfl
theorem top_pad {p:List Int} {a b:Int} (h10:p.length ≤ 10) (h0:0 ≤ a) (h1:b < p.length):zkJ (zdh p) a b = zkJ p a b:=by
 unfold zkJ zdh
 rw [cze h10,List.drop_append,List.take_append]
 by_cases c:a ≤ b
 ·rw [show a.toNat - p.length = 0 by omega,List.drop_zero]
  rw [show (b + 1 - a).toNat - (p.drop a.toNat).length = 0 by simp; omega]
  simp
 ·rw [show (b + 1 - a).toNat = 0 by omega]
  simp
theorem zpd {p:List Int} (h:LOk p) (level:Int):0 ≤ zeh p level ∧ zeh p level ≤ 4096:=by
 have:=h.len
 unfold zeh
 cases c:zgP p level with
 | nil => dsimp only; omega
 | cons x r =>
  have:x ∈ zgP p level:=by rw [c]; simp
  unfold zgP zko at this
  simp only [czx,List.mem_filter,List.mem_range] at this
  obtain ⟨i,⟨hi,_⟩,rfl⟩:=this
  dsimp only; omega
theorem ztk {t:Tb} (hv:VOk t) (hne:zaS t ≠ []) (level:Int):IsB (fun z => ∃ p ∈ zaS t,zeh p level = z) (zrz (zaS t) level):=by
 refine znn (fun l:List Int => zeh l level) (zaS t) hne fun p hp => ?_
 have:=zpd (zji hv hp) level
 omega
theorem zpe {t:Tb} (hv:VOk t) (hne:zaS t ≠ []) (level z:Int):zfE .soon (zmr t) level z = zrz (zaS t) level :=
 (zj2 hv hne .soon level z (fun p => zeh p level) fun p hp => zpc hv hp level).eq (ztk hv hne level) fun _ => Iff.rfl
theorem maxL_mem:∀ (l:List Int),l ≠ [] → zoX l ∈ l:=by
 have key:∀ (l:List Int) (a:Int),l.foldl max a = a ∨ l.foldl max a ∈ l:=by
  intro l
  induction l with
  | nil => intro a; exact .inl rfl
  | cons y l ih =>
   intro a
   simp only [List.foldl_cons]
   rcases ih (max a y) with h | h
   ·rw [h]
    by_cases c:a ≤ y
    ·right; rw [Int.max_eq_right c]; simp
    ·left; omega
   ·right; simp [h]
 intro l h
 cases l with
 | nil => exact absurd rfl h
 | cons y l =>
  rcases key l y with h | h
  ·rw [zoX,h]; simp
  ·exact List.mem_cons_of_mem _ h
theorem topL_mem {l:List Int} {a b:Int} (h0:0 ≤ a) (h1:a ≤ b) (h3:b < l.length):∃ i:Nat,a ≤ i ∧ (i:Int) ≤ b ∧ zkJ l a b = at_ l i:=by
 have hne:(l.drop a.toNat).take (b + 1 - a).toNat ≠ []:=by
  intro q
  have:=congrArg List.length q
  simp at this
  omega
 obtain ⟨k,hk,e⟩:=List.getElem_of_mem (maxL_mem _ hne)
 have hk':k < (b + 1 - a).toNat:=by simp at hk; omega
 refine ⟨a.toNat + k,by omega,by omega,?_⟩
 unfold zkJ
 rw [← e]
 simp only [List.getElem_take,List.getElem_drop]
 rw [zdk (by omega)]
theorem topL_bd {l:List Int} (h:LOk l) {a b:Int} (h0:0 ≤ a) (h1:a ≤ b) (h3:b < l.length):0 ≤ zkJ l a b ∧ zkJ l a b ≤ 99:=by
 obtain ⟨i,_,_,e⟩:=topL_mem h0 h1 h3
 rw [e]
 exact h.b _ (zbv (by omega))
theorem ztJ {ls:List (List Int)} {a b n:Int} {r:Rg} (h:IsB (fun z => ∃ p ∈ ls,zkJ p a b = z) r):zrN ls a b n = true ↔ r.hi ≤ n:=by
 unfold zrN
 rw [czG]
 constructor
 ·intro q
  obtain ⟨p,hp,e⟩:=h.hi
  have:=q p hp
  rw [e] at this
  simpa using this
 ·intro q p hp
  have:=h.all _ ⟨p,hp,rfl⟩
  simp; omega
theorem dryN_eq {ls:List (List Int)} {a b hi:Int} (h:∀ n,zrN ls a b n = true ↔ hi ≤ n):∀ (f:Nat) (n:Int),n ≤ hi → hi ≤ n + f → dryN ls a b f n = hi
 | 0,n,h1,h2 => by unfold dryN; omega
 | f + 1,n,h1,h2 => by
  unfold dryN
  by_cases c:hi ≤ n
  ·rw [if_pos ((h n).2 c)]; omega
  ·rw [if_neg (by rw [h n]; exact c)]
   exact dryN_eq h f (n + 1) (by omega) (by omega)
theorem top_isB {t:Tb} (hv:VOk t) (hne:zaS t ≠ []) {a b:Int} (h0:0 ≤ a) (h1:a ≤ b) (h2:b ≤ t.last):IsB (fun z => ∃ p ∈ zaS t,zkJ p a b = z) (zfE .top (zmr t) a b):=by
 refine zj2 hv hne .top a b (fun p => zkJ p a b) fun p hp => ?_
 have:=zfW hv hp
 have:=hv.last
 exact top_pad (by have:=hv.hok.len; omega) h0 (by omega)
theorem top_dry {t:Tb} (hv:VOk t) (hne:zaS t ≠ []) {a b:Int} (h0:0 ≤ a) (h1:a ≤ b) (h2:b ≤ t.last):(zfE .top (zmr t) a b).hi = dryL (zaS t) a b ∧ 0 ≤ dryL (zaS t) a b ∧ dryL (zaS t) a b ≤ 99:=by
 have hB:=top_isB hv hne h0 h1 h2
 obtain ⟨p,hp,e⟩:=hB.hi
 have hl:=zfW hv hp
 have:=hv.last
 have hb:=topL_bd (zji hv hp) h0 h1 (by omega)
 rw [e] at hb
 have hd:=dryN_eq (fun n => ztJ (n:=n) hB) 99 0 hb.1 (by omega)
 unfold dryL
 rw [hd]
 exact ⟨rfl,hb⟩
theorem zo3 (ls:List (List Int)) (level:Int) (hour:Nat):(zgU ls level hour = ls.length ↔ ∀ l ∈ ls,level < at_ l hour) ∧ (zgU ls level hour = 0 ↔ ∀ l ∈ ls,¬ level < at_ l hour):=by
 have key:∀ (ls:List (List Int)) (n:Int),ls.foldl (fun n l => if level < at_ l hour then n + 1 else n) n = n + ls.countP (fun l => decide (level < at_ l hour)):=by
  intro ls
  induction ls with
  | nil => intro n; simp
  | cons l ls ih =>
   intro n
   simp only [List.foldl_cons,List.countP_cons]
   by_cases c:level < at_ l hour
   ·rw [if_pos c,ih]; simp [c]; omega
   ·rw [if_neg c,ih]; simp [c]
 have e:zgU ls level hour = (ls.countP (fun l => decide (level < at_ l hour)):Nat):=by
  unfold zgU; rw [key]; omega
 rw [e]
 constructor
 ·rw [Int.natCast_inj,List.countP_eq_length]; simp
 ·rw [show ((ls.countP (fun l => decide (level < at_ l hour)):Nat):Int) = 0 ↔ ls.countP (fun l => decide (level < at_ l hour)) = 0 by omega,List.countP_eq_zero]; simp
theorem zo4 {ls:List (List Int)} {level hour:Int} {r:Rg} (h:IsB (fun z => ∃ p ∈ ls,at_ p hour.toNat = z) r):zlq ls level hour = if level < r.lo then 1 else if r.hi ≤ level then 2 else 3:=by
 obtain ⟨w1,w2⟩:=zo3 ls level hour.toNat
 obtain ⟨p,hp,ep⟩:=h.lo
 obtain ⟨q,hq,eq⟩:=h.hi
 have hlen:(0:Int) < ls.length:=by
  have:=List.length_pos_of_mem hp
  omega
 unfold zlq
 by_cases c1:level < r.lo
 ·rw [if_pos c1,if_pos (w1.2 fun l hl => by have:=h.all _ ⟨l,hl,rfl⟩; omega)]
 ·have n1:¬ zgU ls level hour.toNat = ls.length:=fun e => by have:=w1.1 e p hp; omega
  rw [if_neg c1,if_neg n1]
  by_cases c2:r.hi ≤ level
  ·rw [if_pos c2,if_pos (w2.2 fun l hl => by have:=h.all _ ⟨l,hl,rfl⟩; omega)]
  ·rw [if_neg c2,if_neg fun e => by have:=w2.1 e q hq; omega]
theorem ze9 (f a b):(AV.fn f a b).one = true:=rfl
def zcJ (t:Tb) (fine:Bool):Int:=if zbq t = 0 then if fine then if zaS t = [] then 11 else 0 else 2 else zbq t
theorem zgt {t:Tb} {fine:Bool} (h:zcJ t fine = 0):zbq t = 0 ∧ fine = true ∧ zaS t ≠ []:=by
 unfold zcJ at h
 by_cases c:zbq t = 0
 ·rw [if_pos c] at h
  cases fine
  ·simp at h
  ·rw [if_pos rfl] at h
   refine ⟨c,rfl,fun q => ?_⟩
   rw [if_pos q] at h
   simp at h
 ·rw [if_neg c] at h; exact absurd h c
theorem zma {t:Tb} {fine:Bool} (h:zcJ t fine = 0):zkb t fine = (some (zmr t),0):=by
 obtain ⟨h1,h2,h3⟩:=zgt h
 have hn:=zhZ (zcs h1)
 unfold zkb
 rw [if_pos h1,h2,if_pos rfl,if_neg (fun q => h3 (hn.1 q))]
 rfl
theorem zka {t:Tb} {fine:Bool} (h:zcJ t fine ≠ 0):zkb t fine = (none,zcJ t fine):=by
 unfold zkb zcJ at *
 by_cases c:zbq t = 0
 ·rw [if_pos c] at h ⊢
  rw [if_pos c]
  have hn:=zhZ (zcs c)
  cases fine
  ·rfl
  ·rw [if_pos rfl] at h ⊢
   rw [if_pos rfl]
   by_cases c2:zaS t = []
   ·rw [if_pos (hn.2 c2),if_pos c2]
   ·rw [if_neg c2] at h; exact absurd rfl h
 ·rw [if_neg c,if_neg c]
structure WOk (t:Tb) (w:Wk):Prop where
 wt:w.t = t
 n0:0 < w.truth.length
 n1:w.truth.length ≤ 4096
 k:∀ k ∈ w.ks,k.length = 2
 hb:∀ i:Int,0 ≤ i → i ≤ t.last → zgF w i = zih (zaS t) i
 sb:∀ level z:Int,zfE .soon w level z = zrz (zaS t) level
 db:∀ a b:Int,0 ≤ a → a ≤ b → b ≤ t.last → (zfE .top w a b).hi = dryL (zaS t) a b
theorem wok_of {t:Tb} (hv:VOk t) (hne:zaS t ≠ []):∃ w,zmr t = w ∧ WOk t w:=by
 have hl:(zmr t).truth.length = (zgL t).1.length:=by show ((zgL t).1.map ze1).length = _; simp
 refine ⟨_,rfl,rfl,?_,?_,askS_key2 hv,fun i h0 h1 => zkx hv hne h0 h1,fun level z => zpe hv hne level z,fun a b h0 h1 h2 => (top_dry hv hne h0 h1 h2).1⟩
 ·rw [hl]
  rcases Nat.eq_zero_or_pos (zgL t).1.length with h | h
  ·exact absurd ((zhZ hv).1 h) hne
  ·exact h
 ·rw [hl]
  have e:zgL t = (zks t).foldl (zhf t) ([],[]):=by unfold zgL; rw [zjs]
  have key:∀ (l:List (List Int)) (a:List (List Int) × List (List Int)),(l.foldl (zhf t) a).1.length ≤ a.1.length + l.length:=by
   intro l
   induction l with
   | nil => intro a; simp
   | cons p l ih =>
    intro a
    have:=ih (zhf t a p)
    have h1:(zhf t a p).1.length ≤ a.1.length + 1:=by unfold zhf; split <;> simp
    simp only [List.foldl_cons,cza]
    omega
  have:=key (zks t) ([],[])
  have:=zrt hv
  rw [e]
  simp at *
  omega
def bndQ (t:Tb):List Rg × Int:=if zcJ t true = 0 then ((List.range (t.last + 1).toNat).map fun i:Nat => zih (zaS t) i,0) else ([],zcJ t true)
theorem zrc (t:Tb) (h:t.heights.length ≤ 4096):zaP Tryz.prog 81 [Enc.enc t] (· = Enc.enc (bndQ t)):=by
 simp only [zab]
 unfold bndQ
 by_cases c:zcJ t true = 0
 case neg =>
  have e:=zka c
  rw [if_neg c]
  simp only [zcp]
  refine cpz ziJ Tryz.func81 zaB ?_
  rw [Tryz.ntmps81]
  simp only [Tryz.f81,zai,zam]
  simp (maxSteps:=4000000) only [go_sem,AV.one,zae,zac,zad,zan,zaq,zaa,czb,cza,↓reduceIte,za1,za9,zfM,zdn,zdm,zgR,zab,zaG,zay,zcD,zc2,zb4,zbB,zbA,zbi,zcd,ze9,e,zd0,c]
  all_goals exact auz
 rw [if_pos c]
 obtain ⟨hf,_,hne⟩:=zgt c
 have hv:=zcs hf
 have e:=zma c
 obtain ⟨w,hw,hW⟩:=wok_of hv hne
 rw [hw] at e
 have hl0:=zja hf
 have hl9:=hv.l9
 have hk:=hW.k
 have hn:=hW.n0
 have ht:=hW.wt
 simp only [zcp]
 refine cpz ziJ Tryz.func81 zaB ?_
 rw [Tryz.ntmps81]
 simp only [Tryz.f81,zai,zam]
 simp (maxSteps:=4000000) only [go_sem,zae,zac,zad,zan,zaq,zaa,czb,cza,↓reduceIte,za1,za9,zfM,zdn,zdm,zgR,zab,zaG,zay,zcD,zc2,zb4,zbB,zbA,zbi,zcd,ze9,e,zeE,wkC,c]
 all_goals (repeat' first | (with_reducible first | rfl | apply And.intro | assumption) | ((with_reducible show zaj _ _ = true); rfl)) <;> try first | omega | (simp only [InR]; omega)
 refine zbG ((t.last + 1).toNat) [.slot 6 2] [2,3,4,18] (fun i => [(19,.int .i64 i),(6,.sl (((List.range i).map fun i:Nat => zih (zaS t) i).map EncE.cs) (.own 1))]) (fun i m => m.set 1 (.tok i 2)) (fun _ => True) ?_ ?_ ?_ ?_
 ·trivial
 ·simp [AV.bare,zal,zaN,zaR,zak,zar,zaf,tokz1,lk,zaa,zcL,zb3,-List.map_map]
 ·intro i hi _
  have hi':(i:Int) < t.last + 1:=by omega
  have hh:=hW.hb i (by omega) (by omega)
  simp (maxSteps:=4000000) only [go_sem,zae,zac,zad,zan,zaq,zaa,czb,cza,↓reduceIte,za1,za9,zfM,zdn,zdm,zgR,zab,zaG,zay,zcD,zc2,zb4,zbB,zbA,zbi,zcd,ze9,hi',hh,List.length_range]
  all_goals (repeat' first | (with_reducible first | rfl | apply And.intro | assumption) | ((with_reducible show zaj _ _ = true); rfl)) <;> try first | omega | (simp only [InR]; omega)
  refine nxt hi trivial ?_
  simp [AV.bare,zal,zaN,zaR,zak,zar,zaf,tokz1,lk,zaa,zcL,zb3,List.range_succ,-List.map_map]
 ·intro _
  have hi':¬ (((t.last + 1).toNat:Nat):Int) < t.last + 1:=by omega
  simp (maxSteps:=4000000) only [go_sem,zae,zac,zad,zan,zaq,zaa,czb,cza,↓reduceIte,za1,za9,zfM,zdn,zdm,zgR,zab,zaG,zay,zcD,zc2,zb4,zbB,zbA,zbi,zcd,ze9,hi',List.length_range]
  all_goals exact auz
def wetQ (t:Tb) (row hour:Int):Int × Int :=
 if zcJ t (inB row 0 (t.levels.length - 1) && inB hour 0 t.last) = 0 then (zlq (zaS t) (at_ t.levels row.toNat) hour,0) else (0,zcJ t (inB row 0 (t.levels.length - 1) && inB hour 0 t.last))
theorem Wet_prog (t:Tb) (row hour:Int) (h:t.heights.length ≤ 4096 ∧ t.levels.length ≤ 4096):zaP Tryz.prog 71 [Enc.enc t,Enc.enc row,Enc.enc hour] (· = Enc.enc (wetQ t row hour)):=by
 simp only [zab]
 unfold wetQ
 have h1:=h.1
 have h2:=h.2
 by_cases c:zcJ t (inB row 0 (t.levels.length - 1) && inB hour 0 t.last) = 0
 case neg =>
  have e:=zka c
  rw [if_neg c]
  cases b1:inB row 0 (t.levels.length - 1)
  all_goals
   rw [b1] at e c
   simp only [Bool.true_and,Bool.false_and] at e c
   simp only [zcp]
   refine cpz ziJ Tryz.func71 zaB ?_
   rw [Tryz.ntmps71]
   simp only [Tryz.f71,zai,zam]
   simp (maxSteps:=4000000) only [go_sem,AV.one,zae,zac,zad,zan,zaq,zaa,czb,cza,↓reduceIte,za1,za9,zfM,zdn,zdm,zgR,zab,zaG,zay,zcD,zc2,zb4,zbB,zbA,zbi,zcd,ze9,e,zd0,c,b1]
   all_goals (repeat' first | (with_reducible first | rfl | apply And.intro | assumption) | ((with_reducible show zaj _ _ = true); rfl)) <;> try first | omega | (simp only [InR]; omega)
 rw [if_pos c]
 obtain ⟨hf,hfine,hne⟩:=zgt c
 rw [czl] at hfine
 obtain ⟨b1,b2⟩:=hfine
 have g1:=(zbO _ _ _).1 b1
 have g2:=(zbO _ _ _).1 b2
 have hv:=zcs hf
 have e:=zma c
 obtain ⟨w,hw,hW⟩:=wok_of hv hne
 rw [hw] at e
 rw [b1,b2,Bool.and_self] at e
 have hl9:=hv.l9
 have hk:=hW.k
 have hn:=hW.n0
 have hh:=hW.hb hour g2.1 g2.2
 have hB:=zo4 (level:=at_ t.levels row.toNat) (zj3 hv hne g2.1 g2.2)
 obtain ⟨row,rfl⟩:=czu g1.1
 have hlv:=zax (f:=EncE.cs) (l:=t.levels) (i:=row) (by omega)
 rw [hB]
 generalize zih (zaS t) hour = r at hh
 simp only [czF]
 cases c1:decide (at_ t.levels row < r.lo)
 ·cases c2:decide (r.hi ≤ at_ t.levels row)
  all_goals
   have d1:=c1
   have d2:=c2
   simp at d1 d2
   simp only [zcp]
   refine cpz ziJ Tryz.func71 zaB ?_
   rw [Tryz.ntmps71]
   simp only [Tryz.f71,zai,zam]
   simp (maxSteps:=4000000) only [go_sem,zae,zac,zad,zan,zaq,zaa,czb,cza,↓reduceIte,za1,za9,zfM,zdn,zdm,zgR,zab,zaG,zay,zcD,zc2,zb4,zbB,zbA,zbi,zcd,ze9,e,zeE,wkC,c,b1,b2,hh,hlv,c1,c2]
   all_goals (repeat' first | (with_reducible first | rfl | apply And.intro | assumption) | ((with_reducible show zaj _ _ = true); rfl)) <;> try first | omega | (simp only [InR]; omega)
   try simp [d1,d2]
   try omega
 ·have d1:=c1
  simp at d1
  simp only [zcp]
  refine cpz ziJ Tryz.func71 zaB ?_
  rw [Tryz.ntmps71]
  simp only [Tryz.f71,zai,zam]
  simp (maxSteps:=4000000) only [go_sem,zae,zac,zad,zan,zaq,zaa,czb,cza,↓reduceIte,za1,za9,zfM,zdn,zdm,zgR,zab,zaG,zay,zcD,zc2,zb4,zbB,zbA,zbi,zcd,ze9,e,zeE,wkC,c,b1,b2,hh,hlv,c1]
  all_goals (repeat' first | (with_reducible first | rfl | apply And.intro | assumption) | ((with_reducible show zaj _ _ = true); rfl)) <;> try first | omega | (simp only [InR]; omega)
  try simp [d1]
  try omega
def rchQ (t:Tb) (row:Int):Rg × Int :=
 if zcJ t (inB row 0 (t.levels.length - 1)) = 0 then (zrz (zaS t) (at_ t.levels row.toNat),0) else (⟨0,0⟩,zcJ t (inB row 0 (t.levels.length - 1)))
theorem zuK (t:Tb) (row:Int) (h:t.heights.length ≤ 4096 ∧ t.levels.length ≤ 4096):zaP Tryz.prog 70 [Enc.enc t,Enc.enc row] (· = Enc.enc (rchQ t row)):=by
 simp only [zab]
 unfold rchQ
 have h1:=h.1
 have h2:=h.2
 by_cases c:zcJ t (inB row 0 (t.levels.length - 1)) = 0
 case neg =>
  have e:=zka c
  rw [if_neg c]
  simp only [zcp]
  refine cpz ziJ Tryz.func70 zaB ?_
  rw [Tryz.ntmps70]
  simp only [Tryz.f70,zai,zam]
  simp (maxSteps:=4000000) only [go_sem,AV.one,zae,zac,zad,zan,zaq,zaa,czb,cza,↓reduceIte,za1,za9,zfM,zdn,zdm,zgR,zab,zaG,zay,zcD,zc2,zb4,zbB,zbA,zbi,zcd,ze9,e,zd0,c]
  all_goals exact auz
 rw [if_pos c]
 obtain ⟨hf,b1,hne⟩:=zgt c
 have g1:=(zbO _ _ _).1 b1
 have hv:=zcs hf
 have e:=zma c
 obtain ⟨w,hw,hW⟩:=wok_of hv hne
 rw [hw,b1] at e
 have hl0:=zja hf
 have hl9:=hv.l9
 have hn:=hW.n0
 have hn1:=hW.n1
 have ht:=hW.wt
 obtain ⟨row,rfl⟩:=czu g1.1
 have hlv:=zax (f:=EncE.cs) (l:=t.levels) (i:=row) (by omega)
 have hs:=hW.sb (at_ t.levels row) 0
 have hp:Qn.soon.pre w (at_ t.levels row) 0:=⟨by rw [ht]; exact hl0,by rw [ht]; exact hl9⟩
 simp only [czF]
 simp only [zcp]
 refine cpz ziJ Tryz.func70 zaB ?_
 rw [Tryz.ntmps70]
 simp only [Tryz.f70,zai,zam]
 simp (maxSteps:=4000000) only [go_sem,zae,zac,zad,zan,zaq,zaa,czb,cza,↓reduceIte,za1,za9,zfM,zdn,zdm,zgR,zab,zaG,zay,zcD,zc2,zb4,zbB,zbA,zbi,zcd,ze9,e,zeE,wkC,c,b1,hlv,hs]
 all_goals exact auz
def dryQ (t:Tb) (a b:Int):Int × Int :=
 if zcJ t (inB a 0 t.last && inB b 0 t.last && decide (a ≤ b)) = 0 then (dryL (zaS t) a b,0) else (0,zcJ t (inB a 0 t.last && inB b 0 t.last && decide (a ≤ b)))
def P43 (g:FuncId):=(zas 81 (zcC (fun t:Tb => t.heights.length ≤ 4096) bndQ) (zas 71 (zec (fun (t:Tb) (_ _:Int) => t.heights.length ≤ 4096 ∧ t.levels.length ≤ 4096) wetQ) (zas 70 (zbF (fun (t:Tb) (_:Int) => t.heights.length ≤ 4096 ∧ t.levels.length ≤ 4096) rchQ) (P42))):zaJ) g
theorem P43_ok:zaz Tryz.prog P43:=zah (zbj zrc) (zah (zb8 Wet_prog) (zah (zaM zuK) (ziJ)))
theorem zse (d:Option Nat):zaF P43 d = none:=(zag (by decide) d).trans ((zag (by decide) d).trans ((zag (by decide) d).trans (zsf d)))
attribute [go_sem] P43 zse
def P44:zaJ:=P43
theorem P44_app (g:FuncId):P44 g = (P43) g:=rfl
theorem P44_ok:zaz Tryz.prog P44:=P43_ok
attribute [go_sem] P44_app
theorem zsd (d:Option Nat):zaF P44 d = none:=zse d
attribute [go_sem] zsd
def Poss (t:Tb) (S:Nat → Prop):Prop:=∃ p,zbg t p = true ∧ ∀ k,k < t.marks.length → S k → zdP p (at_ t.marks k) = true
theorem Poss.mono {t:Tb} {S T:Nat → Prop} (h:Poss t S) (hs:∀ k,k < t.marks.length → T k → S k):Poss t T:=by
 obtain ⟨p,h1,h2⟩:=h
 exact ⟨p,h1,fun k hk hT => h2 k hk (hs k hk hT)⟩
theorem zln (x m:Nat):x &&& m = m ↔ ∀ k,m.testBit k = true → x.testBit k = true:=by
 constructor
 ·intro h k hk
  have:=congrArg (fun y => y.testBit k) h
  simp only [Nat.testBit_and,hk,Bool.and_true] at this
  exact this
 ·intro h
  refine Nat.eq_of_testBit_eq fun k => ?_
  rw [Nat.testBit_and]
  cases c:m.testBit k
  ·simp
  ·rw [h k c]; rfl
theorem zej {m n k:Nat} (h:m < 2 ^ n) (hk:m.testBit k = true):k < n:=by
 rcases Nat.lt_or_ge k n with c | c
 ·exact c
 ·rw [Nat.testBit_lt_two_pow (Nat.lt_of_lt_of_le h (Nat.pow_le_pow_right (by omega) c))] at hk
  cases hk
theorem zga (n k:Nat):(2 ^ n - 1).testBit k = decide (k < n):=Nat.testBit_two_pow_sub_one n k
def firstQ (t:Tb):Int × Int:=if zbq t = 0 then if firstL t (allL t) < 0 then (0,7) else (firstL t (allL t),0) else (0,zbq t)
/-! Sets as lists in increasing order. -/
def zci (l:List Nat):List Int:=l.map fun (n:Nat) => (n:Int)
def Inc (lo hi:Nat):List Nat → Prop
 | [] => True
 | a :: r => (lo ≤ a ∧ a < hi) ∧ Inc (a + 1) hi r
theorem Inc.mem {hi:Nat}:∀ {lo:Nat} {l:List Nat},Inc lo hi l → ∀ x ∈ l,lo ≤ x ∧ x < hi
 | lo,[],_,x,hx => by cases hx
 | lo,a :: r,h,x,hx => by
  rcases czn.1 hx with rfl | hx
  ·exact h.1
  ·have:=Inc.mem h.2 x hx
   have:=h.1
   omega
theorem Inc.pair {hi:Nat}:∀ {lo:Nat} {l:List Nat},Inc lo hi l → l.Pairwise (· < ·)
 | lo,[],_ => List.Pairwise.nil
 | lo,a :: r,h => List.Pairwise.cons (fun x hx => by have:=Inc.mem h.2 x hx; omega) (Inc.pair h.2)
theorem inc_of {hi:Nat}:∀ {lo:Nat} {l:List Nat},l.Pairwise (· < ·) → (∀ x ∈ l,lo ≤ x ∧ x < hi) → Inc lo hi l
 | lo,[],_,_ => trivial
 | lo,a :: r,h,hm => by
  rw [List.pairwise_cons] at h
  exact ⟨hm a (by simp),inc_of h.2 fun x hx => ⟨by have:=h.1 x hx; omega,(hm x (by simp [hx])).2⟩⟩
theorem zpU:∀ (a b:List Nat),a.Pairwise (· < ·) → b.Pairwise (· < ·) → (∀ x,x ∈ a ↔ x ∈ b) → a = b
 | [],[],_,_,_ => rfl
 | [],y :: b,_,_,h => by have:=(h y).2 (by simp); cases this
 | x :: a,[],_,_,h => by have:=(h x).1 (by simp); cases this
 | x :: a,y :: b,ha,hb,h => by
  rw [List.pairwise_cons] at ha hb
  have hxy:x = y:=by
   rcases czn.1 ((h x).1 (by simp)) with e | h1
   ·exact e
   ·rcases czn.1 ((h y).2 (by simp)) with e | h2
    ·exact e.symm
    ·have:=ha.1 y h2; have:=hb.1 x h1; omega
  subst hxy
  rw [zpU a b ha.2 hb.2 fun z => ?_]
  constructor
  ·intro hz
   rcases czn.1 ((h z).1 (by simp [hz])) with e | h1
   ·have:=ha.1 z hz; omega
   ·exact h1
  ·intro hz
   rcases czn.1 ((h z).2 (by simp [hz])) with e | h1
   ·have:=hb.1 z hz; omega
   ·exact h1
theorem Inc.len {hi:Nat}:∀ {lo:Nat} {l:List Nat},Inc lo hi l → l ≠ [] → lo + l.length ≤ hi
 | lo,[],_,h => absurd rfl h
 | lo,[a],h,_ => by have:=h.1; simp; omega
 | lo,a :: b :: r,h,_ => by
  have:=Inc.len h.2 (by simp)
  have:=h.1
  simp at *; omega
def zez (b n:Nat):List Nat:=(List.range n).filter fun p => b.testBit p
theorem zkW (b n:Nat):Inc 0 n (zez b n) :=
 inc_of (List.pairwise_lt_range.filter _) fun x hx => by unfold zez at hx; rw [List.mem_filter,List.mem_range] at hx; omega
theorem zli {b n:Nat} (h:b < 2 ^ n):zqz b = zci (zez b n):=by
 unfold zqz zkB zci
 congr 1
 refine zpU _ _ (List.pairwise_lt_range.filter _) (List.pairwise_lt_range.filter _) fun x => ?_
 unfold zez
 simp only [List.mem_filter,List.mem_range]
 constructor
 ·exact fun h1 => ⟨zej h h1.2,h1.2⟩
 ·refine fun h1 => ⟨?_,h1.2⟩
  rcases Nat.lt_or_ge x (blN b) with c | c
  ·exact c
  ·have he:=blN_end b
   have:b < 2 ^ blN b:=by
    rcases Nat.lt_or_ge b (2 ^ blN b) with q | q
    ·exact q
    ·have:=Nat.div_pos q (Nat.two_pow_pos _); omega
   have hx:=zej this h1.2
   exact hx
def zjj:List Nat → Nat
 | [] => 0
 | a :: r => 2 ^ a ||| zjj r
theorem zo5 (l:List Nat) (k:Nat):(zjj l).testBit k = decide (k ∈ l):=by
 induction l with
 | nil => simp [zjj]
 | cons a l ih =>
  rw [zjj,Nat.testBit_or,ih,Nat.testBit_two_pow,Bool.eq_iff_iff]
  simp
  constructor
  ·rintro (h | h)
   ·exact .inl h.symm
   ·exact .inr h
  ·rintro (h | h)
   ·exact .inl h.symm
   ·exact .inr h
theorem toBits_lt {l:List Nat} {n:Nat} (h:∀ x ∈ l,x < n):zjj l < 2 ^ n:=by
 induction l with
 | nil => exact Nat.two_pow_pos n
 | cons a l ih => exact Nat.or_lt_two_pow (Nat.pow_lt_pow_right (by omega) (h a (by simp))) (ih fun x hx => h x (by simp [hx]))
theorem zlL {l:List Nat} {n:Nat} (h:Inc 0 n l):zez (zjj l) n = l:=by
 refine zpU _ _ (List.pairwise_lt_range.filter _) h.pair fun x => ?_
 unfold zez
 rw [List.mem_filter,List.mem_range,zo5]
 simp
 exact fun hx => (h.mem x hx).2
/-! The order of lists. -/
theorem zhV:∀ a:List Int,zb2 a a = false
 | [] => rfl
 | x :: a => by rw [zb2,if_pos rfl]; exact zhV a
theorem ziF:∀ a b c:List Int,zb2 a b = true → zb2 b c = true → zb2 a c = true
 | [],[],_,h,_ => by simp [zb2] at h
 | [],_ :: _,[],_,h => by simp [zb2] at h
 | [],_ :: _,_ :: _,_,_ => rfl
 | _ :: _,[],_,h,_ => by simp [zb2] at h
 | _ :: _,_ :: _,[],_,h => by simp [zb2] at h
 | x :: a,y :: b,z :: c,h1,h2 => by
  unfold zb2 at h1 h2 ⊢
  by_cases e1:x = y
  ·rw [if_pos e1] at h1
   by_cases e2:y = z
   ·rw [if_pos e2] at h2
    rw [if_pos (e1.trans e2)]
    exact ziF a b c h1 h2
   ·rw [if_neg e2] at h2
    rw [if_neg (by rw [e1]; exact e2),e1]; exact h2
  ·rw [if_neg e1] at h1
   by_cases e2:y = z
   ·rw [← e2,if_neg e1]; exact h1
   ·rw [if_neg e2] at h2
    simp only [decide_eq_true_eq] at h1 h2
    rw [if_neg (by omega)]
    simp; omega
theorem ziG:∀ a b:List Int,zb2 a b = false → zb2 b a = false → a = b
 | [],[],_,_ => rfl
 | [],_ :: _,h,_ => by simp [zb2] at h
 | _ :: _,[],_,h => by simp [zb2] at h
 | x :: a,y :: b,h1,h2 => by
  unfold zb2 at h1 h2
  by_cases e:x = y
  ·rw [if_pos e] at h1
   rw [if_pos e.symm] at h2
   rw [e,ziG a b h1 h2]
  ·rw [if_neg e] at h1
   rw [if_neg (fun q => e q.symm)] at h2
   simp only [decide_eq_false_iff_not] at h1 h2
   omega
theorem zfp (a b:List Int):zcP a b = true ↔ a.length < b.length ∨ (a.length = b.length ∧ zb2 a b = true):=by
 unfold zcP
 simp
 constructor
 ·rintro (h | ⟨h1,h2⟩)
  ·exact .inl h
  ·exact .inr ⟨by omega,h2⟩
 ·rintro (h | ⟨h1,h2⟩)
  ·exact .inl h
  ·exact .inr ⟨by omega,h2⟩
theorem zlz {a b c:List Int} (h1:zcP a b = true) (h2:zcP b c = true):zcP a c = true:=by
 rw [zfp] at h1 h2 ⊢
 rcases h1 with h1 | ⟨h1,h3⟩ <;> rcases h2 with h2 | ⟨h2,h4⟩
 ·left; omega
 ·left; omega
 ·left; omega
 ·right; exact ⟨by omega,ziF _ _ _ h3 h4⟩
theorem zkr (a:List Int):zcP a a = false:=by
 rw [Bool.eq_false_iff]
 intro h
 rw [zfp,zhV] at h
 rcases h with h | ⟨_,h⟩
 ·omega
 ·cases h
theorem zhm {a b:List Int} (h1:zcP a b = false) (h2:zcP b a = false):a = b:=by
 rw [Bool.eq_false_iff,ne_eq,zfp] at h1 h2
 simp only [not_or,not_and,Bool.not_eq_true] at h1 h2
 have e:a.length = b.length:=by omega
 exact ziG a b (h1.2 e) (h2.2 e.symm)
structure Least (t:Tb) (l:List Nat):Prop where
 inc:Inc 0 t.marks.length l
 poss:Poss t (fun k => k ∉ l)
 least:∀ l',Inc 0 t.marks.length l' → Poss t (fun k => k ∉ l') → zcP (zci l') (zci l) = false
theorem zj1:∀ {a b:List Nat},zci a = zci b → a = b
 | [],[],_ => rfl
 | [],_ :: _,h => by simp [zci] at h
 | _ :: _,[],h => by simp [zci] at h
 | x :: a,y :: b,h => by
  simp only [zci,czb,List.cons.injEq] at h
  rw [zj1 (a:=a) (b:=b) h.2]
  congr 1
  omega
theorem Least.eq {t:Tb} {a b:List Nat} (h1:Least t a) (h2:Least t b):a = b :=
 zj1 (zhm (h2.least a h1.inc h1.poss) (h1.least b h2.inc h2.poss))
theorem zmB {full b:Nat} {n:Nat} (hf:full = 2 ^ n - 1) (hb:b < 2 ^ n) (k:Nat):(full - (full &&& b)).testBit k = (decide (k < n) && !b.testBit k):=by
 subst hf
 have e1:(2 ^ n - 1) &&& b = b:=by
  rw [zln]
  intro k hk
  rw [zga]; simpa using zej hb hk
 rw [e1,show 2 ^ n - 1 - b = 2 ^ n - (b + 1) by omega,Nat.testBit_two_pow_sub_succ hb]
/-! The program's search. -/
theorem zuV (l:List Int) (h:l.length ≤ 4096):zuW Tryz.prog 105 [Enc.enc l] 1 (l.map EncE.cs):=by
 simp only [zcp]
 refine zqu (Φ:=P44) Tryz.func105 rfl (by rfl) (by rw [Tryz.ntmps105]; simp) zaB P44_ok (by simp [AV.strip,AV.strip1,Tk.strip]) (by decide) ?_
 rw [Tryz.ntmps105]
 simp only [Tryz.f105,zai,zam]
 simp (maxSteps:=4000000) only [go_sem,AV.one,zae,zac,zad,zan,zaq,zaa,czb,cza,↓reduceIte,za1,za9,zab,zaG,zay,zcD,zc2,zb4,zbB,zbA,zbi,zcd,ze9,frR]
 intro b hb
 cases b
 ·simp (maxSteps:=4000000) only [go_sem,AV.one,zae,zac,zad,zan,zaq,zaa,czb,cza,↓reduceIte,za1,za9,zab,zaG,zay,zcD,zc2,zb4,zbB,zbA,zbi,zcd,ze9,frR]
  all_goals (repeat' first | (with_reducible first | rfl | apply And.intro | assumption) | ((with_reducible show zaj _ _ = true); rfl)) <;> try first | omega | (simp only [InR]; omega)
  simp [zeF,AV.one]
 ·have:l = []:=by simpa using hb
  subst this
  simp (maxSteps:=4000000) only [go_sem,AV.one,zae,zac,zad,zan,zaq,zaa,czb,cza,↓reduceIte,za1,za9,zab,zaG,zay,zcD,zc2,zb4,zbB,zbA,zbi,zcd,ze9,frR]
def P45 (g:FuncId):=(zas 105 (zrn (fun l:List Int => l.length ≤ 4096) (fun l => l)) (P44):zaJ) g
theorem P45_ok:zaz Tryz.prog P45:=zah (specF1_ok zuV) (P44_ok)
theorem zsc (d:Option Nat):zaF P45 d = none:=(zag (by decide) d).trans (zsd d)
attribute [go_sem] P45 zsc
theorem zqs {P:Program} {g:FuncId} {args:List AV} {mem:List AObj} {R:AV → List AObj → Prop} (h:zfS P g (args.map AV.strip) mem R):zfS P g args mem R :=
 ⟨h.1,fun X κ ρ τ w vs h1 h2 h3 h4 => h.2 X κ ρ τ w vs h1 h2 (by simpa using h3) (fun i hi => by
  rw [zcB]
  exact (h4 i (by simpa using hi)).strip)⟩
theorem zhN {α:Type} {f:Nat → Option α} {n k:Nat} {x:α} (hk:k < n) (h:∀ j,j < k → f j = none) (hx:f k = some x):(List.range n).findSome? f = some x:=by
 rw [List.findSome?_eq_some_iff]
 refine ⟨List.range k,k,(List.range (n - k - 1)).map (k + 1 + ·),?_,hx,fun a ha => h a (by simpa using ha)⟩
 have:n = k + (1 + (n - k - 1)):=by omega
 conv => lhs; rw [this,List.range_add,List.range_add]
 simp [Nat.add_assoc]
theorem zl0 {α:Type} {f:Nat → Option α} {n:Nat} (h:∀ j,j < n → f j = none):(List.range n).findSome? f = none:=by
 rw [List.findSome?_eq_none_iff]
 exact fun a ha => h a (by simpa using ha)
structure LvM (t:Tb) (mem:List AObj):Prop where
 len:3 ≤ mem.length
 m0:zaa mem 0 = .cells (tbC t)
 m2:zaa mem 2 = .cells [.fn (.func 9999999) [] [.ptr 1 0,.ptr 0 0,.ptr 2 0]]
 ok:∀ o ∈ mem,zb6 mem.length o
 m1:∃ f,zaa mem 1 = .cells [f]
theorem LvM.set {t:Tb} {mem:List AObj} (h:LvM t mem) (l:List Int):LvM t (mem.set 1 (.cells [.sl (l.map EncE.cs) .no])):=by
 have h3:=h.len
 refine ⟨by simpa using h3,?_,?_,fun o ho => ?_,?_⟩
 ·rw [zaD _ _ _ _ (by omega),if_neg (by omega)]; exact h.m0
 ·rw [zaD _ _ _ _ (by omega),if_neg (by omega)]; exact h.m2
 ·rw [czt]
  rcases List.mem_or_eq_of_mem_set ho with q | q
  ·exact h.ok o q
  ·subst q
   simp [zbm,zl8,zjY]
 ·exact ⟨_,by rw [zaD _ _ _ _ (by omega),if_pos rfl]⟩
theorem LvM.push {t:Tb} {mem:List AObj} (h:LvM t mem) (n:Nat):LvM t (mem ++ [.tok n 1,.dead]):=by
 have h3:=h.len
 have key:∀ i,i < 3 → zaa (mem ++ [.tok n 1,.dead]) i = zaa mem i:=fun i hi => by
  unfold zaa
  simp only [List.getD]
  rw [czi (by omega)]
 refine ⟨by simp; omega,by rw [key 0 (by omega)]; exact h.m0,by rw [key 2 (by omega)]; exact h.m2,fun o ho => ?_,by rw [key 1 (by omega)]; exact h.m1⟩
 rcases czv.1 ho with q | q
 ·exact zc9 (by simp) o (h.ok o q)
 ·simp at q
  rcases q with q | q <;> subst q <;> simp [zc5,zdj]
theorem zuc (l:List Nat) (n:Nat):zci (l ++ [n]) = zci l ++ [(n:Int)]:=by simp [zci]
end Go.Proofs
