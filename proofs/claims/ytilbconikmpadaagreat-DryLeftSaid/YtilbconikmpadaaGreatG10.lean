/- The texts S16, S17, S18, S19, S20, joined. -/
import Derived.Test.YtilbconikmpadaaGreatG9
set_option linter.all false
namespace Go.Proofs
open Go.Fs
set_option maxHeartbeats 4000000
set_option maxRecDepth 8000
def P41:zaL:=P40
theorem P41_app (g:FuncId):P41 g = (P40) g:=rfl
theorem P41_ok:zaC Tryz.prog P41:=P40_ok
attribute [go_sem] P41_app
theorem ztS (d:Option Nat):zaI P41 d = none:=ztT d
attribute [go_sem] ztS
theorem zbk {k:Nat} {mem:List AObj} (n:Nat):(zb9 n).map (zb3 (k + 1) mem) = zb9 n:=by simp [zb9,zb3]
theorem zbw {k:Nat} (n:Nat):(∀ c ∈ zb9 n,imm (k + 1) c) = True:=by simp [zb9,imm]
theorem ztt (w:Wk):(Enc.dec (.ref [.int .i64 w.t.last,.sl (w.t.heights.map EncE.cs) .no,.int .i64 w.t.step,.sl (w.t.levels.map EncE.cs) .no,.sl (w.t.marks.map EncE.cs) .no,.sl (w.truth.map EncE.cs) .no,.mpr w.ks (zb9 w.ks.length)] 0):Option Wk) = some w:=by
 show zvS _ = _
 simp only [zvS,zdq,zmg,if_true]
inductive Qn where
 | soon
 | top
def Qn.fn:Qn → Nat
 | .soon => 9999999
 | .top => 9999999
instance:Enc Qn where
 enc q:=.agg [.fn (.func q.fn) [] []]
 dec
  | .agg [.fn (.func g) [] []] => if g = Qn.fn .soon then some .soon else if g = Qn.fn .top then some .top else none
  | _ => none
 law v x h:=by
  split at h
  ·split at h
   ·rename_i e; cases h; rw [e] <;> rfl
   ·split at h
    ·rename_i e; cases h; rw [e] <;> rfl
    ·cases h
  ·cases h
 dep:=2
 ok x:=by simp [zbq]
theorem ztr (q:Qn):Enc.enc q = .agg [.fn (.func q.fn) [] []]:=rfl
theorem zwO:True:=trivial
theorem zjP:True:=trivial
def Qn.ask (q:Qn) (w:Wk) (x y:Int) (s:Arr 10):Int :=
 match q with
 | .soon => zmH w s x
 | .top => zlE s.l x y
def Qn.pre (q:Qn) (w:Wk) (x y:Int):Prop :=
 match q with
 | .soon => 0 ≤ w.t.last ∧ w.t.last ≤ 9
 | .top => False
def zhz (q:Qn) (w:Wk) (x y:Int):Rg:=w.truth.foldl (fun r s => zdi r (q.ask w x y s)) ⟨q.ask w x y (at_ w.truth 0),q.ask w x y (at_ w.truth 0)⟩
def P42:zaL:=P41
theorem P42_app (g:FuncId):P42 g = (P41) g:=rfl
theorem P42_ok:zaC Tryz.prog P42:=P41_ok
attribute [go_sem] P42_app
theorem ztR (d:Option Nat):zaI P42 d = none:=ztS d
attribute [go_sem] ztR
structure IsB (S:Int → Prop) (r:Rg):Prop where
 all:∀ x,S x → r.lo ≤ x ∧ x ≤ r.hi
 lo:S r.lo
 hi:S r.hi
theorem Rg.ext' {r s:Rg} (h1:r.lo = s.lo) (h2:r.hi = s.hi):r = s:=by cases r; cases s; simp_all
theorem IsB.congr {S T:Int → Prop} {r:Rg} (h:IsB S r) (hst:∀ x,S x ↔ T x):IsB T r :=
 ⟨fun x hx => h.all x ((hst x).2 hx),(hst _).1 h.lo,(hst _).1 h.hi⟩
theorem IsB.eq {S T:Int → Prop} {r s:Rg} (h:IsB S r) (h':IsB T s) (hst:∀ x,S x ↔ T x):r = s:=by
 have h2:=h.congr hst
 have a1:=h2.all _ h'.lo
 have a2:=h2.all _ h'.hi
 have a3:=h'.all _ h2.lo
 have a4:=h'.all _ h2.hi
 exact Rg.ext' (by omega) (by omega)
theorem IsB.le {S:Int → Prop} {r:Rg} (h:IsB S r):r.lo ≤ r.hi:=(h.all _ h.lo).2
theorem isB_wider {S:Int → Prop} {r:Rg} (h:IsB S r) (n:Int):IsB (fun x => S x ∨ x = n) (zdi r n):=by
 refine ⟨fun x hx => ?_,?_,?_⟩
 ·show min r.lo n ≤ x ∧ x ≤ max r.hi n
  rcases hx with hx | hx
  ·have:=h.all x hx; omega
  ·omega
 ·show S (min r.lo n) ∨ min r.lo n = n
  by_cases c:r.lo ≤ n
  ·left; rw [Int.min_eq_left c]; exact h.lo
  ·right; omega
 ·show S (max r.hi n) ∨ max r.hi n = n
  by_cases c:n ≤ r.hi
  ·left; rw [Int.max_eq_left c]; exact h.hi
  ·right; omega
theorem znb {α:Type} (f:α → Int):∀ (l:List α) (S:Int → Prop) (r:Rg),IsB S r → IsB (fun x => S x ∨ ∃ a ∈ l,f a = x) (l.foldl (fun r a => zdi r (f a)) r)
 | [],S,r,h => h.congr fun x => by simp
 | a :: l,S,r,h => by
  refine (znb f l _ _ (isB_wider h (f a))).congr fun x => ?_
  simp only [czn,exists_eq_or_imp,or_assoc]
  constructor
  ·rintro (h | h | h)
   ·exact .inl h
   ·exact .inr (.inl h.symm)
   ·exact .inr (.inr h)
  ·rintro (h | h | h)
   ·exact .inl h
   ·exact .inr (.inl h.symm)
   ·exact .inr (.inr h)
theorem isB_one (n:Int):IsB (fun x => x = n) ⟨n,n⟩:=⟨fun x h => by subst h; exact ⟨Int.le_refl _,Int.le_refl _⟩,rfl,rfl⟩
theorem zna {α:Type} (f:α → Int) (l:List α) (a:α) (h:a ∈ l):IsB (fun x => ∃ a ∈ l,f a = x) (l.foldl (fun r a => zdi r (f a)) ⟨f a,f a⟩):=by
 refine (znb f l _ _ (isB_one (f a))).congr fun x => ?_
 constructor
 ·rintro (rfl | h')
  ·exact ⟨a,h,rfl⟩
  ·exact h'
 ·exact .inr
theorem zkA {α:Type} (f:α → Int) (l:List α) (h:l ≠ []) (hb:∀ a ∈ l,0 ≤ f a ∧ f a ≤ 1099511627776):IsB (fun x => ∃ a ∈ l,f a = x) (l.foldl (fun r a => zdi r (f a)) zjc):=by
 cases l with
 | nil => exact absurd rfl h
 | cons a l =>
  have hba:=hb a (by simp)
  have e:zdi zjc (f a) = ⟨f a,f a⟩:=by
   unfold zdi zjc
   exact Rg.ext' (by dsimp only; omega) (by dsimp only; omega)
  rw [List.foldl_cons,e]
  refine (znb f l _ _ (isB_one (f a))).congr fun x => ?_
  simp only [czn,exists_eq_or_imp]
  constructor
  ·rintro (h | h)
   ·exact .inl h.symm
   ·exact .inr h
  ·rintro (h | h)
   ·exact .inl h.symm
   ·exact .inr h
theorem znh {t:Tb} (h:zbp t = 0):0 ≤ t.last:=by
 unfold zbp at h
 split at h
 ·cases h
 split at h
 ·cases h
 rename_i h10
 simp only [not_or] at h10
 omega
theorem zj9 {σ α:Type} (next:σ → α → σ):∀ (l:List α) (a:σ),zdW (fun _ _ => true) next a l = (l.foldl next a,true)
 | [],a => rfl
 | p :: l,a => by simp only [zdW,if_true,List.foldl_cons]; exact zj9 next l _
theorem mem_addK {ks:List (List Int)} {k x:List Int}:x ∈ addK ks k ↔ x ∈ ks ∨ x = k:=by
 unfold addK
 split
 ·rename_i h
  constructor
  ·exact .inl
  ·rintro (h1 | rfl)
   ·exact h1
   ·exact h
 ·simp
theorem zh3 {ks:List (List Int)} {p x:List Int}:∀ n,x ∈ zfe ks p n ↔ x ∈ ks ∨ ∃ i:Nat,i < n ∧ x = [(i:Int),at_ p i]
 | 0 => by simp [zfe]
 | n + 1 => by
  rw [zfe,mem_addK,zh3 n]
  constructor
  ·rintro ((h | ⟨i,hi,rfl⟩) | rfl)
   ·exact .inl h
   ·exact .inr ⟨i,by omega,rfl⟩
   ·exact .inr ⟨n,by omega,rfl⟩
  ·rintro (h | ⟨i,hi,rfl⟩)
   ·exact .inl (.inl h)
   ·by_cases c:i = n
    ·subst c; exact .inr rfl
    ·exact .inl (.inr ⟨i,by omega,rfl⟩)
theorem pad10_inj {a b:List Int} (h1:a.length = b.length) (h2:b.length ≤ 10) (h:zdj a = zdj b):a = b:=by
 unfold zdj at h
 rw [cze (by omega),cze h2] at h
 exact (List.append_inj h h1).1
structure Met (t:Tb) (n:Nat) (a:List (List Int) × List (List Int)):Prop where
 len:∀ p ∈ a.1,p.length = n
 key:∀ k ∈ a.2,∃ p ∈ a.1,∃ i:Nat,i < n ∧ k = [(i:Int),at_ p i]
 all:∀ p ∈ a.1,∀ i:Nat,i < n → [(i:Int),at_ p i] ∈ a.2
theorem met_step {t:Tb} {n:Nat} (hn:(t.last + 1).toNat = n) {a:List (List Int) × List (List Int)} {p:List Int} (h:Met t n a) (hp:p.length = n):Met t n (zhE t a p):=by
 unfold zhE
 split
 ·rw [hn]
  refine ⟨fun q hq => ?_,fun k hk => ?_,fun q hq i hi => ?_⟩
  ·rcases czv.1 hq with hq | hq
   ·exact h.len q hq
   ·simp at hq; subst hq; exact hp
  ·rcases (zh3 n).1 hk with hk | ⟨i,hi,rfl⟩
   ·obtain ⟨q,hq,i,hi,rfl⟩:=h.key k hk
    exact ⟨q,List.mem_append_left _ hq,i,hi,rfl⟩
   ·exact ⟨p,by simp,i,hi,rfl⟩
  ·rcases czv.1 hq with hq | hq
   ·exact (zh3 n).2 (.inl (h.all q hq i hi))
   ·simp at hq; subst hq
    exact (zh3 n).2 (.inr ⟨i,hi,rfl⟩)
 ·exact h
theorem met_mono {t:Tb} {a:List (List Int) × List (List Int)} {p q:List Int} (h:q ∈ a.1):q ∈ (zhE t a p).1:=by
 unfold zhE
 split
 ·exact List.mem_append_left _ h
 ·exact h
theorem met_add {t:Tb} {n:Nat} (h10:n ≤ 10) {a:List (List Int) × List (List Int)} {p:List Int} (h:Met t n a) (hp:p.length = n) (hr:zdy t (zdj p) [] t.marks.length = true):p ∈ (zhE t a p).1:=by
 unfold zhE
 split
 ·simp
 ·rename_i c
  rw [hr,Bool.true_and,Bool.not_eq_true,Bool.not_eq_false',czl] at c
  have c1:0 < a.1.length:=by simpa using c.1
  have c2:zdj (at_ a.1 (a.1.length - 1)) = zdj p:=by simpa using c.2
  have hm:=zbh (l:=a.1) (i:=a.1.length - 1) (by omega)
  have:=pad10_inj (by rw [h.len _ hm,hp]) (by omega) c2
  rw [← this]; exact hm
theorem ztd {t:Tb} {n:Nat} (hn:(t.last + 1).toNat = n) (h10:n ≤ 10):∀ (l:List (List Int)) (a:List (List Int) × List (List Int)),(∀ p ∈ l,p.length = n) → Met t n a →
  Met t n (l.foldl (zhE t) a) ∧ (∀ q ∈ a.1,q ∈ (l.foldl (zhE t) a).1) ∧ ∀ p ∈ l,zdy t (zdj p) [] t.marks.length = true → p ∈ (l.foldl (zhE t) a).1
 | [],a,hl,h => ⟨h,fun q hq => hq,fun p hp => by cases hp⟩
 | p :: l,a,hl,h => by
  have hp:=hl p (by simp)
  obtain ⟨h1,h2,h3⟩:=ztd hn h10 l (zhE t a p) (fun q hq => hl q (by simp [hq])) (met_step hn h hp)
  refine ⟨h1,fun q hq => h2 q (met_mono hq),fun q hq hr => ?_⟩
  rcases czn.1 hq with rfl | hq
  ·exact h2 _ (met_add h10 h hp hr)
  ·exact h3 q hq hr
theorem zqO {t:Tb} (hv:VOk t) {p:List Int} (h:p ∈ zlj t):p.length = (t.last + 1).toNat:=by
 have:=zbI ((zjI hv.hok hv.last p).1 h)
 have:=hv.last
 omega
theorem znt {t:Tb} (hv:VOk t):Met t (t.last + 1).toNat (zg8 t) ∧ ∀ p,p ∈ (zg8 t).1 ↔ p ∈ zlj t ∧ zdy t (zdj p) [] t.marks.length = true:=by
 have h10:(t.last + 1).toNat ≤ 10:=by have:=hv.last; have:=hv.hok.len; omega
 have e:zg8 t = (zlj t).foldl (zhE t) ([],[]):=by unfold zg8; rw [zj9]
 obtain ⟨h1,_,h3⟩:=ztd rfl h10 (zlj t) ([],[]) (fun p hp => zqO hv hp) ⟨by simp,by simp,by simp⟩
 rw [← e] at h1 h3
 refine ⟨h1,fun p => ⟨fun hp => ?_,fun hp => h3 p hp.1 hp.2⟩⟩
 rcases askS_mem (zlj t) ([],[]) p hp with h | h
 ·simp at h
 ·exact h
theorem zhR {t:Tb} (hv:VOk t) {p:List Int} (h:za4 t p = true):zdy t (zdj p) [] t.marks.length = t.marks.all (zdX p):=by
 rw [zob]
 have hl:=zbI h
 refine zdE fun m hm => ?_
 have:=hv.mok.m m hm
 exact zlO (by have:=hv.hok.len; omega) (by omega) (by omega)
theorem zfK {t:Tb} (hv:VOk t) (p:List Int):p ∈ zaJ t ↔ zby t p = true:=by
 unfold zaJ
 rw [List.mem_filter,ziM hv.hok hv.many]
 constructor
 ·exact fun h => h.2
 ·intro h
  refine ⟨?_,h⟩
  unfold zby at h
  simp only [czl] at h
  exact h.1
theorem zfZ {t:Tb} (hv:VOk t) (p:List Int):p ∈ (zg8 t).1 ↔ p ∈ zaJ t:=by
 rw [(znt hv).2 p,zjI hv.hok hv.last,zfK hv]
 unfold zby
 rw [czl]
 constructor
 ·rintro ⟨h1,h2⟩
  rw [zhR hv h1] at h2
  exact ⟨h1,h2⟩
 ·rintro ⟨h1,h2⟩
  rw [zhR hv h1]
  exact ⟨h1,h2⟩
theorem ziz {t:Tb} (hv:VOk t):(zg8 t).1.length = 0 ↔ zaJ t = []:=by
 rw [List.length_eq_zero_iff]
 constructor
 ·intro h
  refine List.eq_nil_iff_forall_not_mem.2 fun p hp => ?_
  have:=(zfZ hv p).2 hp
  rw [h] at this; cases this
 ·intro h
  refine List.eq_nil_iff_forall_not_mem.2 fun p hp => ?_
  have:=(zfZ hv p).1 hp
  rw [h] at this; cases this
theorem zgd {t:Tb} (hv:VOk t) {p:List Int} (h:p ∈ zaJ t):p.length = t.heights.length:=by
 have:=(zfK hv p).1 h
 unfold zby at this
 rw [czl] at this
 exact zbI this.1
theorem zj0 {t:Tb} (hv:VOk t) {p:List Int} (h:p ∈ zaJ t):LOk p:=by
 unfold zaJ at h
 exact (zoJ hv.hok p (List.mem_filter.1 h).1).2
theorem zhj {t:Tb} (hv:VOk t):(zaJ t).length ≤ 3000:=by
 have:=ziP hv.hok
 have:=List.length_filter_le (zby t) (zcq t)
 unfold zaJ; omega
def znM (t:Tb):Wk:=⟨t,(zg8 t).1.map zfg,(zg8 t).2⟩
theorem askS_key2 {t:Tb} (hv:VOk t):∀ k ∈ (znM t).ks,k.length = 2:=by
 intro k hk
 obtain ⟨p,_,i,_,rfl⟩:=(znt hv).1.key k hk
 rfl
theorem zrz {t:Tb} (hv:VOk t) (hne:zaJ t ≠ []) {hour:Int} (h0:0 ≤ hour) (h1:hour ≤ t.last):IsB (fun x => ∃ p ∈ zaJ t,at_ p hour.toNat = x) (zgX (znM t) hour):=by
 obtain ⟨hm,ht⟩:=znt hv
 have hat:=zfZ hv
 have hne':0 < (zg8 t).1.length:=by
  have:=ziz hv
  rcases Nat.eq_zero_or_pos (zg8 t).1.length with h | h
  ·exact absurd (this.1 h) hne
  ·exact h
 have h10:t.heights.length ≤ 10:=hv.hok.len
 have hl:=hv.last
 have e0:at_ (at_ (znM t).truth 0).l hour.toNat = at_ (at_ (zg8 t).1 0) hour.toNat:=by
  have:at_ (znM t).truth 0 = zfg (at_ (zg8 t).1 0):=by
   show at_ ((zg8 t).1.map zfg) 0 = _
   simp [at_,List.getD,hne']
  rw [this]
  have hmm:=zbh hne'
  exact zhe (by rw [hm.len _ hmm]; omega) (by omega)
 unfold zgX
 rw [e0]
 have e1:(znM t).ks.foldl (zhJ hour) ⟨at_ (at_ (zg8 t).1 0) hour.toNat,at_ (at_ (zg8 t).1 0) hour.toNat⟩ = ((zg8 t).2.filter fun k => decide (at_ k 0 = hour)).foldl (fun r k => zdi r (at_ k 1)) ⟨at_ (at_ (zg8 t).1 0) hour.toNat,at_ (at_ (zg8 t).1 0) hour.toNat⟩:=by
  rw [List.foldl_filter]
  simp only [decide_eq_true_eq]
  rfl
 rw [e1]
 have hk0:=hm.all _ (zbh hne') hour.toNat (by omega)
 have:=zna (fun k:List Int => at_ k 1) ((zg8 t).2.filter fun k => decide (at_ k 0 = hour)) [((hour.toNat:Nat):Int),at_ (at_ (zg8 t).1 0) hour.toNat] (by
  rw [List.mem_filter]
  refine ⟨hk0,?_⟩
  simp [at_]; omega)
 refine this.congr fun x => ?_
 constructor
 ·rintro ⟨k,hk,rfl⟩
  rw [List.mem_filter] at hk
  obtain ⟨p,hp,i,hi,rfl⟩:=hm.key k hk.1
  have hi2:(i:Int) = hour:=by simpa [at_] using hk.2
  refine ⟨p,(hat p).1 hp,?_⟩
  rw [show hour.toNat = i by omega]
  rfl
 ·rintro ⟨p,hp,rfl⟩
  refine ⟨[((hour.toNat:Nat):Int),at_ p hour.toNat],?_,rfl⟩
  rw [List.mem_filter]
  refine ⟨hm.all p ((hat p).2 hp) _ (by omega),?_⟩
  simp [at_]; omega
theorem zr7 {t:Tb} (hv:VOk t) (hne:zaJ t ≠ []) {hour:Int} (h0:0 ≤ hour) (h1:hour ≤ t.last):IsB (fun x => ∃ p ∈ zaJ t,at_ p hour.toNat = x) (zkP (zaJ t) hour):=by
 refine zkA (fun l:List Int => at_ l hour.toNat) (zaJ t) hne fun p hp => ?_
 have hl:=zgd hv hp
 have:=hv.last
 have:=(zj0 hv hp).b _ (zbh (show hour.toNat < p.length by omega))
 omega
theorem zln {t:Tb} (hv:VOk t) (hne:zaJ t ≠ []) {hour:Int} (h0:0 ≤ hour) (h1:hour ≤ t.last):zgX (znM t) hour = zkP (zaJ t) hour :=
 (zrz hv hne h0 h1).eq (zr7 hv hne h0 h1) fun _ => Iff.rfl
theorem zkO {t:Tb} (hv:VOk t) (hne:zaJ t ≠ []) (q:Qn) (x y:Int) (f:List Int → Int) (hf:∀ p ∈ zaJ t,q.ask (znM t) x y (zfg p) = f p):IsB (fun z => ∃ p ∈ zaJ t,f p = z) (zhz q (znM t) x y):=by
 have hat:=zfZ hv
 have hne':0 < (zg8 t).1.length:=by
  rcases Nat.eq_zero_or_pos (zg8 t).1.length with h | h
  ·exact absurd ((ziz hv).1 h) hne
  ·exact h
 unfold zhz
 have:=zna (fun s => q.ask (znM t) x y s) (znM t).truth (at_ (znM t).truth 0) (zbh (by show 0 < ((zg8 t).1.map zfg).length; simpa using hne'))
 refine this.congr fun z => ?_
 constructor
 ·rintro ⟨s,hs,rfl⟩
  obtain ⟨p,hp,rfl⟩:=czx.1 hs
  exact ⟨p,(hat p).1 hp,(hf p ((hat p).1 hp)).symm⟩
 ·rintro ⟨p,hp,rfl⟩
  exact ⟨zfg p,czx.2 ⟨p,(hat p).2 hp,rfl⟩,hf p hp⟩
theorem zqC {t:Tb} (hv:VOk t) {p:List Int} (hp:p ∈ zaJ t) (level:Int):zmH (znM t) (zfg p) level = zes p level:=by
 have hl:=zgd hv hp
 have h10:=hv.hok.len
 have h:=hv.last
 have e:(t.last + 1).toNat = p.length:=by omega
 unfold zmH zes
 show (match zlB (zdj p) level (t.last + 1).toNat with | [] => t.last + 1 | x :: _ => x) = _
 rw [e,zqt level (by omega)]
 cases zhd p level with
 | nil =>
  dsimp only
  have e2:t.last + 1 = (p.length:Int):=by omega
  exact e2
 | cons x r => rfl
theorem top_pad {p:List Int} {a b:Int} (h10:p.length ≤ 10) (h0:0 ≤ a) (h1:b < p.length):zlE (zdj p) a b = zlE p a b:=by
 unfold zlE zdj
 rw [cze h10,List.drop_append,List.take_append]
 by_cases c:a ≤ b
 ·rw [show a.toNat - p.length = 0 by omega,List.drop_zero]
  rw [show (b + 1 - a).toNat - (p.drop a.toNat).length = 0 by simp; omega]
  simp
 ·rw [show (b + 1 - a).toNat = 0 by omega]
  simp
theorem zqD {p:List Int} (h:LOk p) (level:Int):0 ≤ zes p level ∧ zes p level ≤ 4096:=by
 have:=h.len
 unfold zes
 cases c:zhd p level with
 | nil => dsimp only; omega
 | cons x r =>
  have:x ∈ zhd p level:=by rw [c]; simp
  unfold zhd zlB at this
  simp only [czx,List.mem_filter,List.mem_range] at this
  obtain ⟨i,⟨hi,_⟩,rfl⟩:=this
  dsimp only; omega
theorem zuY {t:Tb} (hv:VOk t) (hne:zaJ t ≠ []) (level:Int):IsB (fun z => ∃ p ∈ zaJ t,zes p level = z) (zs7 (zaJ t) level):=by
 refine zkA (fun l:List Int => zes l level) (zaJ t) hne fun p hp => ?_
 have:=zqD (zj0 hv hp) level
 omega
theorem zqE {t:Tb} (hv:VOk t) (hne:zaJ t ≠ []) (level z:Int):zhz .soon (znM t) level z = zs7 (zaJ t) level :=
 (zkO hv hne .soon level z (fun p => zes p level) fun p hp => zqC hv hp level).eq (zuY hv hne level) fun _ => Iff.rfl
theorem maxL_mem:∀ (l:List Int),l ≠ [] → zqp l ∈ l:=by
 have key:∀ (l:List Int) (a:Int),l.foldl max a = a ∨ l.foldl max a ∈ l:=by
  intro l
  induction l with
  | nil => intro a; exact .inl rfl
  | cons y l ih =>
   intro a
   simp only [List.foldl_cons]
   rcases ih (max a y) with h | h
   ·rw [h]
    by_cases c:a ≤ y
    ·right; rw [Int.max_eq_right c]; simp
    ·left; omega
   ·right; simp [h]
 intro l h
 cases l with
 | nil => exact absurd rfl h
 | cons y l =>
  rcases key l y with h | h
  ·rw [zqp,h]; simp
  ·exact List.mem_cons_of_mem _ h
theorem topL_mem {l:List Int} {a b:Int} (h0:0 ≤ a) (h1:a ≤ b) (h3:b < l.length):∃ i:Nat,a ≤ i ∧ (i:Int) ≤ b ∧ zlE l a b = at_ l i:=by
 have hne:(l.drop a.toNat).take (b + 1 - a).toNat ≠ []:=by
  intro q
  have:=congrArg List.length q
  simp at this
  omega
 obtain ⟨k,hk,e⟩:=List.getElem_of_mem (maxL_mem _ hne)
 have hk':k < (b + 1 - a).toNat:=by simp at hk; omega
 refine ⟨a.toNat + k,by omega,by omega,?_⟩
 unfold zlE
 rw [← e]
 simp only [List.getElem_take,List.getElem_drop]
 rw [zdm (by omega)]
theorem topL_bd {l:List Int} (h:LOk l) {a b:Int} (h0:0 ≤ a) (h1:a ≤ b) (h3:b < l.length):0 ≤ zlE l a b ∧ zlE l a b ≤ 99:=by
 obtain ⟨i,_,_,e⟩:=topL_mem h0 h1 h3
 rw [e]
 exact h.b _ (zbh (by omega))
theorem zvw {ls:List (List Int)} {a b n:Int} {r:Rg} (h:IsB (fun z => ∃ p ∈ ls,zlE p a b = z) r):ztn ls a b n = true ↔ r.hi ≤ n:=by
 unfold ztn
 rw [czG]
 constructor
 ·intro q
  obtain ⟨p,hp,e⟩:=h.hi
  have:=q p hp
  rw [e] at this
  simpa using this
 ·intro q p hp
  have:=h.all _ ⟨p,hp,rfl⟩
  simp; omega
theorem dryN_eq {ls:List (List Int)} {a b hi:Int} (h:∀ n,ztn ls a b n = true ↔ hi ≤ n):∀ (f:Nat) (n:Int),n ≤ hi → hi ≤ n + f → dryN ls a b f n = hi
 | 0,n,h1,h2 => by unfold dryN; omega
 | f + 1,n,h1,h2 => by
  unfold dryN
  by_cases c:hi ≤ n
  ·rw [if_pos ((h n).2 c)]; omega
  ·rw [if_neg (by rw [h n]; exact c)]
   exact dryN_eq h f (n + 1) (by omega) (by omega)
theorem top_isB {t:Tb} (hv:VOk t) (hne:zaJ t ≠ []) {a b:Int} (h0:0 ≤ a) (h1:a ≤ b) (h2:b ≤ t.last):IsB (fun z => ∃ p ∈ zaJ t,zlE p a b = z) (zhz .top (znM t) a b):=by
 refine zkO hv hne .top a b (fun p => zlE p a b) fun p hp => ?_
 have:=zgd hv hp
 have:=hv.last
 exact top_pad (by have:=hv.hok.len; omega) h0 (by omega)
theorem top_dry {t:Tb} (hv:VOk t) (hne:zaJ t ≠ []) {a b:Int} (h0:0 ≤ a) (h1:a ≤ b) (h2:b ≤ t.last):(zhz .top (znM t) a b).hi = dryL (zaJ t) a b ∧ 0 ≤ dryL (zaJ t) a b ∧ dryL (zaJ t) a b ≤ 99:=by
 have hB:=top_isB hv hne h0 h1 h2
 obtain ⟨p,hp,e⟩:=hB.hi
 have hl:=zgd hv hp
 have:=hv.last
 have hb:=topL_bd (zj0 hv hp) h0 h1 (by omega)
 rw [e] at hb
 have hd:=dryN_eq (fun n => zvw (n:=n) hB) 99 0 hb.1 (by omega)
 unfold dryL
 rw [hd]
 exact ⟨rfl,hb⟩
theorem zi6 (f a b):(AV.fn f a b).one = true:=rfl
def zc0 (t:Tb) (fine:Bool):Int:=if zbp t = 0 then if fine then if zaJ t = [] then 11 else 0 else 2 else zbp t
theorem zk1 {t:Tb} {fine:Bool} (h:zc0 t fine = 0):zbp t = 0 ∧ fine = true ∧ zaJ t ≠ []:=by
 unfold zc0 at h
 by_cases c:zbp t = 0
 ·rw [if_pos c] at h
  cases fine
  ·simp at h
  ·rw [if_pos rfl] at h
   refine ⟨c,rfl,fun q => ?_⟩
   rw [if_pos q] at h
   simp at h
 ·rw [if_neg c] at h; exact absurd h c
theorem asked_ok {t:Tb} {fine:Bool} (h:zc0 t fine = 0):zk0 t fine = (some (znM t),0):=by
 obtain ⟨h1,h2,h3⟩:=zk1 h
 have hn:=ziz (zcR h1)
 unfold zk0
 rw [if_pos h1,h2,if_pos rfl,if_neg (fun q => h3 (hn.1 q))]
 rfl
theorem asked_bad {t:Tb} {fine:Bool} (h:zc0 t fine ≠ 0):zk0 t fine = (none,zc0 t fine):=by
 unfold zk0 zc0 at *
 by_cases c:zbp t = 0
 ·rw [if_pos c] at h ⊢
  rw [if_pos c]
  have hn:=ziz (zcR c)
  cases fine
  ·rfl
  ·rw [if_pos rfl] at h ⊢
   rw [if_pos rfl]
   by_cases c2:zaJ t = []
   ·rw [if_pos (hn.2 c2),if_pos c2]
   ·rw [if_neg c2] at h; exact absurd rfl h
 ·rw [if_neg c,if_neg c]
structure WOk (t:Tb) (w:Wk):Prop where
 wt:w.t = t
 n0:0 < w.truth.length
 n1:w.truth.length ≤ 4096
 k:∀ k ∈ w.ks,k.length = 2
 hb:∀ i:Int,0 ≤ i → i ≤ t.last → zgX w i = zkP (zaJ t) i
 sb:∀ level z:Int,zhz .soon w level z = zs7 (zaJ t) level
 db:∀ a b:Int,0 ≤ a → a ≤ b → b ≤ t.last → (zhz .top w a b).hi = dryL (zaJ t) a b
theorem wok_of {t:Tb} (hv:VOk t) (hne:zaJ t ≠ []):∃ w,znM t = w ∧ WOk t w:=by
 have hl:(znM t).truth.length = (zg8 t).1.length:=by show ((zg8 t).1.map zfg).length = _; simp
 refine ⟨_,rfl,rfl,?_,?_,askS_key2 hv,fun i h0 h1 => zln hv hne h0 h1,fun level z => zqE hv hne level z,fun a b h0 h1 h2 => (top_dry hv hne h0 h1 h2).1⟩
 ·rw [hl]
  rcases Nat.eq_zero_or_pos (zg8 t).1.length with h | h
  ·exact absurd ((ziz hv).1 h) hne
  ·exact h
 ·rw [hl]
  have e:zg8 t = (zlj t).foldl (zhE t) ([],[]):=by unfold zg8; rw [zj9]
  have key:∀ (l:List (List Int)) (a:List (List Int) × List (List Int)),(l.foldl (zhE t) a).1.length ≤ a.1.length + l.length:=by
   intro l
   induction l with
   | nil => intro a; simp
   | cons p l ih =>
    intro a
    have:=ih (zhE t a p)
    have h1:(zhE t a p).1.length ≤ a.1.length + 1:=by unfold zhE; split <;> simp
    simp only [List.foldl_cons,cza]
    omega
  have:=key (zlj t) ([],[])
  have:=zs1 hv
  rw [e]
  simp at *
  omega
def bndQ (t:Tb):List Rg × Int:=if zc0 t true = 0 then ((List.range (t.last + 1).toNat).map fun i:Nat => zkP (zaJ t) i,0) else ([],zc0 t true)
theorem zsL (t:Tb) (h:t.heights.length ≤ 4096):zaQ Tryz.prog 81 [Enc.enc t] (· = Enc.enc (bndQ t)):=by
 simp only [zaa]
 unfold bndQ
 by_cases c:zc0 t true = 0
 case neg =>
  have e:=asked_bad c
  rw [if_neg c]
  simp only [zcz]
  refine cpz P42_ok Tryz.func81 zaD ?_
  rw [Tryz.ntmps81]
  simp only [Tryz.f81,zag,zap]
  simp (maxSteps:=4000000) only [go_sem,AV.one,zae,zac,zad,zaq,zas,zab,czb,cza,↓reduceIte,zbk,zbw,ztt,zwO,zjP,ztr,zaa,zaR,zao,zdu,zd5,zcD,zb5,zb4,zbE,zcZ,zi6,e,zfS,c]
  all_goals exact auz
 rw [if_pos c]
 obtain ⟨hf,_,hne⟩:=zk1 c
 have hv:=zcR hf
 have e:=asked_ok c
 obtain ⟨w,hw,hW⟩:=wok_of hv hne
 rw [hw] at e
 have hl0:=znh hf
 have hl9:=hv.l9
 have hk:=hW.k
 have hn:=hW.n0
 have ht:=hW.wt
 simp only [zcz]
 refine cpz P42_ok Tryz.func81 zaD ?_
 rw [Tryz.ntmps81]
 simp only [Tryz.f81,zag,zap]
 simp (maxSteps:=4000000) only [go_sem,zae,zac,zad,zaq,zas,zab,czb,cza,↓reduceIte,zbk,zbw,ztt,zwO,zjP,ztr,zaa,zaR,zao,zdu,zd5,zcD,zb5,zb4,zbE,zcZ,zi6,e,zkI,wkC,c]
 all_goals (repeat' first | (with_reducible first | rfl | apply And.intro | assumption) | ((with_reducible show zaf _ _ = true); rfl)) <;> try first | omega | (simp only [InR]; omega)
 refine zbv ((t.last + 1).toNat) [.slot 6 2] [2,3,4,18] (fun i => [(19,.int .i64 i),(6,.sl (((List.range i).map fun i:Nat => zkP (zaJ t) i).map EncE.cs) (.own 1))]) (fun i m => m.set 1 (.tok i 2)) (fun _ => True) ?_ ?_ ?_ ?_
 ·trivial
 ·simp [AV.bare,zal,zaN,zaS,zak,zat,zah,tokz1,lk,zab,zcW,zb9,-List.map_map]
 ·intro i hi _
  have hi':(i:Int) < t.last + 1:=by omega
  have hh:=hW.hb i (by omega) (by omega)
  simp (maxSteps:=4000000) only [go_sem,zae,zac,zad,zaq,zas,zab,czb,cza,↓reduceIte,zbk,zbw,ztt,zwO,zjP,ztr,zaa,zaR,zao,zdu,zd5,zcD,zb5,zb4,zbE,zcZ,zi6,hi',hh,List.length_range]
  all_goals (repeat' first | (with_reducible first | rfl | apply And.intro | assumption) | ((with_reducible show zaf _ _ = true); rfl)) <;> try first | omega | (simp only [InR]; omega)
  refine nxt hi trivial ?_
  simp [AV.bare,zal,zaN,zaS,zak,zat,zah,tokz1,lk,zab,zcW,zb9,List.range_succ,-List.map_map]
 ·intro _
  have hi':¬ (((t.last + 1).toNat:Nat):Int) < t.last + 1:=by omega
  simp (maxSteps:=4000000) only [go_sem,zae,zac,zad,zaq,zas,zab,czb,cza,↓reduceIte,zbk,zbw,ztt,zwO,zjP,ztr,zaa,zaR,zao,zdu,zd5,zcD,zb5,zb4,zbE,zcZ,zi6,hi',List.length_range]
  all_goals exact auz
def wetQ (t:Tb) (row hour:Int):Int × Int :=
 if zc0 t (inB row 0 (t.levels.length - 1) && inB hour 0 t.last) = 0 then (verdictL (zaJ t) (at_ t.levels row.toNat) hour,0) else (0,zc0 t (inB row 0 (t.levels.length - 1) && inB hour 0 t.last))
def rchQ (t:Tb) (row:Int):Rg × Int :=
 if zc0 t (inB row 0 (t.levels.length - 1)) = 0 then (zs7 (zaJ t) (at_ t.levels row.toNat),0) else (⟨0,0⟩,zc0 t (inB row 0 (t.levels.length - 1)))
def dryQ (t:Tb) (a b:Int):Int × Int :=
 if zc0 t (inB a 0 t.last && inB b 0 t.last && decide (a ≤ b)) = 0 then (dryL (zaJ t) a b,0) else (0,zc0 t (inB a 0 t.last && inB b 0 t.last && decide (a ≤ b)))
def P43 (g:FuncId):=(zaw 81 (zct (fun t:Tb => t.heights.length ≤ 4096) bndQ) (P42):zaL) g
theorem P43_ok:zaC Tryz.prog P43:=zaj (zbf zsL) (P42_ok)
theorem ztQ (d:Option Nat):zaI P43 d = none:=(zai (by decide) d).trans (ztR d)
attribute [go_sem] P43 ztQ
def P44:zaL:=P43
theorem P44_app (g:FuncId):P44 g = (P43) g:=rfl
theorem P44_ok:zaC Tryz.prog P44:=P43_ok
attribute [go_sem] P44_app
theorem ztP (d:Option Nat):zaI P44 d = none:=ztQ d
attribute [go_sem] ztP
def Poss (t:Tb) (S:Nat → Prop):Prop:=∃ p,za4 t p = true ∧ ∀ k,k < t.marks.length → S k → zdX p (at_ t.marks k) = true
theorem Poss.mono {t:Tb} {S T:Nat → Prop} (h:Poss t S) (hs:∀ k,k < t.marks.length → T k → S k):Poss t T:=by
 obtain ⟨p,h1,h2⟩:=h
 exact ⟨p,h1,fun k hk hT => h2 k hk (hs k hk hT)⟩
theorem zmu (x m:Nat):x &&& m = m ↔ ∀ k,m.testBit k = true → x.testBit k = true:=by
 constructor
 ·intro h k hk
  have:=congrArg (fun y => y.testBit k) h
  simp only [Nat.testBit_and,hk,Bool.and_true] at this
  exact this
 ·intro h
  refine Nat.eq_of_testBit_eq fun k => ?_
  rw [Nat.testBit_and]
  cases c:m.testBit k
  ·simp
  ·rw [h k c]; rfl
theorem zet {m n k:Nat} (h:m < 2 ^ n) (hk:m.testBit k = true):k < n:=by
 rcases Nat.lt_or_ge k n with c | c
 ·exact c
 ·rw [Nat.testBit_lt_two_pow (Nat.lt_of_lt_of_le h (Nat.pow_le_pow_right (by omega) c))] at hk
  cases hk
theorem zcC (n k:Nat):(2 ^ n - 1).testBit k = decide (k < n):=Nat.testBit_two_pow_sub_one n k
def firstQ (t:Tb):Int × Int:=if zbp t = 0 then if firstL t (allL t) < 0 then (0,7) else (firstL t (allL t),0) else (0,zbp t)
/-! Sets as lists in increasing order. -/
def zcg (l:List Nat):List Int:=l.map fun (n:Nat) => (n:Int)
def Inc (lo hi:Nat):List Nat → Prop
 | [] => True
 | a :: r => (lo ≤ a ∧ a < hi) ∧ Inc (a + 1) hi r
theorem Inc.mem {hi:Nat}:∀ {lo:Nat} {l:List Nat},Inc lo hi l → ∀ x ∈ l,lo ≤ x ∧ x < hi
 | lo,[],_,x,hx => by cases hx
 | lo,a :: r,h,x,hx => by
  rcases czn.1 hx with rfl | hx
  ·exact h.1
  ·have:=Inc.mem h.2 x hx
   have:=h.1
   omega
theorem Inc.pair {hi:Nat}:∀ {lo:Nat} {l:List Nat},Inc lo hi l → l.Pairwise (· < ·)
 | lo,[],_ => List.Pairwise.nil
 | lo,a :: r,h => List.Pairwise.cons (fun x hx => by have:=Inc.mem h.2 x hx; omega) (Inc.pair h.2)
theorem inc_of {hi:Nat}:∀ {lo:Nat} {l:List Nat},l.Pairwise (· < ·) → (∀ x ∈ l,lo ≤ x ∧ x < hi) → Inc lo hi l
 | lo,[],_,_ => trivial
 | lo,a :: r,h,hm => by
  rw [List.pairwise_cons] at h
  exact ⟨hm a (by simp),inc_of h.2 fun x hx => ⟨by have:=h.1 x hx; omega,(hm x (by simp [hx])).2⟩⟩
theorem zru:∀ (a b:List Nat),a.Pairwise (· < ·) → b.Pairwise (· < ·) → (∀ x,x ∈ a ↔ x ∈ b) → a = b
 | [],[],_,_,_ => rfl
 | [],y :: b,_,_,h => by have:=(h y).2 (by simp); cases this
 | x :: a,[],_,_,h => by have:=(h x).1 (by simp); cases this
 | x :: a,y :: b,ha,hb,h => by
  rw [List.pairwise_cons] at ha hb
  have hxy:x = y:=by
   rcases czn.1 ((h x).1 (by simp)) with e | h1
   ·exact e
   ·rcases czn.1 ((h y).2 (by simp)) with e | h2
    ·exact e.symm
    ·have:=ha.1 y h2; have:=hb.1 x h1; omega
  subst hxy
  rw [zru a b ha.2 hb.2 fun z => ?_]
  constructor
  ·intro hz
   rcases czn.1 ((h z).1 (by simp [hz])) with e | h1
   ·have:=ha.1 z hz; omega
   ·exact h1
  ·intro hz
   rcases czn.1 ((h z).2 (by simp [hz])) with e | h1
   ·have:=hb.1 z hz; omega
   ·exact h1
theorem Inc.len {hi:Nat}:∀ {lo:Nat} {l:List Nat},Inc lo hi l → l ≠ [] → lo + l.length ≤ hi
 | lo,[],_,h => absurd rfl h
 | lo,[a],h,_ => by have:=h.1; simp; omega
 | lo,a :: b :: r,h,_ => by
  have:=Inc.len h.2 (by simp)
  have:=h.1
  simp at *; omega
def zeK (b n:Nat):List Nat:=(List.range n).filter fun p => b.testBit p
theorem zlT (b n:Nat):Inc 0 n (zeK b n) :=
 inc_of (List.pairwise_lt_range.filter _) fun x hx => by unfold zeK at hx; rw [List.mem_filter,List.mem_range] at hx; omega
theorem zmo {b n:Nat} (h:b < 2 ^ n):zlt b = zcg (zeK b n):=by
 unfold zlt zls zcg
 congr 1
 refine zru _ _ (List.pairwise_lt_range.filter _) (List.pairwise_lt_range.filter _) fun x => ?_
 unfold zeK
 simp only [List.mem_filter,List.mem_range]
 constructor
 ·exact fun h1 => ⟨zet h h1.2,h1.2⟩
 ·refine fun h1 => ⟨?_,h1.2⟩
  rcases Nat.lt_or_ge x (blN b) with c | c
  ·exact c
  ·have he:=blN_end b
   have:b < 2 ^ blN b:=by
    rcases Nat.lt_or_ge b (2 ^ blN b) with q | q
    ·exact q
    ·have:=Nat.div_pos q (Nat.two_pow_pos _); omega
   have hx:=zet this h1.2
   exact hx
def zj2:List Nat → Nat
 | [] => 0
 | a :: r => 2 ^ a ||| zj2 r
theorem zqu (l:List Nat) (k:Nat):(zj2 l).testBit k = decide (k ∈ l):=by
 induction l with
 | nil => simp [zj2]
 | cons a l ih =>
  rw [zj2,Nat.testBit_or,ih,Nat.testBit_two_pow,Bool.eq_iff_iff]
  simp
  constructor
  ·rintro (h | h)
   ·exact .inl h.symm
   ·exact .inr h
  ·rintro (h | h)
   ·exact .inl h.symm
   ·exact .inr h
theorem zw1 {l:List Nat} {n:Nat} (h:∀ x ∈ l,x < n):zj2 l < 2 ^ n:=by
 induction l with
 | nil => exact Nat.two_pow_pos n
 | cons a l ih => exact Nat.or_lt_two_pow (Nat.pow_lt_pow_right (by omega) (h a (by simp))) (ih fun x hx => h x (by simp [hx]))
theorem zmY {l:List Nat} {n:Nat} (h:Inc 0 n l):zeK (zj2 l) n = l:=by
 refine zru _ _ (List.pairwise_lt_range.filter _) h.pair fun x => ?_
 unfold zeK
 rw [List.mem_filter,List.mem_range,zqu]
 simp
 exact fun hx => (h.mem x hx).2
/-! The order of lists. -/
theorem ziv:∀ a:List Int,zb2 a a = false
 | [] => rfl
 | x :: a => by rw [zb2,if_pos rfl]; exact ziv a
theorem zjj:∀ a b c:List Int,zb2 a b = true → zb2 b c = true → zb2 a c = true
 | [],[],_,h,_ => by simp [zb2] at h
 | [],_ :: _,[],_,h => by simp [zb2] at h
 | [],_ :: _,_ :: _,_,_ => rfl
 | _ :: _,[],_,h,_ => by simp [zb2] at h
 | _ :: _,_ :: _,[],_,h => by simp [zb2] at h
 | x :: a,y :: b,z :: c,h1,h2 => by
  unfold zb2 at h1 h2 ⊢
  by_cases e1:x = y
  ·rw [if_pos e1] at h1
   by_cases e2:y = z
   ·rw [if_pos e2] at h2
    rw [if_pos (e1.trans e2)]
    exact zjj a b c h1 h2
   ·rw [if_neg e2] at h2
    rw [if_neg (by rw [e1]; exact e2),e1]; exact h2
  ·rw [if_neg e1] at h1
   by_cases e2:y = z
   ·rw [← e2,if_neg e1]; exact h1
   ·rw [if_neg e2] at h2
    simp only [decide_eq_true_eq] at h1 h2
    rw [if_neg (by omega)]
    simp; omega
theorem zjk:∀ a b:List Int,zb2 a b = false → zb2 b a = false → a = b
 | [],[],_,_ => rfl
 | [],_ :: _,h,_ => by simp [zb2] at h
 | _ :: _,[],_,h => by simp [zb2] at h
 | x :: a,y :: b,h1,h2 => by
  unfold zb2 at h1 h2
  by_cases e:x = y
  ·rw [if_pos e] at h1
   rw [if_pos e.symm] at h2
   rw [e,zjk a b h1 h2]
  ·rw [if_neg e] at h1
   rw [if_neg (fun q => e q.symm)] at h2
   simp only [decide_eq_false_iff_not] at h1 h2
   omega
theorem zfF (a b:List Int):zcy a b = true ↔ a.length < b.length ∨ (a.length = b.length ∧ zb2 a b = true):=by
 unfold zcy
 simp
 constructor
 ·rintro (h | ⟨h1,h2⟩)
  ·exact .inl h
  ·exact .inr ⟨by omega,h2⟩
 ·rintro (h | ⟨h1,h2⟩)
  ·exact .inl h
  ·exact .inr ⟨by omega,h2⟩
theorem zmK {a b c:List Int} (h1:zcy a b = true) (h2:zcy b c = true):zcy a c = true:=by
 rw [zfF] at h1 h2 ⊢
 rcases h1 with h1 | ⟨h1,h3⟩ <;> rcases h2 with h2 | ⟨h2,h4⟩
 ·left; omega
 ·left; omega
 ·left; omega
 ·right; exact ⟨by omega,zjj _ _ _ h3 h4⟩
theorem zli (a:List Int):zcy a a = false:=by
 rw [Bool.eq_false_iff]
 intro h
 rw [zfF,ziv] at h
 rcases h with h | ⟨_,h⟩
 ·omega
 ·cases h
theorem zhM {a b:List Int} (h1:zcy a b = false) (h2:zcy b a = false):a = b:=by
 rw [Bool.eq_false_iff,ne_eq,zfF] at h1 h2
 simp only [not_or,not_and,Bool.not_eq_true] at h1 h2
 have e:a.length = b.length:=by omega
 exact zjk a b (h1.2 e) (h2.2 e.symm)
structure Least (t:Tb) (l:List Nat):Prop where
 inc:Inc 0 t.marks.length l
 poss:Poss t (fun k => k ∉ l)
 least:∀ l',Inc 0 t.marks.length l' → Poss t (fun k => k ∉ l') → zcy (zcg l') (zcg l) = false
theorem zkM:∀ {a b:List Nat},zcg a = zcg b → a = b
 | [],[],_ => rfl
 | [],_ :: _,h => by simp [zcg] at h
 | _ :: _,[],h => by simp [zcg] at h
 | x :: a,y :: b,h => by
  simp only [zcg,czb,List.cons.injEq] at h
  rw [zkM (a:=a) (b:=b) h.2]
  congr 1
  omega
theorem Least.eq {t:Tb} {a b:List Nat} (h1:Least t a) (h2:Least t b):a = b :=
 zkM (zhM (h2.least a h1.inc h1.poss) (h1.least b h2.inc h2.poss))
theorem znV {full b:Nat} {n:Nat} (hf:full = 2 ^ n - 1) (hb:b < 2 ^ n) (k:Nat):(full - (full &&& b)).testBit k = (decide (k < n) && !b.testBit k):=by
 subst hf
 have e1:(2 ^ n - 1) &&& b = b:=by
  rw [zmu]
  intro k hk
  rw [zcC]; simpa using zet hb hk
 rw [e1,show 2 ^ n - 1 - b = 2 ^ n - (b + 1) by omega,Nat.testBit_two_pow_sub_succ hb]
/-! The program's search. -/
theorem zwJ (l:List Int) (h:l.length ≤ 4096):zwK Tryz.prog 105 [Enc.enc l] 1 (l.map EncE.cs):=by
 simp only [zcz]
 refine zr5 (Φ:=P44) Tryz.func105 rfl (by rfl) (by rw [Tryz.ntmps105]; simp) zaD P44_ok (by simp [AV.strip,AV.strip1,Tk.strip]) (by decide) ?_
 rw [Tryz.ntmps105]
 simp only [Tryz.f105,zag,zap]
 simp (maxSteps:=4000000) only [go_sem,AV.one,zae,zac,zad,zaq,zas,zab,czb,cza,↓reduceIte,zbk,zbw,zaa,zaR,zao,zdu,zd5,zcD,zb5,zb4,zbE,zcZ,zi6,frR]
 intro b hb
 cases b
 ·simp (maxSteps:=4000000) only [go_sem,AV.one,zae,zac,zad,zaq,zas,zab,czb,cza,↓reduceIte,zbk,zbw,zaa,zaR,zao,zdu,zd5,zcD,zb5,zb4,zbE,zcZ,zi6,frR]
  all_goals (repeat' first | (with_reducible first | rfl | apply And.intro | assumption) | ((with_reducible show zaf _ _ = true); rfl)) <;> try first | omega | (simp only [InR]; omega)
  simp [zel,AV.one]
 ·have:l = []:=by simpa using hb
  subst this
  simp (maxSteps:=4000000) only [go_sem,AV.one,zae,zac,zad,zaq,zas,zab,czb,cza,↓reduceIte,zbk,zbw,zaa,zaR,zao,zdu,zd5,zcD,zb5,zb4,zbE,zcZ,zi6,frR]
def P45 (g:FuncId):=(zaw 105 (zsV (fun l:List Int => l.length ≤ 4096) (fun l => l)) (P44):zaL) g
theorem P45_ok:zaC Tryz.prog P45:=zaj (specF1_ok zwJ) (P44_ok)
theorem ztO (d:Option Nat):zaI P45 d = none:=(zai (by decide) d).trans (ztP d)
attribute [go_sem] P45 ztO
theorem zr3 {P:Program} {g:FuncId} {args:List AV} {mem:List AObj} {R:AV → List AObj → Prop} (h:zga P g (args.map AV.strip) mem R):zga P g args mem R :=
 ⟨h.1,fun X κ ρ τ w vs h1 h2 h3 h4 => h.2 X κ ρ τ w vs h1 h2 (by simpa using h3) (fun i hi => by
  rw [zcn]
  exact (h4 i (by simpa using hi)).strip)⟩
theorem zin {α:Type} {f:Nat → Option α} {n k:Nat} {x:α} (hk:k < n) (h:∀ j,j < k → f j = none) (hx:f k = some x):(List.range n).findSome? f = some x:=by
 rw [List.findSome?_eq_some_iff]
 refine ⟨List.range k,k,(List.range (n - k - 1)).map (k + 1 + ·),?_,hx,fun a ha => h a (by simpa using ha)⟩
 have:n = k + (1 + (n - k - 1)):=by omega
 conv => lhs; rw [this,List.range_add,List.range_add]
 simp [Nat.add_assoc]
theorem zng {α:Type} {f:Nat → Option α} {n:Nat} (h:∀ j,j < n → f j = none):(List.range n).findSome? f = none:=by
 rw [List.findSome?_eq_none_iff]
 exact fun a ha => h a (by simpa using ha)
structure LvM (t:Tb) (mem:List AObj):Prop where
 len:3 ≤ mem.length
 m0:zab mem 0 = .cells (tbC t)
 m2:zab mem 2 = .cells [.fn (.func 9999999) [] [.ptr 1 0,.ptr 0 0,.ptr 2 0]]
 ok:∀ o ∈ mem,zb6 mem.length o
 m1:∃ f,zab mem 1 = .cells [f]
theorem LvM.set {t:Tb} {mem:List AObj} (h:LvM t mem) (l:List Int):LvM t (mem.set 1 (.cells [.sl (l.map EncE.cs) .no])):=by
 have h3:=h.len
 refine ⟨by simpa using h3,?_,?_,fun o ho => ?_,?_⟩
 ·rw [zaF _ _ _ _ (by omega),if_neg (by omega)]; exact h.m0
 ·rw [zaF _ _ _ _ (by omega),if_neg (by omega)]; exact h.m2
 ·rw [czt]
  rcases List.mem_or_eq_of_mem_set ho with q | q
  ·exact h.ok o q
  ·subst q
   simp [zbl,znq,zkJ]
 ·exact ⟨_,by rw [zaF _ _ _ _ (by omega),if_pos rfl]⟩
theorem LvM.push {t:Tb} {mem:List AObj} (h:LvM t mem) (n:Nat):LvM t (mem ++ [.tok n 1,.dead]):=by
 have h3:=h.len
 have key:∀ i,i < 3 → zab (mem ++ [.tok n 1,.dead]) i = zab mem i:=fun i hi => by
  unfold zab
  simp only [List.getD]
  rw [czi (by omega)]
 refine ⟨by simp; omega,by rw [key 0 (by omega)]; exact h.m0,by rw [key 2 (by omega)]; exact h.m2,fun o ho => ?_,by rw [key 1 (by omega)]; exact h.m1⟩
 rcases czv.1 ho with q | q
 ·exact zda (by simp) o (h.ok o q)
 ·simp at q
  rcases q with q | q <;> subst q <;> simp [zc5,zdl]
theorem zvZ (l:List Nat) (n:Nat):zcg (l ++ [n]) = zcg l ++ [(n:Int)]:=by simp [zcg]
end Go.Proofs
