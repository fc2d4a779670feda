/- Plain: lower heights; what has to be left out where there are no marks. -/
import Derived.Test.YtilbconikmpadaaGreatCH56
import Derived.Test.YtilbconikmpadaaGreatCH53
import Derived.Test.YtilbconikmpadaaGreatCH52
set_option linter.all false
namespace Go.Proofs
open Go.Fs
set_option maxHeartbeats 1000000
set_option maxRecDepth 8000
def zgP:List Int → List Int → List Int
 | x :: a,y :: b => min x y :: zgP a b
 | _,_ => []
theorem ziA:∀ {a b:List Int},a.length = b.length → (zgP a b).length = a.length
 | [],[],_ => rfl
 | x :: a,y :: b,h => by
  unfold zgP
  rw [cza,cza,ziA (by simpa using h)]
theorem zo8:∀ (a b:List Int),zgP a b = zgP b a
 | [],[] => rfl
 | [],_ :: _ => rfl
 | _ :: _,[] => rfl
 | x :: a,y :: b => by
  unfold zgP
  rw [zo8 a b,Int.min_comm]
theorem zrV:∀ {a b:List Int} {i:Nat},i < a.length → a.length = b.length → at_ (zgP a b) i = min (at_ a i) (at_ b i)
 | [],_,_,h,_ => absurd h (Nat.not_lt_zero _)
 | x :: a,[],_,_,h => by simp at h
 | x :: a,y :: b,0,_,_ => rfl
 | x :: a,y :: b,i + 1,h,e => by
  have:=zrV (a:=a) (b:=b) (i:=i) (by simpa using h) (by simpa using e)
  exact this
theorem zl0 {a b:List Int} {i:Nat} (h:i < a.length) (e:a.length = b.length):(zgP a b).take (i + 1) = (zgP a b).take i ++ [min (at_ a i) (at_ b i)]:=by
 have hl:=ziA e
 rw [List.take_succ,← zrV h e]
 congr 1
 rw [czw (by omega)]
 simp [at_,List.getD,czw (show i < (zgP a b).length by omega)]
theorem ztZ {s:Int}:∀ {a b:List Int},a.length = b.length → zcu s a = true → zcu s b = true → zcu s (zgP a b) = true
 | [],[],_,_,_ => rfl
 | [x],[y],_,_,_ => rfl
 | x :: y :: a,z :: w :: b,e,h1,h2 => by
  have ih:=ztZ (s:=s) (a:=y :: a) (b:=w :: b) (by simpa using e)
  unfold zcu at h1 h2
  simp only [czl,decide_eq_true_eq] at h1 h2
  have ih:=ih h1.2 h2.2
  unfold zgP at ih
  unfold zgP
  unfold zgP
  unfold zcu
  simp only [czl,decide_eq_true_eq]
  exact ⟨by omega,ih⟩
 | [x],_ :: _ :: _,e,_,_ => by simp at e
 | _ :: _ :: _,[_],e,_,_ => by simp at e
theorem zip_low:∀ {a b:List Int} {hs:List Rg},a.length = b.length → (zgs a hs).all id = true → (zgs b hs).all id = true → (zgs (zgP a b) hs).all id = true
 | [],[],_,_,_,_ => rfl
 | x :: a,y :: b,[],_,_,_ => by simp [zgs]
 | x :: a,y :: b,r :: hs,e,h1,h2 => by
  have ih:=zip_low (a:=a) (b:=b) (hs:=hs) (by simpa using e)
  unfold zgs at h1 h2 ih ⊢
  unfold zgP
  simp only [List.zipWith_cons_cons,List.all_cons,czl,id,inB,decide_eq_true_eq] at h1 h2 ⊢
  exact ⟨by omega,ih h1.2 h2.2⟩
theorem zmL {t:Tb} {a b:List Int} (h1:za3 t a = true) (h2:za3 t b = true):za3 t (zgP a b) = true:=by
 have e1:=zbI h1
 have e2:=zbI h2
 unfold za3 at h1 h2 ⊢
 simp only [czl,decide_eq_true_eq] at h1 h2 ⊢
 exact ⟨zip_low (by omega) h1.1 h2.1,by rw [ziA (by omega)]; omega,ztZ (by omega) h1.2.2 h2.2.2⟩
theorem truth_low {y:Yd} (hv:VY y) (hm:y.t.marks = []) {a b:List Int} (h1:a ∈ zaC y.t) (h2:b ∈ zaC y.t):zgP a b ∈ zaC y.t:=by
 have k1:=zfx hv h1
 have k2:=zfx hv h2
 rw [zei hv.fok.vok]
 unfold zbE
 rw [zmL k1 k2,hm]
 rfl
theorem zrU {y:Yd} {o a b:List Int} {c:Int} (e:a.length = b.length) (ha:a.length = hrs y):∀ k,k < hrs y → ziZ y o (zgP a b) c k = true → ziZ y o a c k = true:=by
 intro k hk h
 unfold ziZ at h ⊢
 rw [czl,decide_eq_true_eq] at h ⊢
 rw [zrV (by omega) e] at h
 exact ⟨by omega,h.2⟩
theorem low_play {y:Yd} {o a b:List Int} (c:Int) (e:a.length = b.length) (ha:a.length = hrs y) :
  (zbG y o (zgP a b) c).wet ≤ (zbG y o a c).wet ∧ (zbG y o a c).rot ≤ (zbG y o (zgP a b) c).rot ∧ znz (zbG y o (zgP a b) c).free (zbG y o a c).free = true :=
 sy_mono (zrU e ha) (czf _) (Int.le_refl _)
theorem low_can {y:Yd} {o a b:List Int} {c:Int} {h:Nat} (e:a.length = b.length) (ha:a.length = hrs y) (hh:h < hrs y) (hc:zfO y o a c h = true):zfO y o (zgP a b) c h = true :=
 zpH (n:=hrs y) (zrU e ha) (zoG (czf _) (zrU e ha)) (Int.le_refl _) hh hc
def oneY (y:Yd) (h:Rg):Yd:={ y with hires:=[h] }
theorem one_ok {y:Yd} (hv:VY y) {h:Rg} (hh:h ∈ y.hires):VY (oneY y h) :=
 ⟨hv.c5,by show ([h]:List Rg).length ≤ 5; simp,hv.f,hv.tr,hv.h0,hv.h5,hv.ord,hv.ch,fun x hx => by rw [czC.1 hx]; exact hv.hi h hh⟩
theorem zmC {y:Yd} {i:Nat}:zaJ (oneY y (at_ y.hires i)) = [] ↔ ∀ p ∈ zaC y.t,zcx y p i = false:=by
 unfold zaJ
 rw [List.filter_eq_nil_iff]
 have key:∀ p,zcG (oneY y (at_ y.hires i)) p = zcx y p i:=fun p => by
  unfold zcG
  show (List.range 1).all _ = _
  rw [show List.range 1 = [0] from rfl,List.all_cons,List.all_nil,Bool.and_true]
  rfl
 constructor
 ·intro h p hp
  have:=h p hp
  rw [key] at this
  exact Bool.eq_false_iff.2 this
 ·intro h p hp
  rw [key,h p hp]
  exact Bool.false_ne_true
theorem zk3 {y:Yd} (hv:VY y) {a b:List Int} (h1:a ∈ zaC y.t) (h2:b ∈ zaC y.t) {k:Nat} (hk:k < y.hires.length) (h:zcx y a k = true):zcx y (zgP a b) k = true:=by
 have e1:=zfy hv h1
 have e2:=zfy hv h2
 have:=hv.hi _ (zbb hk)
 exact low_can (by omega) e1 (by unfold hrs; omega) h
theorem zrS {y:Yd} (hv:VY y) (hm:y.t.marks = []):∃ ls:List Nat,zf0 y = (zbQ ls,0) ∧ ls.length ≤ y.hires.length ∧ ∀ i:Nat,i < y.hires.length → (zbQ ls).contains (i:Int) = decide (zaJ (oneY y (at_ y.hires i)) = []):=by
 obtain ⟨ls,e,hl⟩:=zdZ (psY hv)
 refine ⟨ls,by rw [ziI hv,e],zr6 hl.inc,fun i hi => ?_⟩
 rw [mem_castL,decide_eq_decide]
 obtain ⟨p,hp,hr⟩:=hl.poss
 constructor
 ·intro hin
  apply Classical.byContradiction
  intro hne
  rw [zmC] at hne
  obtain ⟨q,hne2⟩:=Classical.not_forall.1 hne
  obtain ⟨hq,hqr⟩:=Classical.not_imp.1 hne2
  rw [Bool.not_eq_false] at hqr
  have hlow:=hl.least (ls.filter fun k => decide (k ≠ i)) (zmP (List.Pairwise.filter _ hl.inc.pair) fun x hx => hl.inc.mem x (List.mem_filter.1 hx).1)
   ⟨zgP p q,truth_low hv hm hp hq,fun k hk hS => by
    by_cases c:k = i
    ·subst c
     rw [zo8]
     exact zk3 hv hq hp hk hqr
    ·refine zk3 hv hp hq hk (hr k hk fun hin2 => hS (List.mem_filter.2 ⟨hin2,by simpa using c⟩))⟩
  have h1:=zfU hlow
  have h2:(ls.filter fun k => decide (k ≠ i)).length < ls.length:=by
   apply Classical.byContradiction
   intro q2
   have h3:(ls.filter fun k => decide (k ≠ i)).length = ls.length:=Nat.le_antisymm (List.length_filter_le _ _) (by omega)
   have:=List.length_filter_eq_length_iff.1 h3 i hin
   simp at this
  omega
 ·intro h
  rw [zmC] at h
  apply Classical.byContradiction
  intro q
  have:=hr i hi q
  rw [h p hp] at this
  cases this
theorem zrT {y:Yd} (hv:VY y) {i:Nat} (hi:i < y.hires.length):(zaJ (oneY y (at_ y.hires i)) = [] ∧ ∃ m:Nat,zeE (oneY y (at_ y.hires i)) = ((m:Int),0)) ∨ (zaJ (oneY y (at_ y.hires i)) ≠ [] ∧ zeE (oneY y (at_ y.hires i)) = (0,7)):=by
 have h1:=one_ok hv (zbb hi)
 by_cases c:zaJ (oneY y (at_ y.hires i)) = []
 ·rcases zsh h1 with ⟨_,h⟩ | ⟨m,_,h,_⟩
  ·exact absurd c h
  ·exact .inl ⟨c,m,h⟩
 ·exact .inr ⟨c,zlk h1 c⟩
end Go.Proofs
