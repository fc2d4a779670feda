/- Plain: a chair alone that needs no hour to dry. -/
import Derived.Test.YtilbconikmpadaaGreatCH55
import Derived.Test.YtilbconikmpadaaGreatCH53
set_option linter.all false
namespace Go.Proofs
open Go.Fs
set_option maxHeartbeats 1000000
set_option maxRecDepth 8000
def zbM (t:Tb) (k:Int):Yd:=⟨t,0,[⟨k,0,9⟩],[],[]⟩
theorem soak_ok {t:Tb} (hf:zbl t = 0) (ht:zaC t ≠ []) {k:Int} (h0:0 ≤ k) (h1:k < t.levels.length):VY (zbM t k) :=
 ⟨by show ([_]:List Ch).length ≤ 5; simp,by show ([]:List Rg).length ≤ 5; simp,hf,ht,Int.le_refl _,by show (0:Int) ≤ 5; omega,ziq _,fun c hc => by
  rw [czC.1 hc]
  exact ⟨⟨h0,h1⟩,⟨Int.le_refl _,by show (0:Int) ≤ 5; omega⟩,by show (1:Int) ≤ 9; omega,Int.le_refl _⟩,fun h hh => by cases hh⟩
theorem soak_bad {t:Tb} (hf:zbl t = 0) (ht:zaC t = []) (k:Int):zbB (zbM t k) = 11:=by
 unfold zbB
 rw [if_neg (by show ¬ (5 < ([_]:List Ch).length ∨ 5 < ([]:List Rg).length); simp),if_neg (by show ¬ zbl t ≠ 0; simp [hf]),if_pos (show zaC (zbM t k).t = [] from ht)]
theorem zhI (t:Tb) (k:Int):zaJ (zbM t k) = zaC t:=by
 unfold zaJ
 exact List.filter_eq_self.2 fun p _ => rfl
def zmt (p:List Int) (l:Int) (h:Nat):Bool:=decide (l < at_ p h)
def zl7 (W:Nat → Bool) (n:Nat):Nat:=((List.range n).filter W).length
theorem soak_wet (t:Tb) (k:Int) (p:List Int):ziZ (zbM t k) [] p 0 = zmt p (at_ t.levels k.toNat):=funext fun h => znd _ _ _ h
theorem ztG {t:Tb} {k:Int} {p:List Int} (h7:t.last ≤ 7):znt (zbM t k) [] p 0 = hrs (zbM t k):=by
 show zgn _ (9:Int).toNat _ = _
 unfold zgn
 rw [show (9:Int).toNat = 9 from rfl,zib _ (by show (t.last + 1).toNat < 9; omega)]
 rfl
theorem zj7 {t:Tb} {k:Int} {p:List Int} (h7:t.last ≤ 7) {h:Nat} (hh:h < hrs (zbM t k)):zfO (zbM t k) [] p 0 h = !zmt p (at_ t.levels k.toNat) h:=by
 unfold zfO
 rw [ztG h7,soak_wet]
 unfold zl8
 have:=(zkg (zmt p (at_ t.levels k.toNat)) h).2
 rw [decide_eq_true hh,Bool.true_and]
 have h2:(decide (zd0 (zmt p (at_ t.levels k.toNat)) h < 0) || decide ((at_ (zbM t k).chairs (0:Int).toNat).hours < h - zd0 (zmt p (at_ t.levels k.toNat)) h)) = true:=by
  rw [czI,decide_eq_true_eq,decide_eq_true_eq]
  exact .inr (by show (0:Int) < _; omega)
 rw [h2,Bool.and_true]
theorem zul (W:Nat → Bool):∀ n,zl7 W n + zl7 (fun h => !W h) n = n
 | 0 => rfl
 | n + 1 => by
  have ih:=zul W n
  unfold zl7 at ih ⊢
  rw [List.range_succ,List.filter_append,List.filter_append,czc,czc]
  cases c:W n <;> simp [c] <;> omega
theorem zlr {W V:Nat → Bool}:∀ n,(∀ h,h < n → W h = true → V h = true) → zl7 W n ≤ zl7 V n
 | 0,_ => czf _
 | n + 1,h => by
  have ih:=zlr n fun k hk => h k (by omega)
  have hn:=h n (by omega)
  unfold zl7 at ih ⊢
  rw [List.range_succ,List.filter_append,List.filter_append,czc,czc]
  cases c:W n <;> cases d:V n <;> simp [c,d] at hn ⊢ <;> omega
theorem zou {t:Tb} {k:Int} {p:List Int} (h7:t.last ≤ 7):(zbG (zbM t k) [] p 0).free.length = zl7 (fun h => !zmt p (at_ t.levels k.toNat) h) (hrs (zbM t k)):=by
 rw [zi5]
 unfold zfH zl7
 rw [czz]
 congr 1
 apply List.filter_congr
 intro h hh
 exact zj7 h7 (List.mem_range.1 hh)
theorem row_len {p:List Int} {l:Int}:(zd5 p l).length = zl7 (zmt p l) p.length:=by
 unfold zd5 zjr zl7
 rw [czz]
 rfl
def turnN (v:Int):Int:=if v = 1 then 2 else if v = 2 then 1 else 3
theorem soak_turn {t:Tb} {k:Int} (h7:t.last ≤ 7) (ht:zaC t ≠ []) {h:Nat} (hh:h < hrs (zbM t k)):zdR (zbM t k) (zaC t) [] 0 h = turnN (zdj (zaC t) (at_ t.levels k.toNat) h):=by
 obtain ⟨w1,w2⟩:=zks (zaC t) (at_ t.levels k.toNat) h
 have hc:∀ p:List Int,zfO (zbM t k) [] p 0 h = !zmt p (at_ t.levels k.toNat) h:=fun p => zj7 h7 hh
 have hpos:(0:Int) < (zaC t).length:=by have:=List.length_pos_iff.2 ht; omega
 have m1:=zgO (fun hs => zfO (zbM t k) [] hs 0 h) (zaC t)
 have m2:=zhi (fun hs => zfO (zbM t k) [] hs 0 h) (zaC t)
 have m1':zkZ (fun hs => zfO (zbM t k) [] hs 0 h) (zaC t) = (zaC t).length ↔ zdq (zaC t) (at_ t.levels k.toNat) h = 0:=by
  rw [m1,w2]
  constructor
  ·intro q p hp
   have:=q p hp
   rw [hc] at this
   simpa [zmt] using this
  ·intro q p hp
   rw [hc]
   simpa [zmt] using q p hp
 have m2':zkZ (fun hs => zfO (zbM t k) [] hs 0 h) (zaC t) = 0 ↔ zdq (zaC t) (at_ t.levels k.toNat) h = (zaC t).length:=by
  rw [m2,w1]
  constructor
  ·intro q p hp
   have:=q p hp
   rw [hc] at this
   simpa [zmt] using this
  ·intro q p hp
   rw [hc]
   simpa [zmt] using q p hp
 have v1:zdq (zaC t) (at_ t.levels k.toNat) h = (zaC t).length → zdj (zaC t) (at_ t.levels k.toNat) h = 1:=fun c => by unfold zdj; rw [czF,if_pos c]
 have v2:zdq (zaC t) (at_ t.levels k.toNat) h ≠ (zaC t).length → zdq (zaC t) (at_ t.levels k.toNat) h = 0 → zdj (zaC t) (at_ t.levels k.toNat) h = 2:=fun c d => by unfold zdj; rw [czF,if_neg c,if_pos d]
 have v3:zdq (zaC t) (at_ t.levels k.toNat) h ≠ (zaC t).length → zdq (zaC t) (at_ t.levels k.toNat) h ≠ 0 → zdj (zaC t) (at_ t.levels k.toNat) h = 3:=fun c d => by unfold zdj; rw [czF,if_neg c,if_neg d]
 unfold zdR
 rw [czF]
 by_cases c1:zdq (zaC t) (at_ t.levels k.toNat) h = (zaC t).length
 ·rw [v1 c1,if_neg (by rw [m2'.2 c1]; omega),if_pos (m2'.2 c1)]
  rfl
 ·by_cases c2:zdq (zaC t) (at_ t.levels k.toNat) h = 0
  ·rw [v2 c1 c2,if_pos (m1'.2 c2)]
   rfl
  ·rw [v3 c1 c2,if_neg (fun q => c2 (m1'.1 q)),if_neg (fun q => c1 (m2'.1 q))]
   rfl
def cntD (Q:Nat → Bool) (n:Nat):Nat → Nat
 | 0 => 0
 | i + 1 => if Q (n - 1 - i) then cntD Q n i + 1 else cntD Q n i
theorem zsC (Q:Nat → Bool) (n:Nat):∀ i,cntD Q n i ≤ i
 | 0 => czf _
 | i + 1 => by
  have:=zsC Q n i
  unfold cntD
  split <;> omega
theorem zum (Q:Nat → Bool) (n:Nat):∀ i,i ≤ n → cntD Q n i + zl7 Q (n - i) = zl7 Q n
 | 0,_ => by simp [cntD]
 | i + 1,h => by
  have ih:=zum Q n i (by omega)
  have e:n - i = (n - 1 - i) + 1:=by omega
  rw [e] at ih
  have e2:n - (i + 1) = n - 1 - i:=by omega
  rw [e2]
  unfold cntD
  unfold zl7 at ih ⊢
  rw [List.range_succ,List.filter_append,czc] at ih
  cases c:Q (n - 1 - i) <;> simp [c] at ih ⊢ <;> omega
theorem zun (Q:Nat → Bool) (n:Nat):cntD Q n n = zl7 Q n:=by
 have:=zum Q n n (czf _)
 rw [Nat.sub_self] at this
 simpa [zl7] using this
def fstD (W:Nat → Bool) (n:Nat):Nat → Int
 | 0 => n
 | i + 1 => if W (n - 1 - i) then ((n - 1 - i:Nat):Int) else fstD W n i
theorem zps (W:Nat → Bool) (n:Nat):∀ i,i ≤ n → (∀ h,n - i ≤ h → h < n → W h = true → fstD W n i ≤ h) ∧ (fstD W n i = n ∨ ∃ h:Nat,h < n ∧ W h = true ∧ fstD W n i = h)
 | 0,_ => ⟨fun h h1 h2 => by omega,.inl rfl⟩
 | i + 1,hi => by
  obtain ⟨h1,h2⟩:=zps W n i (by omega)
  unfold fstD
  cases c:W (n - 1 - i)
  ·simp only [czp,if_false]
   refine ⟨fun h a b w => ?_,h2⟩
   by_cases q:h = n - 1 - i
   ·rw [q,c] at w; cases w
   ·exact h1 h (by omega) b w
  ·simp only [if_true]
   refine ⟨fun h a b w => by omega,.inr ⟨n - 1 - i,by omega,c,rfl⟩⟩
theorem zne {s:List Int} {a x:Int}:x ∈ zd5 s a ↔ ∃ n:Nat,n < s.length ∧ a < at_ s n ∧ x = n:=by
 unfold zd5 zjr
 simp only [czx,List.mem_filter,List.mem_range,decide_eq_true_eq]
 constructor
 ·rintro ⟨h,⟨h1,h2⟩,rfl⟩; exact ⟨h,h1,h2,rfl⟩
 ·rintro ⟨h,h1,h2,rfl⟩; exact ⟨h,⟨h1,h2⟩,rfl⟩
theorem wet_pair8 (s:List Int) (a:Int):(zd5 s a).Pairwise (· < ·):=by
 unfold zd5 zjr
 rw [List.pairwise_map]
 exact (List.Pairwise.filter _ List.pairwise_lt_range).imp fun h => by omega
theorem fstD_soon (p:List Int) (l:Int):fstD (zmt p l) p.length p.length = zdz p l:=by
 obtain ⟨h1,h2⟩:=zps (zmt p l) p.length p.length (czf _)
 have hle:fstD (zmt p l) p.length p.length ≤ p.length:=by
  rcases h2 with h | ⟨h,a,_,b⟩ <;> omega
 unfold zdz
 cases hw:zd5 p l with
 | nil =>
  simp only
  rcases h2 with h | ⟨h,a,b,e⟩
  ·exact h
  ·have:(h:Int) ∈ zd5 p l:=zne.2 ⟨h,a,by simpa [zmt] using b,rfl⟩
   rw [hw] at this; cases this
 | cons x r =>
  simp only
  have hx:x ∈ zd5 p l:=by rw [hw]; simp
  obtain ⟨n,k1,k2,k3⟩:=zne.1 hx
  have a1:=h1 n (by omega) k1 (by simpa [zmt] using k2)
  rcases h2 with h | ⟨h,a,b,e⟩
  ·omega
  ·have hi2:(h:Int) ∈ zd5 p l:=zne.2 ⟨h,a,by simpa [zmt] using b,rfl⟩
   have hp:=wet_pair8 p l
   rw [hw] at hi2 hp
   rcases czn.1 hi2 with q | q
   ·omega
   ·have:=(List.pairwise_cons.1 hp).1 _ q
    omega
theorem zkE {t:Tb} {k:Int} (h7:t.last ≤ 7) (ht:zaC t ≠ []) {p:List Int} (hp:p ∈ zaC t) :
  zl7 (fun h => decide (zdR (zbM t k) (zaC t) [] 0 (h:Int) = 1)) (hrs (zbM t k)) ≤ (zbG (zbM t k) [] p 0).free.length ∧
  (zbG (zbM t k) [] p 0).free.length ≤ zl7 (fun h => decide (zdR (zbM t k) (zaC t) [] 0 (h:Int) ≠ 2)) (hrs (zbM t k)):=by
 rw [zou h7]
 constructor
 ·refine zlr _ fun h hh hc => ?_
  rw [decide_eq_true_eq] at hc
  rcases zf3 (y:=zbM t k) (o:=[]) (c:=0) (k:=(h:Int)) ht with ⟨_,q⟩ | ⟨e,_⟩ | e
  ·have:=q p hp
   rw [czF,zj7 h7 hh] at this
   exact this
  ·omega
  ·omega
 ·refine zlr _ fun h hh hc => ?_
  rw [decide_eq_true_eq]
  intro e
  rcases zf3 (y:=zbM t k) (o:=[]) (c:=0) (k:=(h:Int)) ht with ⟨e2,_⟩ | ⟨_,q⟩ | e2
  ·omega
  ·have:=q p hp
   rw [czF,zj7 h7 hh] at this
   rw [this] at hc
   cases hc
  ·omega
theorem zvy {t:Tb} {k:Int} (h7:t.last ≤ 7) (ht:zaC t ≠ []) (hv:VY (zbM t k)) :
  ((zl7 (fun h => decide (zdR (zbM t k) (zaC t) [] 0 (h:Int) = 1)) (hrs (zbM t k)):Nat):Int) ≤ (zeG (zbM t k) (zaC t) [] 0).lo ∧
  (zeG (zbM t k) (zaC t) [] 0).hi ≤ ((zl7 (fun h => decide (zdR (zbM t k) (zaC t) [] 0 (h:Int) ≠ 2)) (hrs (zbM t k)):Nat):Int):=by
 have hty:zaJ (zbM t k) ≠ []:=by rw [zhI]; exact ht
 have hb:=zen hv hty .free [] (c:=0) (Int.le_refl _) (by show (0:Int) < 1; omega)
 rw [zgS hv hty [] (Int.le_refl _) (by show (0:Int) < 1; omega),zhI] at hb
 obtain ⟨p,hp,e1⟩:=hb.lo
 obtain ⟨q,hq,e2⟩:=hb.hi
 have h1:=(zkE (k:=k) h7 ht hp).1
 have h2:=(zkE (k:=k) h7 ht hq).2
 have f1:(((zbG (zbM t k) [] p 0).free.length:Nat):Int) = (zeG (zbM t k) (zaC t) [] 0).lo:=e1
 have f2:(((zbG (zbM t k) [] q 0).free.length:Nat):Int) = (zeG (zbM t k) (zaC t) [] 0).hi:=e2
 omega
end Go.Proofs
