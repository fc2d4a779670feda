/- Plain: less water, and what a stay tells. -/
import Derived.Test.YtilbconikmpadaaGreatCH54
import Derived.Test.YtilbconikmpadaaGreatG21
set_option linter.all false
namespace Go.Proofs
open Go.Fs
set_option maxHeartbeats 1000000
set_option maxRecDepth 8000
theorem part_of {l o:List Int} (h:∀ x ∈ o,x ∈ l):znz l o = true:=by
 unfold znz
 rw [czG]
 intro x hx
 rw [List.contains_iff_mem]
 exact h x hx
theorem sy_mono {W V:Nat → Bool} {a b:Ch} {n:Nat} (h:∀ k,k < n → W k = true → V k = true) (hr:b.rot.toNat ≤ a.rot.toNat) (hh:a.hours ≤ b.hours) :
  (syW W a n).wet ≤ (syW V b n).wet ∧ (syW V b n).rot ≤ (syW W a n).rot ∧ znz (syW W a n).free (syW V b n).free = true:=by
 have hR:=zoG (n:=n) hr h
 refine ⟨zpC n h,by show ((zgn V _ n:Nat):Int) ≤ ((zgn W _ n:Nat):Int); omega,part_of fun x hx => ?_⟩
 obtain ⟨k,h1,h2,h3⟩:=zgN.1 hx
 exact zgN.2 ⟨k,h1,zpH h hR hh h1 h2,h3⟩
theorem zmk {W:Nat → Bool} {c:Ch} {n:Nat} {x:Int} (h:x ∈ (syW W c n).free):x < (syW W c n).rot:=by
 obtain ⟨k,h1,h2,h3⟩:=zgN.1 h
 unfold zl8 at h2
 simp only [czl,decide_eq_true_eq] at h2
 show x < ((zgn W c.rot.toNat n:Nat):Int)
 omega
theorem at_mapL {f:Int → List Int} {l:List Int} {i:Nat} (h:i < l.length):(l.map f).getD i [] = f (at_ l i):=by
 simp [at_,List.getD,h]
theorem in_nil (a c:Int) (h:Nat):inY a [] c h = false:=by unfold inY; rw [List.take_nil]; rfl
theorem znd (y:Yd) (t:List Int) (c:Int) (h:Nat):ziZ y [] t c h = decide (lvY y c < at_ t h):=by unfold ziZ; rw [in_nil,Bool.not_false,Bool.and_true]
theorem sy_row {y:Yd} {t:List Int} (hl:t.length = hrs y) (c:Int):(zbG y [] t c).wet = ((zd5 t (lvY y c)).length:Nat) ∧ ∀ x ∈ (zbG y [] t c).free,(zd5 t (lvY y c)).contains x = false:=by
 constructor
 ·show zl6 (ziZ y [] t c) (hrs y) = _
  unfold zl6 zd5 zjr
  rw [czz,hl]
  rw [show ziZ y [] t c = fun h => decide (lvY y c < at_ t h) from funext fun h => znd y t c h]
 ·intro x hx
  obtain ⟨k,h1,h2,h3⟩:=zgN.1 hx
  unfold zl8 at h2
  rw [znd] at h2
  simp only [czl,Bool.not_eq_true'] at h2
  rw [Bool.eq_false_iff]
  intro q
  rw [List.contains_iff_mem] at q
  unfold zd5 zjr at q
  obtain ⟨j,hj,e⟩:=czx.1 q
  rw [List.mem_filter] at hj
  have:j = k:=by omega
  subst this
  rw [h2.1] at hj
  cases hj.2
theorem zmu (r:Nat) (hr:1 ≤ r):∀ n,zeP (fun _ => false) r n = none
 | 0 => rfl
 | n + 1 => by
  unfold zeP
  rw [zmu r hr n]
  have:zlT (fun _ => false) r n = false:=by
   unfold zlT
   obtain ⟨k,rfl⟩:∃ k,r = k + 1:=⟨r - 1,by omega⟩
   rw [List.range_succ_eq_map]
   rfl
  simp [this]
theorem zla:∀ n,zd0 (fun _ => false) n = -1
 | 0 => rfl
 | n + 1 => by
  unfold zd0
  rw [if_neg (by simp)]
  exact zla n
theorem sy_dry {y:Yd} {t:List Int} {c:Int} (hh:1 ≤ y.hands) (hr:1 ≤ (at_ y.chairs c.toNat).rot):(zbG y [c] t c).wet = 0 ∧ (zbG y [c] t c).rot = (hrs y:Nat) ∧ (zbG y [c] t c).free.length = hrs y:=by
 have hw:ziZ y [c] t c = fun _ => false:=by
  funext h
  have:inY y.hands [c] c h = true:=by
   unfold inY
   have h1:1 ≤ (y.hands * ((h:Int) + 1)).toNat:=by
    have:=Int.mul_le_mul_of_nonneg_right hh (show 0 ≤ (h:Int) + 1 by omega)
    omega
   obtain ⟨k,ek⟩:∃ k,(y.hands * ((h:Int) + 1)).toNat = k + 1:=⟨_,(Nat.sub_add_cancel h1).symm⟩
   rw [ek,List.take_succ_cons]
   simp
  unfold ziZ
  rw [this,Bool.not_true,Bool.and_false]
 have hrot:zgn (fun _ => false) (at_ y.chairs c.toNat).rot.toNat (hrs y) = hrs y:=by
  unfold zgn
  rw [zmu _ (by omega)]
  rfl
 have hp:zbG y [c] t c = syW (fun _ => false) (at_ y.chairs c.toNat) (hrs y):=by unfold zbG; rw [hw]
 rw [hp]
 refine ⟨?_,?_,?_⟩
 ·show zl6 (fun _ => false) (hrs y) = 0
  unfold zl6
  simp
 ·show ((zgn (fun _ => false) _ (hrs y):Nat):Int) = _
  rw [hrot]
 ·show (zfH (fun _ => false) (zgn (fun _ => false) _ (hrs y)) _ (hrs y)).length = _
  rw [hrot]
  unfold zfH
  rw [czz,List.filter_eq_self.2,List.length_range]
  intro k hk
  rw [List.mem_range] at hk
  unfold zl8
  rw [zla]
  simp [hk]
theorem sy_order (y:Yd) (o t:List Int) (c:Int):(zbG y o t c).wet ≤ (zbG y [] t c).wet ∧ (zbG y [] t c).rot ≤ (zbG y o t c).rot ∧ znz (zbG y o t c).free (zbG y [] t c).free = true :=
 sy_mono (fun k _ h => by
  rw [znd]
  unfold ziZ at h
  rw [czl] at h
  exact h.1) (czf _) (Int.le_refl _)
end Go.Proofs
