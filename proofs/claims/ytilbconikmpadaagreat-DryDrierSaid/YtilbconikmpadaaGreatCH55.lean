/- Plain: less water, and what a stay tells. -/
import Derived.Test.YtilbconikmpadaaGreatCH54
import Derived.Test.YtilbconikmpadaaGreatG21
set_option linter.all false
namespace Go.Proofs
open Go.Fs
set_option maxHeartbeats 1000000
set_option maxRecDepth 8000
theorem part_of {l o:List Int} (h:∀ x ∈ o,x ∈ l):zng l o = true:=by
 unfold zng
 rw [czG]
 intro x hx
 rw [List.contains_iff_mem]
 exact h x hx
theorem sy_mono {W V:Nat → Bool} {a b:Ch} {n:Nat} (h:∀ k,k < n → W k = true → V k = true) (hr:b.rot.toNat ≤ a.rot.toNat) (hh:a.hours ≤ b.hours) :
  (syW W a n).wet ≤ (syW V b n).wet ∧ (syW V b n).rot ≤ (syW W a n).rot ∧ zng (syW W a n).free (syW V b n).free = true:=by
 have hR:=rotR_anti (n:=n) hr h
 refine ⟨znW n h,by show ((zhg V _ n:Nat):Int) ≤ ((zhg W _ n:Nat):Int); omega,part_of fun x hx => ?_⟩
 obtain ⟨k,h1,h2,h3⟩:=zjN.1 hx
 exact zjN.2 ⟨k,h1,canW_mono h hR hh h1 h2,h3⟩
end Go.Proofs
