/- The given statement ShelterTwice: for every value of its parameters the function returns true, and what it was given reads as before. No condition. -/
import Derived.Test.YtcbicheohgdlmaaG14
import Derived.Test.YtcbicheohgdlmaaG6
import Derived.Test.YtcbicheohgdlmaaCLTwice
import Derived.WalkKit
import Derived.ProofKit
import Derived.OpenShut
set_option linter.all false
namespace Go.Proofs.Ytcbicheohgdlmaa.shelterTwice
open Go.ChangeShapes Go.WideShapes Go.ChangeAt Go.RowKit Go.Fs
set_option linter.unusedVariables false
set_option maxRecDepth 100000 in
theorem lifted (os : Os) (started : os.Started) (H : Type) (enc : TypeId × Value → H) :
    ReturnsInHanded {} Try.checked os 12 .any (Rows.shelterTwiceSpec.pre6 enc Try.prog Try.f12 Rows.shelterTwiceRow.domain false) (Rows.shelterTwiceSpec.post enc Try.prog Try.f12 false true false false) := by
  refine law_read (C := Try.checked) Go.Proofs.own started (by kernel_rfl) Try.func12
    (ChangeSpec.witness6 (enc := enc) (C := Try.checked) false ⟨#[], #[.agg #[.slice none 0 0, .int .i64 0, .int .i64 0, .int .i64 0]], []⟩ 8 (by kernel_rfl) (by kernel_rfl) (by kernel_rfl) (by kernel_rfl))
    rfl Go.Proofs.laidOut (by kernel_rfl) rfl Try.underlying4 ?_ (rdL_cons rdV_sh rdL_nil) ?_
  · intro ds hds
    match ds, hds with
    | [d0], _ => exact ⟨rfl, rfl, rfl⟩
  · rintro avs ⟨a0, _, h0, rfl, rfl⟩
    exact ShelterTwice_true a0 
theorem over : Rows.shelterTwiceRow.holds Try.pinned (OpenSpec.ofChange Rows.shelterTwiceSpec) :=
  OpenClaim.holds_of_wide 12 Try.f12 rfl rfl rfl rfl rfl rfl rfl ⟨rfl, rfl, rfl, rfl, rfl⟩ rfl rfl rfl rfl rfl (by kernel_rfl) Try.func12 (by kernel_rfl)
    (of_decide_eq_true (by kernel_rfl)) (by unfold Func.isWrapper; first | (rw [if_pos (by decide +kernel)]; kernel_rfl) | (rw [if_neg (by decide +kernel)]; exact ⟨rfl, rfl⟩))
    (fun os started H enc _ => lifted os started H enc)
theorem proved : Rows.ShelterTwiceSaid :=
  over
#print axioms proved
end Go.Proofs.Ytcbicheohgdlmaa.shelterTwice
