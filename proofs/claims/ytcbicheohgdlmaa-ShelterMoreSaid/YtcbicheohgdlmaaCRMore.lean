/- The given statement ShelterMore: for every value of its parameters the function returns true, and what it was given reads as before. No condition. -/
import Derived.Test.YtcbicheohgdlmaaG14
import Derived.Test.YtcbicheohgdlmaaG6
import Derived.Test.YtcbicheohgdlmaaCLMore
import Derived.WalkKit
import Derived.ProofKit
import Derived.OpenShut
set_option linter.all false
namespace Go.Proofs.Ytcbicheohgdlmaa.shelterMore
open Go.ChangeShapes Go.WideShapes Go.ChangeAt Go.RowKit Go.Fs
set_option linter.unusedVariables false
set_option maxRecDepth 100000 in
theorem lifted (os : Os) (started : os.Started) (H : Type) (enc : TypeId × Value → H) :
    ReturnsInHanded {} Try.checked os 7 .any (Rows.shelterMoreSpec.pre6 enc Try.prog Try.f7 Rows.shelterMoreRow.domain false) (Rows.shelterMoreSpec.post enc Try.prog Try.f7 false true false false) := by
  refine law_read (C := Try.checked) Go.Proofs.own started (by kernel_rfl) Try.func7
    (ChangeSpec.witness6 (enc := enc) (C := Try.checked) false ⟨#[], #[.agg #[.slice none 0 0, .int .i64 0, .int .i64 0, .int .i64 0], .agg #[.int .i64 0, .int .i64 0, .int .i64 0]], []⟩ 8 (by kernel_rfl) (by kernel_rfl) (by kernel_rfl) (by kernel_rfl))
    rfl Go.Proofs.laidOut (by kernel_rfl) rfl Try.underlying4 ?_ (rdL_cons rdV_sh (rdL_cons rdV_sk rdL_nil)) ?_
  · intro ds hds
    match ds, hds with
    | [d0, d1], _ => exact ⟨rfl, rfl, rfl⟩
  · rintro avs ⟨a0, _, h0, ⟨a1, _, h1, rfl, rfl⟩, rfl⟩
    exact ShelterMore_true a0 a1 h0.len
theorem over : Rows.shelterMoreRow.holds Try.pinned (OpenSpec.ofChange Rows.shelterMoreSpec) :=
  OpenClaim.holds_of_wide 7 Try.f7 rfl rfl rfl rfl rfl rfl rfl ⟨rfl, rfl, rfl, rfl, rfl⟩ rfl rfl rfl rfl rfl (by kernel_rfl) Try.func7 (by kernel_rfl)
    (of_decide_eq_true (by kernel_rfl)) (by unfold Func.isWrapper; first | (rw [if_pos (by decide +kernel)]; kernel_rfl) | (rw [if_neg (by decide +kernel)]; exact ⟨rfl, rfl⟩))
    (fun os started H enc _ => lifted os started H enc)
theorem proved : Rows.ShelterMoreSaid :=
  over
#print axioms proved
end Go.Proofs.Ytcbicheohgdlmaa.shelterMore
