/- The given statement ShelterLater: for every value of its parameters the function returns true, and what it was given reads as before. No condition. -/
import Derived.Test.YtfdnifofpkceiaaG14
import Derived.Test.YtfdnifofpkceiaaG6
import Derived.Test.YtfdnifofpkceiaaCLLater
import Derived.WalkKit
import Derived.ProofKit
import Derived.OpenShut
set_option linter.all false
namespace Go.Proofs.Ytfdnifofpkceiaa.shelterLater
open Go.ChangeShapes Go.WideShapes Go.ChangeAt Go.RowKit Go.Fs
set_option linter.unusedVariables false
set_option maxRecDepth 100000 in
theorem lifted (os : Os) (started : os.Started) (H : Type) (enc : TypeId × Value → H) :
    ReturnsInHanded {} Try.checked os 3 .any (Rows.shelterLaterSpec.pre6 enc Try.prog Try.f3 Rows.shelterLaterRow.domain false) (Rows.shelterLaterSpec.post enc Try.prog Try.f3 false true false false) := by
  refine law_read (C := Try.checked) Go.Proofs.own started (by kernel_rfl) Try.func3
    (ChangeSpec.witness6 (enc := enc) (C := Try.checked) false ⟨#[], #[.agg #[.slice none 0 0, .int .i64 0, .int .i64 0, .int .i64 0], .int .u8 0, .int .u8 0, .slice none 0 0], []⟩ 8 (by kernel_rfl) (by kernel_rfl) (by kernel_rfl) (by kernel_rfl))
    rfl Go.Proofs.laidOut (by kernel_rfl) rfl Try.underlying4 ?_ (rdL_cons rdV_sh (rdL_cons (rdV_uk Try.underlying5) (rdL_cons (rdV_uk Try.underlying5) (rdL_cons (rdV_slice (rdE_uk Try.underlying108 (by kernel_rfl)) Try.underlying27) rdL_nil)))) ?_
  · intro ds hds
    match ds, hds with
    | [d0, d1, d2, d3], _ => exact ⟨rfl, rfl, rfl⟩
  · rintro avs ⟨a0, _, h0, ⟨a1, _, h1, ⟨a2, _, h2, ⟨a3, _, h3, rfl, rfl⟩, rfl⟩, rfl⟩, rfl⟩
    exact ShelterLater_true a0 a1.n a2.n a3 h1 h2 h3.1
theorem over : Rows.shelterLaterRow.holds Try.pinned (OpenSpec.ofChange Rows.shelterLaterSpec) :=
  OpenClaim.holds_of_wide 3 Try.f3 rfl rfl rfl rfl rfl rfl rfl ⟨rfl, rfl, rfl, rfl, rfl⟩ rfl rfl rfl rfl rfl (by kernel_rfl) Try.func3 (by kernel_rfl)
    (of_decide_eq_true (by kernel_rfl)) (by unfold Func.isWrapper; first | (rw [if_pos (by decide +kernel)]; kernel_rfl) | (rw [if_neg (by decide +kernel)]; exact ⟨rfl, rfl⟩))
    (fun os started H enc _ => lifted os started H enc)
theorem proved : Rows.ShelterLaterSaid :=
  over
#print axioms proved
end Go.Proofs.Ytfdnifofpkceiaa.shelterLater
