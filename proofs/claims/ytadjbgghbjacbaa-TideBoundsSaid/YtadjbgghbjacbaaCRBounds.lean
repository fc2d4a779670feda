/- The given statement TideBounds: for every table, row and hour the function returns true, and what it was given reads as before. No condition. -/
import Derived.Test.YtadjbgghbjacbaaG13
import Derived.Test.YtadjbgghbjacbaaG6
import Derived.Test.YtadjbgghbjacbaaCLBounds
import Derived.WalkKit
import Derived.ProofKit
import Derived.OpenShut
set_option linter.all false
namespace Go.Proofs.Ytadjbgghbjacbaa.tideBounds
open Go.ChangeShapes Go.WideShapes Go.ChangeAt Go.RowKit Go.Fs
set_option linter.unusedVariables false
set_option maxRecDepth 100000 in
theorem lifted (os : Os) (started : os.Started) (H : Type) (enc : TypeId × Value → H) :
    ReturnsInHanded {} Try.checked os 3 .any (Rows.tideBoundsSpec.pre6 enc Try.prog Try.f3 Rows.tideBoundsRow.domain false) (Rows.tideBoundsSpec.post enc Try.prog Try.f3 false true false false) := by
  refine law_read (C := Try.checked) Go.Proofs.own started (by kernel_rfl) Try.func3
    (ChangeSpec.witness6 (enc := enc) (C := Try.checked) false ⟨#[], #[.agg #[.int .i64 0, .slice none 0 0, .int .i64 0, .slice none 0 0, .slice none 0 0], .int .i64 0, .int .i64 0], []⟩ 8 (by kernel_rfl) (by kernel_rfl) (by kernel_rfl) (by kernel_rfl))
    rfl Go.Proofs.laidOut (by kernel_rfl) rfl Try.underlying4 ?_ (rdL_cons rdV_tb (rdL_cons (rdV_int Try.underlying3) (rdL_cons (rdV_int Try.underlying3) rdL_nil))) ?_
  · intro ds hds
    match ds, hds with
    | [d1, d2, d3], _ => exact ⟨rfl, rfl, rfl⟩
  · rintro avs ⟨t, _, _, ⟨row, _, _, ⟨hour, _, _, rfl, rfl⟩, rfl⟩, rfl⟩
    exact TideBounds_true t row hour
theorem over : Rows.tideBoundsRow.holds Try.pinned (OpenSpec.ofChange Rows.tideBoundsSpec) :=
  OpenClaim.holds_of_wide 3 Try.f3 rfl rfl rfl rfl rfl rfl rfl ⟨rfl, rfl, rfl, rfl, rfl⟩ rfl rfl rfl rfl rfl (by kernel_rfl) Try.func3 (by kernel_rfl)
    (of_decide_eq_true (by kernel_rfl)) (by unfold Func.isWrapper; first | (rw [if_pos (by decide +kernel)]; kernel_rfl) | (rw [if_neg (by decide +kernel)]; exact ⟨rfl, rfl⟩))
    (fun os started H enc _ => lifted os started H enc)
theorem proved : Rows.TideBoundsSaid :=
  over
#print axioms proved
end Go.Proofs.Ytadjbgghbjacbaa.tideBounds
