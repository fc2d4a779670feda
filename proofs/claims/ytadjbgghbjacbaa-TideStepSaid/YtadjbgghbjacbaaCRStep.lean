/- The given statement TideStep: for every value of its parameters the function returns true, and what it was given reads as before. No condition. -/
import Derived.Test.YtadjbgghbjacbaaG13
import Derived.Test.YtadjbgghbjacbaaG6
import Derived.Test.YtadjbgghbjacbaaCLStep
import Derived.WalkKit
import Derived.ProofKit
import Derived.OpenShut
set_option linter.all false
namespace Go.Proofs.Ytadjbgghbjacbaa.tideStep
open Go.ChangeShapes Go.WideShapes Go.ChangeAt Go.RowKit Go.Fs
set_option linter.unusedVariables false
set_option maxRecDepth 100000 in
theorem lifted (os : Os) (started : os.Started) (H : Type) (enc : TypeId × Value → H) :
    ReturnsInHanded {} Try.checked os 17 .any (Rows.tideStepSpec.pre6 enc Try.prog Try.f17 Rows.tideStepRow.domain false) (Rows.tideStepSpec.post enc Try.prog Try.f17 false true false false) := by
  refine law_read (C := Try.checked) Go.Proofs.own started (by kernel_rfl) Try.func17
    (ChangeSpec.witness6 (enc := enc) (C := Try.checked) false ⟨#[], #[.agg #[.int .i64 0, .slice none 0 0, .int .i64 0, .slice none 0 0, .slice none 0 0], .int .u16 0, .int .u8 0, .int .u8 0, .int .u8 0], []⟩ 8 (by kernel_rfl) (by kernel_rfl) (by kernel_rfl) (by kernel_rfl))
    rfl Go.Proofs.laidOut (by kernel_rfl) rfl Try.underlying4 ?_ (rdL_cons rdV_tb (rdL_cons (rdV_uk Try.underlying66) (rdL_cons (rdV_uk Try.underlying5) (rdL_cons (rdV_uk Try.underlying5) (rdL_cons (rdV_uk Try.underlying5) rdL_nil))))) ?_
  · intro ds hds
    match ds, hds with
    | [d0, d1, d2, d3, d4], _ => exact ⟨rfl, rfl, rfl⟩
  · rintro avs ⟨a0, _, h0, ⟨a1, _, h1, ⟨a2, _, h2, ⟨a3, _, h3, ⟨a4, _, h4, rfl, rfl⟩, rfl⟩, rfl⟩, rfl⟩, rfl⟩
    exact TideStep_true a0 a1.n a2.n a3.n a4.n h1 h2 h3 h4
theorem over : Rows.tideStepRow.holds Try.pinned (OpenSpec.ofChange Rows.tideStepSpec) :=
  OpenClaim.holds_of_wide 17 Try.f17 rfl rfl rfl rfl rfl rfl rfl ⟨rfl, rfl, rfl, rfl, rfl⟩ rfl rfl rfl rfl rfl (by kernel_rfl) Try.func17 (by kernel_rfl)
    (of_decide_eq_true (by kernel_rfl)) (by unfold Func.isWrapper; first | (rw [if_pos (by decide +kernel)]; kernel_rfl) | (rw [if_neg (by decide +kernel)]; exact ⟨rfl, rfl⟩))
    (fun os started H enc _ => lifted os started H enc)
theorem proved : Rows.TideStepSaid :=
  over
#print axioms proved
end Go.Proofs.Ytadjbgghbjacbaa.tideStep
