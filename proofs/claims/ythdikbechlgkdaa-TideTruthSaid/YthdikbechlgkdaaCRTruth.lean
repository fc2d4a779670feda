/- The given statement TideTruth: for every value of its parameters the function returns true, and what it was given reads as before. No condition. -/
import Derived.Test.YthdikbechlgkdaaG13
import Derived.Test.YthdikbechlgkdaaG6
import Derived.Test.YthdikbechlgkdaaCLTruth
import Derived.WalkKit
import Derived.ProofKit
import Derived.OpenShut
set_option linter.all false
namespace Go.Proofs.Ythdikbechlgkdaa.tideTruth
open Go.ChangeShapes Go.WideShapes Go.ChangeAt Go.RowKit Go.Fs
set_option linter.unusedVariables false
set_option maxRecDepth 100000 in
theorem lifted (os : Os) (started : os.Started) (H : Type) (enc : TypeId × Value → H) :
    ReturnsInHanded {} Try.checked os 5 .any (Rows.tideTruthSpec.pre6 enc Try.prog Try.f5 Rows.tideTruthRow.domain false) (Rows.tideTruthSpec.post enc Try.prog Try.f5 false true false false) := by
  refine law_read (C := Try.checked) Go.Proofs.own started (by kernel_rfl) Try.func5
    (ChangeSpec.witness6 (enc := enc) (C := Try.checked) false ⟨#[], #[.agg #[.int .i64 0, .slice none 0 0, .int .i64 0, .slice none 0 0, .slice none 0 0], .int .u16 0, .slice none 0 0], []⟩ 8 (by kernel_rfl) (by kernel_rfl) (by kernel_rfl) (by kernel_rfl))
    rfl Go.Proofs.laidOut (by kernel_rfl) rfl Try.underlying4 ?_ (rdL_cons rdV_tb (rdL_cons (rdV_uk Try.underlying48) (rdL_cons (rdV_slice (rdE_uk Try.underlying48 (by kernel_rfl)) Try.underlying58) rdL_nil))) ?_
  · intro ds hds
    match ds, hds with
    | [d0, d1, d2], _ => exact ⟨rfl, rfl, rfl⟩
  · rintro avs ⟨a0, _, h0, ⟨a1, _, h1, ⟨a2, _, h2, rfl, rfl⟩, rfl⟩, rfl⟩
    exact TideTruth_true a0 a1 a2 h1 h2.1
theorem over : Rows.tideTruthRow.holds Try.pinned (OpenSpec.ofChange Rows.tideTruthSpec) :=
  OpenClaim.holds_of_wide 5 Try.f5 rfl rfl rfl rfl rfl rfl rfl ⟨rfl, rfl, rfl, rfl, rfl⟩ rfl rfl rfl rfl rfl (by kernel_rfl) Try.func5 (by kernel_rfl)
    (of_decide_eq_true (by kernel_rfl)) (by unfold Func.isWrapper; first | (rw [if_pos (by decide +kernel)]; kernel_rfl) | (rw [if_neg (by decide +kernel)]; exact ⟨rfl, rfl⟩))
    (fun os started H enc _ => lifted os started H enc)
theorem proved : Rows.TideTruthSaid :=
  over
#print axioms proved
end Go.Proofs.Ythdikbechlgkdaa.tideTruth
