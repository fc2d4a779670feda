/- The given statement ShelterOrder: for every value of its parameters the function returns true, and what it was given reads as before. No condition. -/
import Derived.Test.YtfdnifofpkceiaaG14
import Derived.Test.YtfdnifofpkceiaaG6
import Derived.Test.YtfdnifofpkceiaaCLOrder
import Derived.WalkKit
import Derived.ProofKit
import Derived.OpenShut
set_option linter.all false
namespace Go.Proofs.Ytfdnifofpkceiaa.shelterOrder
open Go.ChangeShapes Go.WideShapes Go.ChangeAt Go.RowKit Go.Fs
set_option linter.unusedVariables false
set_option maxRecDepth 100000 in
theorem lifted (os : Os) (started : os.Started) (H : Type) (enc : TypeId × Value → H) :
    ReturnsInHanded {} Try.checked os 4 .any (Rows.shelterOrderSpec.pre6 enc Try.prog Try.f4 Rows.shelterOrderRow.domain false) (Rows.shelterOrderSpec.post enc Try.prog Try.f4 false true false false) := by
  refine law_read (C := Try.checked) Go.Proofs.own started (by kernel_rfl) Try.func4
    (ChangeSpec.witness6 (enc := enc) (C := Try.checked) false ⟨#[], #[.agg #[.slice none 0 0, .int .i64 0, .int .i64 0, .int .i64 0], .int .u8 0, .int .u8 0], []⟩ 8 (by kernel_rfl) (by kernel_rfl) (by kernel_rfl) (by kernel_rfl))
    rfl Go.Proofs.laidOut (by kernel_rfl) rfl Try.underlying4 ?_ (rdL_cons rdV_sh (rdL_cons (rdV_uk Try.underlying5) (rdL_cons (rdV_uk Try.underlying5) rdL_nil))) ?_
  · intro ds hds
    match ds, hds with
    | [d0, d1, d2], _ => exact ⟨rfl, rfl, rfl⟩
  · rintro avs ⟨a0, _, h0, ⟨a1, _, h1, ⟨a2, _, h2, rfl, rfl⟩, rfl⟩, rfl⟩
    exact ShelterOrder_true a0 a1.n a2.n h1 h2
theorem over : Rows.shelterOrderRow.holds Try.pinned (OpenSpec.ofChange Rows.shelterOrderSpec) :=
  OpenClaim.holds_of_wide 4 Try.f4 rfl rfl rfl rfl rfl rfl rfl ⟨rfl, rfl, rfl, rfl, rfl⟩ rfl rfl rfl rfl rfl (by kernel_rfl) Try.func4 (by kernel_rfl)
    (of_decide_eq_true (by kernel_rfl)) (by unfold Func.isWrapper; first | (rw [if_pos (by decide +kernel)]; kernel_rfl) | (rw [if_neg (by decide +kernel)]; exact ⟨rfl, rfl⟩))
    (fun os started H enc _ => lifted os started H enc)
theorem proved : Rows.ShelterOrderSaid :=
  over
#print axioms proved
end Go.Proofs.Ytfdnifofpkceiaa.shelterOrder
