/- The given statement ShelterNames: for every value of its parameters the function returns true, and what it was given reads as before. No condition. -/
import Derived.Test.YtfdnifofpkceiaaG14
import Derived.Test.YtfdnifofpkceiaaG6
import Derived.Test.YtfdnifofpkceiaaCLNames
import Derived.WalkKit
import Derived.ProofKit
import Derived.OpenShut
set_option linter.all false
namespace Go.Proofs.Ytfdnifofpkceiaa.shelterNames
open Go.ChangeShapes Go.WideShapes Go.ChangeAt Go.RowKit Go.Fs
set_option linter.unusedVariables false
set_option maxRecDepth 100000 in
theorem lifted (os : Os) (started : os.Started) (H : Type) (enc : TypeId × Value → H) :
    ReturnsInHanded {} Try.checked os 5 .any (Rows.shelterNamesSpec.pre6 enc Try.prog Try.f5 Rows.shelterNamesRow.domain false) (Rows.shelterNamesSpec.post enc Try.prog Try.f5 false true false false) := by
  refine law_read (C := Try.checked) Go.Proofs.own started (by kernel_rfl) Try.func5
    (ChangeSpec.witness6 (enc := enc) (C := Try.checked) false ⟨#[], #[], []⟩ 8 (by kernel_rfl) (by kernel_rfl) (by kernel_rfl) (by kernel_rfl))
    rfl Go.Proofs.laidOut (by kernel_rfl) rfl Try.underlying4 ?_ rdL_nil ?_
  · intro ds hds
    match ds, hds with
    | [], _ => exact ⟨rfl, rfl, rfl⟩
  · rintro avs rfl
    exact ShelterNames_true
theorem over : Rows.shelterNamesRow.holds Try.pinned (OpenSpec.ofChange Rows.shelterNamesSpec) :=
  OpenClaim.holds_of_wide 5 Try.f5 rfl rfl rfl rfl rfl rfl rfl ⟨rfl, rfl, rfl, rfl, rfl⟩ rfl rfl rfl rfl rfl (by kernel_rfl) Try.func5 (by kernel_rfl)
    (of_decide_eq_true (by kernel_rfl)) (by unfold Func.isWrapper; first | (rw [if_pos (by decide +kernel)]; kernel_rfl) | (rw [if_neg (by decide +kernel)]; exact ⟨rfl, rfl⟩))
    (fun os started H enc _ => lifted os started H enc)
theorem proved : Rows.ShelterNamesSaid :=
  over
#print axioms proved
end Go.Proofs.Ytfdnifofpkceiaa.shelterNames
