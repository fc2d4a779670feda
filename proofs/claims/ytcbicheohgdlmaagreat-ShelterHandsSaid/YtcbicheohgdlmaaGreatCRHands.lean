/- The given statement ShelterHands: for every value of its parameters the function returns true, and what it was given reads as before. No condition. -/
import Derived.Test.YtcbicheohgdlmaaGreatG14
import Derived.Test.YtcbicheohgdlmaaGreatG6
import Derived.Test.YtcbicheohgdlmaaGreatCLHands
import Derived.WalkKit
import Derived.ProofKit
import Derived.OpenShut
set_option linter.all false
namespace Go.Proofs.YtcbicheohgdlmaaGreat.shelterHands
open Go.ChangeShapes Go.WideShapes Go.ChangeAt Go.RowKit Go.Fs
set_option linter.unusedVariables false
set_option maxRecDepth 100000 in
theorem lifted (os : Os) (started : os.Started) (H : Type) (enc : TypeId × Value → H) :
    ReturnsInHanded {} Tryz.checked os 6 .any (Rows.shelterHandsSpec.pre6 enc Tryz.prog Tryz.f6 Rows.shelterHandsRow.domain false) (Rows.shelterHandsSpec.post enc Tryz.prog Tryz.f6 false true false false) := by
  refine law_read (C := Tryz.checked) Go.Proofs.own started (by kernel_rfl) Tryz.func6
    (ChangeSpec.witness6 (enc := enc) (C := Tryz.checked) false ⟨#[], #[.agg #[.slice none 0 0, .int .i64 0, .int .i64 0, .int .i64 0], .int .i64 0], []⟩ 8 (by kernel_rfl) (by kernel_rfl) (by kernel_rfl) (by kernel_rfl))
    rfl Go.Proofs.laidOut (by kernel_rfl) rfl Tryz.underlying4 ?_ (rdL_cons rdV_sh (rdL_cons (rdV_int Tryz.underlying3) rdL_nil)) ?_
  · intro ds hds
    match ds, hds with
    | [d0, d1], _ => exact ⟨rfl, rfl, rfl⟩
  · rintro avs ⟨a0, _, h0, ⟨a1, _, h1, rfl, rfl⟩, rfl⟩
    exact ShelterHands_true a0 a1
theorem over : Rows.shelterHandsRow.holds Tryz.pinned (OpenSpec.ofChange Rows.shelterHandsSpec) :=
  OpenClaim.holds_of_wide 6 Tryz.f6 rfl rfl rfl rfl rfl rfl rfl ⟨rfl, rfl, rfl, rfl, rfl⟩ rfl rfl rfl rfl rfl (by kernel_rfl) Tryz.func6 (by kernel_rfl)
    (of_decide_eq_true (by kernel_rfl)) (by unfold Func.isWrapper; first | (rw [if_pos (by decide +kernel)]; kernel_rfl) | (rw [if_neg (by decide +kernel)]; exact ⟨rfl, rfl⟩))
    (fun os started H enc _ => lifted os started H enc)
theorem proved : Rows.ShelterHandsSaid :=
  over
#print axioms proved
end Go.Proofs.YtcbicheohgdlmaaGreat.shelterHands
