/- The given statement ShelterShows: for every value of its parameters the function returns true, and what it was given reads as before. No condition. -/
import Derived.Test.YtcbicheohgdlmaaGreatCRZ
import Derived.Test.YtcbicheohgdlmaaGreatG6
import Derived.Test.YtcbicheohgdlmaaGreatCLShows
import Derived.WalkKit
import Derived.ProofKit
import Derived.OpenShut
set_option linter.all false
namespace Go.Proofs.YtcbicheohgdlmaaGreat.shelterShows
open Go.ChangeShapes Go.WideShapes Go.ChangeAt Go.RowKit Go.Fs
set_option linter.unusedVariables false
set_option maxRecDepth 100000 in
theorem lifted (os : Os) (started : os.Started) (H : Type) (enc : TypeId × Value → H) :
    ReturnsInHanded {} Tryz.checked os 3 .any (Rows.shelterShowsSpec.pre6 enc Tryz.prog Tryz.f3 Rows.shelterShowsRow.domain false) (Rows.shelterShowsSpec.post enc Tryz.prog Tryz.f3 false true false false) := by
  refine law_read (C := Tryz.checked) Go.Proofs.own started (by kernel_rfl) Tryz.func3
    (ChangeSpec.witness6 (enc := enc) (C := Tryz.checked) false ⟨#[], #[.agg #[.slice none 0 0, .int .i64 0, .int .i64 0, .int .i64 0], .slice none 0 0, .int .i64 0], []⟩ 8 (by kernel_rfl) (by kernel_rfl) (by kernel_rfl) (by kernel_rfl))
    rfl Go.Proofs.laidOut (by kernel_rfl) rfl Tryz.underlying4 ?_ (rdL_cons rdV_sh (rdL_cons (rdV_slice rdE_sp Tryz.underlying27) (rdL_cons (rdV_int Tryz.underlying3) rdL_nil))) ?_
  · intro ds hds
    match ds, hds with
    | [d0, d1, d2], _ => exact ⟨rfl, rfl, rfl⟩
  · rintro avs ⟨a0, _, h0, ⟨a1, _, h1, ⟨a2, _, h2, rfl, rfl⟩, rfl⟩, rfl⟩
    exact ShelterShows_true a0 a1 a2
theorem over : Rows.shelterShowsRow.holds Tryz.pinned (OpenSpec.ofChange Rows.shelterShowsSpec) :=
  OpenClaim.holds_of_wide 3 Tryz.f3 rfl rfl rfl rfl rfl rfl rfl ⟨rfl, rfl, rfl, rfl, rfl⟩ rfl rfl rfl rfl rfl (by kernel_rfl) Tryz.func3 (by kernel_rfl)
    (of_decide_eq_true (by kernel_rfl)) (by unfold Func.isWrapper; first | (rw [if_pos (by decide +kernel)]; kernel_rfl) | (rw [if_neg (by decide +kernel)]; exact ⟨rfl, rfl⟩))
    (fun os started H enc _ => lifted os started H enc)
theorem proved : Rows.ShelterShowsSaid :=
  over
#print axioms proved
end Go.Proofs.YtcbicheohgdlmaaGreat.shelterShows
