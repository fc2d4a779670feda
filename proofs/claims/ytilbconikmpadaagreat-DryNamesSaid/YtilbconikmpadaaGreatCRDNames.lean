/- The given statement DryNames: for every value of its parameters the function returns true, and what it was given reads as before. No condition. -/
import Derived.Test.YtilbconikmpadaaGreatG23
import Derived.Test.YtilbconikmpadaaGreatG6
import Derived.Test.YtilbconikmpadaaGreatCLDNames
import Derived.WalkKit
import Derived.ProofKit
import Derived.OpenShut
set_option linter.all false
namespace Go.Proofs.YtilbconikmpadaaGreat.dryNames
open Go.ChangeShapes Go.WideShapes Go.ChangeAt Go.RowKit Go.Fs
set_option maxRecDepth 100000 in
theorem lifted (os:Os) (started:os.Started) (H:Type) (enc:TypeId × Value → H) :
  ReturnsInHanded {} Tryz.checked os 8 .any (Rows.dryNamesSpec.pre6 enc Tryz.prog Tryz.f8 Rows.dryNamesRow.domain false) (Rows.dryNamesSpec.post enc Tryz.prog Tryz.f8 false true false false):=by
 refine law_read (C:=Tryz.checked) Go.Proofs.own started (by kernel_rfl) Tryz.func8
  (ChangeSpec.witness6 (enc:=enc) (C:=Tryz.checked) false ⟨#[],#[],[]⟩ 8 (by kernel_rfl) (by kernel_rfl) (by kernel_rfl) (by kernel_rfl))
  rfl Go.Proofs.laidOut (by kernel_rfl) rfl Tryz.underlying4 ?_ rdL_nil ?_
 ·intro ds hds
  match ds,hds with
  | [],_ => exact ⟨rfl,rfl,rfl⟩
 ·rintro avs rfl
  exact zmp
theorem ka:Rows.dryNamesRow.inPlace = Tryz.prog.inPlace 8:=by kernel_rfl
theorem kb:Rows.dryNamesRow.unfollowed = Tryz.prog.unfollowed 8:=by kernel_rfl
theorem kc:Rows.dryNamesRow.recurses = Tryz.prog.recurses 8:=by kernel_rfl
theorem kd:Rows.dryNamesRow.named = Tryz.prog.varsNamed 8:=by kernel_rfl
theorem closed:joinedFacts Tryz.pinned.checked.prog 8 Tryz.f8 Rows.dryNamesSpec Rows.dryNamesRow = true:=by
 unfold joinedFacts
 rw [show (Rows.dryNamesRow.inPlace == Program.inPlace Tryz.pinned.checked.prog 8) = true from beq_iff_eq.2 ka,show (Rows.dryNamesRow.unfollowed == Program.unfollowed Tryz.pinned.checked.prog 8) = true from beq_iff_eq.2 kb,
  show (Rows.dryNamesRow.recurses == Program.recurses Tryz.pinned.checked.prog 8) = true from beq_iff_eq.2 kc,show (Rows.dryNamesRow.named == Program.varsNamed Tryz.pinned.checked.prog 8) = true from beq_iff_eq.2 kd]
 kernel_rfl
theorem zan:Rows.dryNamesRow.holds Tryz.pinned (OpenSpec.ofChange Rows.dryNamesSpec) :=
 OpenClaim.holds_of_wide 8 Tryz.f8 rfl rfl rfl rfl rfl rfl rfl ⟨rfl,rfl,rfl,rfl,rfl⟩ rfl rfl rfl rfl rfl (by kernel_rfl) Tryz.func8 closed
  (of_decide_eq_true (by kernel_rfl)) (by unfold Func.isWrapper; first | (rw [if_pos (by decide +kernel)]; kernel_rfl) | (rw [if_neg (by decide +kernel)]; exact ⟨rfl,rfl⟩))
  (fun os started H enc _ => lifted os started H enc)
theorem proved:Rows.DryNamesSaid :=
 zan
#print axioms proved
end Go.Proofs.YtilbconikmpadaaGreat.dryNames
