/- The given statement DryLeaves: for every value of its parameters the function returns true, and what it was given reads as before. No condition. -/
import Derived.Test.YtilbconikmpadaaGreatG23
import Derived.Test.YtilbconikmpadaaGreatG6
import Derived.Test.YtilbconikmpadaaGreatCLLeaves
import Derived.WalkKit
import Derived.ProofKit
import Derived.OpenShut
set_option linter.all false
namespace Go.Proofs.YtilbconikmpadaaGreat.dryLeaves
open Go.ChangeShapes Go.WideShapes Go.ChangeAt Go.RowKit Go.Fs
set_option maxRecDepth 100000 in
theorem zib (os:Os) (started:os.Started) (H:Type) (enc:TypeId × Value → H) :
  ReturnsInHanded {} Tryz.checked os 7 .any (Rows.dryLeavesSpec.pre6 enc Tryz.prog Tryz.f7 Rows.dryLeavesRow.domain false) (Rows.dryLeavesSpec.post enc Tryz.prog Tryz.f7 false true false false):=by
 refine zif (C:=Tryz.checked) Go.Proofs.own started (by kernel_rfl) Tryz.func7
  (ChangeSpec.witness6 (enc:=enc) (C:=Tryz.checked) false ⟨#[],#[.agg #[.int .i64 0,.slice none 0 0,.int .i64 0,.slice none 0 0,.slice none 0 0,.int .i64 0,.slice none 0 0,.slice none 0 0,.slice none 0 0]],[]⟩ 8 (by kernel_rfl) (by kernel_rfl) (by kernel_rfl) (by kernel_rfl))
  rfl Go.Proofs.laidOut (by kernel_rfl) rfl Tryz.underlying4 ?_ (zdo zof zkf) ?_
 ·intro ds hds
  match ds,hds with
  | [d0],_ => exact ⟨rfl,rfl,rfl⟩
 ·rintro avs ⟨a0,_,h0,rfl,rfl⟩
  exact zlx a0
theorem ka:Rows.dryLeavesRow.inPlace = Tryz.prog.inPlace 7:=by kernel_rfl
theorem kb:Rows.dryLeavesRow.unfollowed = Tryz.prog.unfollowed 7:=by kernel_rfl
theorem kc:Rows.dryLeavesRow.recurses = Tryz.prog.recurses 7:=by kernel_rfl
theorem kd:Rows.dryLeavesRow.named = Tryz.prog.varsNamed 7:=by kernel_rfl
theorem zis:joinedFacts Tryz.pinned.checked.prog 7 Tryz.f7 Rows.dryLeavesSpec Rows.dryLeavesRow = true:=by
 unfold joinedFacts
 rw [show (Rows.dryLeavesRow.inPlace == Program.inPlace Tryz.pinned.checked.prog 7) = true from beq_iff_eq.2 ka,show (Rows.dryLeavesRow.unfollowed == Program.unfollowed Tryz.pinned.checked.prog 7) = true from beq_iff_eq.2 kb,
  show (Rows.dryLeavesRow.recurses == Program.recurses Tryz.pinned.checked.prog 7) = true from beq_iff_eq.2 kc,show (Rows.dryLeavesRow.named == Program.varsNamed Tryz.pinned.checked.prog 7) = true from beq_iff_eq.2 kd]
 kernel_rfl
theorem zaq:Rows.dryLeavesRow.holds Tryz.pinned (OpenSpec.ofChange Rows.dryLeavesSpec) :=
 OpenClaim.holds_of_wide 7 Tryz.f7 rfl rfl rfl rfl rfl rfl rfl ⟨rfl,rfl,rfl,rfl,rfl⟩ rfl rfl rfl rfl rfl (by kernel_rfl) Tryz.func7 zis
  (of_decide_eq_true (by kernel_rfl)) (by unfold Func.isWrapper; first | (rw [if_pos (by decide +kernel)]; kernel_rfl) | (rw [if_neg (by decide +kernel)]; exact ⟨rfl,rfl⟩))
  (fun os started H enc _ => zib os started H enc)
theorem proved:Rows.DryLeavesSaid :=
 zaq
#print axioms proved
end Go.Proofs.YtilbconikmpadaaGreat.dryLeaves
