/- The given statement DryFrees: for every value of its parameters the function returns true, and what it was given reads as before. No condition. -/
import Derived.Test.YtilbconikmpadaaGreatG23
import Derived.Test.YtilbconikmpadaaGreatG6
import Derived.Test.YtilbconikmpadaaGreatCLFrees
import Derived.WalkKit
import Derived.ProofKit
import Derived.OpenShut
set_option linter.all false
namespace Go.Proofs.YtilbconikmpadaaGreat.dryFrees
open Go.ChangeShapes Go.WideShapes Go.ChangeAt Go.RowKit Go.Fs
set_option maxRecDepth 100000 in
theorem zib (os:Os) (started:os.Started) (H:Type) (enc:TypeId × Value → H) :
  ReturnsInHanded {} Tryz.checked os 4 .any (Rows.dryFreesSpec.pre6 enc Tryz.prog Tryz.f4 Rows.dryFreesRow.domain false) (Rows.dryFreesSpec.post enc Tryz.prog Tryz.f4 false true false false):=by
 refine zif (C:=Tryz.checked) Go.Proofs.own started (by kernel_rfl) Tryz.func4
  (ChangeSpec.witness6 (enc:=enc) (C:=Tryz.checked) false ⟨#[],#[.agg #[.int .i64 0,.slice none 0 0,.int .i64 0,.slice none 0 0,.slice none 0 0,.int .i64 0,.slice none 0 0,.slice none 0 0,.slice none 0 0],.slice none 0 0,.int .i64 0,.int .i64 0],[]⟩ 8 (by kernel_rfl) (by kernel_rfl) (by kernel_rfl) (by kernel_rfl))
  rfl Go.Proofs.laidOut (by kernel_rfl) rfl Tryz.underlying4 ?_ (zdo zof (zdo (zhU zgU Tryz.underlying23) (zdo (zq0 Tryz.underlying3) (zdo (zq0 Tryz.underlying3) zkf)))) ?_
 ·intro ds hds
  match ds,hds with
  | [d0,d1,d2,d3],_ => exact ⟨rfl,rfl,rfl⟩
 ·rintro avs ⟨a0,_,h0,⟨a1,_,h1,⟨a2,_,h2,⟨a3,_,h3,rfl,rfl⟩,rfl⟩,rfl⟩,rfl⟩
  exact znK a0 a1 a2 a3
theorem ka:Rows.dryFreesRow.inPlace = Tryz.prog.inPlace 4:=by kernel_rfl
theorem kb:Rows.dryFreesRow.unfollowed = Tryz.prog.unfollowed 4:=by kernel_rfl
theorem kc:Rows.dryFreesRow.recurses = Tryz.prog.recurses 4:=by kernel_rfl
theorem kd:Rows.dryFreesRow.named = Tryz.prog.varsNamed 4:=by kernel_rfl
theorem zis:joinedFacts Tryz.pinned.checked.prog 4 Tryz.f4 Rows.dryFreesSpec Rows.dryFreesRow = true:=by
 unfold joinedFacts
 rw [show (Rows.dryFreesRow.inPlace == Program.inPlace Tryz.pinned.checked.prog 4) = true from beq_iff_eq.2 ka,show (Rows.dryFreesRow.unfollowed == Program.unfollowed Tryz.pinned.checked.prog 4) = true from beq_iff_eq.2 kb,
  show (Rows.dryFreesRow.recurses == Program.recurses Tryz.pinned.checked.prog 4) = true from beq_iff_eq.2 kc,show (Rows.dryFreesRow.named == Program.varsNamed Tryz.pinned.checked.prog 4) = true from beq_iff_eq.2 kd]
 kernel_rfl
theorem zaq:Rows.dryFreesRow.holds Tryz.pinned (OpenSpec.ofChange Rows.dryFreesSpec) :=
 OpenClaim.holds_of_wide 4 Tryz.f4 rfl rfl rfl rfl rfl rfl rfl ⟨rfl,rfl,rfl,rfl,rfl⟩ rfl rfl rfl rfl rfl (by kernel_rfl) Tryz.func4 zis
  (of_decide_eq_true (by kernel_rfl)) (by unfold Func.isWrapper; first | (rw [if_pos (by decide +kernel)]; kernel_rfl) | (rw [if_neg (by decide +kernel)]; exact ⟨rfl,rfl⟩))
  (fun os started H enc _ => zib os started H enc)
theorem proved:Rows.DryFreesSaid :=
 zaq
#print axioms proved
end Go.Proofs.YtilbconikmpadaaGreat.dryFrees
