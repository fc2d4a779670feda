/- The given statement DryLoses: for every value of its parameters the function returns true, and what it was given reads as before. No condition. -/
import Derived.Test.YtilbconikmpadaaGreatG23
import Derived.Test.YtilbconikmpadaaGreatG6
import Derived.Test.YtilbconikmpadaaGreatCLLoses
import Derived.WalkKit
import Derived.ProofKit
import Derived.OpenShut
set_option linter.all false
namespace Go.Proofs.YtilbconikmpadaaGreat.dryLoses
open Go.ChangeShapes Go.WideShapes Go.ChangeAt Go.RowKit Go.Fs
set_option maxRecDepth 100000 in
theorem zib (os:Os) (started:os.Started) (H:Type) (enc:TypeId × Value → H) :
  ReturnsInHanded {} Tryz.checked os 5 .any (Rows.dryLosesSpec.pre6 enc Tryz.prog Tryz.f5 Rows.dryLosesRow.domain false) (Rows.dryLosesSpec.post enc Tryz.prog Tryz.f5 false true false false):=by
 refine zif (C:=Tryz.checked) Go.Proofs.own started (by kernel_rfl) Tryz.func5
  (ChangeSpec.witness6 (enc:=enc) (C:=Tryz.checked) false ⟨#[],#[.agg #[.int .i64 0,.slice none 0 0,.int .i64 0,.slice none 0 0,.slice none 0 0,.int .i64 0,.slice none 0 0,.slice none 0 0,.slice none 0 0],.slice none 0 0,.int .i64 0],[]⟩ 8 (by kernel_rfl) (by kernel_rfl) (by kernel_rfl) (by kernel_rfl))
  rfl Go.Proofs.laidOut (by kernel_rfl) rfl Tryz.underlying4 ?_ (zdo zof (zdo (zhU zgU Tryz.underlying23) (zdo (zq0 Tryz.underlying3) zkf))) ?_
 ·intro ds hds
  match ds,hds with
  | [d0,d1,d2],_ => exact ⟨rfl,rfl,rfl⟩
 ·rintro avs ⟨a0,_,h0,⟨a1,_,h1,⟨a2,_,h2,rfl,rfl⟩,rfl⟩,rfl⟩
  exact znJ a0 a1 a2
theorem ka:Rows.dryLosesRow.inPlace = Tryz.prog.inPlace 5:=by kernel_rfl
theorem kb:Rows.dryLosesRow.unfollowed = Tryz.prog.unfollowed 5:=by kernel_rfl
theorem kc:Rows.dryLosesRow.recurses = Tryz.prog.recurses 5:=by kernel_rfl
theorem kd:Rows.dryLosesRow.named = Tryz.prog.varsNamed 5:=by kernel_rfl
theorem zis:joinedFacts Tryz.pinned.checked.prog 5 Tryz.f5 Rows.dryLosesSpec Rows.dryLosesRow = true:=by
 unfold joinedFacts
 rw [show (Rows.dryLosesRow.inPlace == Program.inPlace Tryz.pinned.checked.prog 5) = true from beq_iff_eq.2 ka,show (Rows.dryLosesRow.unfollowed == Program.unfollowed Tryz.pinned.checked.prog 5) = true from beq_iff_eq.2 kb,
  show (Rows.dryLosesRow.recurses == Program.recurses Tryz.pinned.checked.prog 5) = true from beq_iff_eq.2 kc,show (Rows.dryLosesRow.named == Program.varsNamed Tryz.pinned.checked.prog 5) = true from beq_iff_eq.2 kd]
 kernel_rfl
theorem zaq:Rows.dryLosesRow.holds Tryz.pinned (OpenSpec.ofChange Rows.dryLosesSpec) :=
 OpenClaim.holds_of_wide 5 Tryz.f5 rfl rfl rfl rfl rfl rfl rfl ⟨rfl,rfl,rfl,rfl,rfl⟩ rfl rfl rfl rfl rfl (by kernel_rfl) Tryz.func5 zis
  (of_decide_eq_true (by kernel_rfl)) (by unfold Func.isWrapper; first | (rw [if_pos (by decide +kernel)]; kernel_rfl) | (rw [if_neg (by decide +kernel)]; exact ⟨rfl,rfl⟩))
  (fun os started H enc _ => zib os started H enc)
theorem proved:Rows.DryLosesSaid :=
 zaq
#print axioms proved
end Go.Proofs.YtilbconikmpadaaGreat.dryLoses
