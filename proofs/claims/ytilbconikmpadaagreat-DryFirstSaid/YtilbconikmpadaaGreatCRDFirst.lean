/- The given statement DryFirst: for every value of its parameters the function returns true, and what it was given reads as before. No condition. -/
import Derived.Test.YtilbconikmpadaaGreatG23
import Derived.Test.YtilbconikmpadaaGreatG6
import Derived.Test.YtilbconikmpadaaGreatCLDFirst
import Derived.WalkKit
import Derived.ProofKit
import Derived.OpenShut
set_option linter.all false
namespace Go.Proofs.YtilbconikmpadaaGreat.dryFirst
open Go.ChangeShapes Go.WideShapes Go.ChangeAt Go.RowKit Go.Fs
set_option maxRecDepth 100000 in
theorem zib (os:Os) (started:os.Started) (H:Type) (enc:TypeId × Value → H) :
  ReturnsInHanded {} Tryz.checked os 16 .any (Rows.dryFirstSpec.pre6 enc Tryz.prog Tryz.f16 Rows.dryFirstRow.domain false) (Rows.dryFirstSpec.post enc Tryz.prog Tryz.f16 false true false false):=by
 refine zif (C:=Tryz.checked) Go.Proofs.own started (by kernel_rfl) Tryz.func16
  (ChangeSpec.witness6 (enc:=enc) (C:=Tryz.checked) false ⟨#[],#[.agg #[.int .i64 0,.slice none 0 0,.int .i64 0,.slice none 0 0,.slice none 0 0,.int .i64 0,.slice none 0 0,.slice none 0 0,.slice none 0 0]],[]⟩ 8 (by kernel_rfl) (by kernel_rfl) (by kernel_rfl) (by kernel_rfl))
  rfl Go.Proofs.laidOut (by kernel_rfl) rfl Tryz.underlying4 ?_ (zdo zof zkf) ?_
 ·intro ds hds
  match ds,hds with
  | [d0],_ => exact ⟨rfl,rfl,rfl⟩
 ·rintro avs ⟨a0,_,h0,rfl,rfl⟩
  exact zw9 a0
theorem ka:Rows.dryFirstRow.inPlace = Tryz.prog.inPlace 16:=by kernel_rfl
theorem kb:Rows.dryFirstRow.unfollowed = Tryz.prog.unfollowed 16:=by kernel_rfl
theorem kc:Rows.dryFirstRow.recurses = Tryz.prog.recurses 16:=by kernel_rfl
theorem kd:Rows.dryFirstRow.named = Tryz.prog.varsNamed 16:=by kernel_rfl
theorem zis:joinedFacts Tryz.pinned.checked.prog 16 Tryz.f16 Rows.dryFirstSpec Rows.dryFirstRow = true:=by
 unfold joinedFacts
 rw [show (Rows.dryFirstRow.inPlace == Program.inPlace Tryz.pinned.checked.prog 16) = true from beq_iff_eq.2 ka,show (Rows.dryFirstRow.unfollowed == Program.unfollowed Tryz.pinned.checked.prog 16) = true from beq_iff_eq.2 kb,
  show (Rows.dryFirstRow.recurses == Program.recurses Tryz.pinned.checked.prog 16) = true from beq_iff_eq.2 kc,show (Rows.dryFirstRow.named == Program.varsNamed Tryz.pinned.checked.prog 16) = true from beq_iff_eq.2 kd]
 kernel_rfl
theorem zaq:Rows.dryFirstRow.holds Tryz.pinned (OpenSpec.ofChange Rows.dryFirstSpec) :=
 OpenClaim.holds_of_wide 16 Tryz.f16 rfl rfl rfl rfl rfl rfl rfl ⟨rfl,rfl,rfl,rfl,rfl⟩ rfl rfl rfl rfl rfl (by kernel_rfl) Tryz.func16 zis
  (of_decide_eq_true (by kernel_rfl)) (by unfold Func.isWrapper; first | (rw [if_pos (by decide +kernel)]; kernel_rfl) | (rw [if_neg (by decide +kernel)]; exact ⟨rfl,rfl⟩))
  (fun os started H enc _ => zib os started H enc)
theorem proved:Rows.DryFirstSaid :=
 zaq
#print axioms proved
end Go.Proofs.YtilbconikmpadaaGreat.dryFirst
