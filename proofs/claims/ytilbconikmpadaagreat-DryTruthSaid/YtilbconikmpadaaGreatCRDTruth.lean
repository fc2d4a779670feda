/- The given statement DryTruth: for every value of its parameters the function returns true, and what it was given reads as before. No condition. -/
import Derived.Test.YtilbconikmpadaaGreatG23
import Derived.Test.YtilbconikmpadaaGreatG6
import Derived.Test.YtilbconikmpadaaGreatCLDTruth
import Derived.WalkKit
import Derived.ProofKit
import Derived.OpenShut
set_option linter.all false
namespace Go.Proofs.YtilbconikmpadaaGreat.dryTruth
open Go.ChangeShapes Go.WideShapes Go.ChangeAt Go.RowKit Go.Fs
set_option maxRecDepth 100000 in
theorem ziF (os:Os) (started:os.Started) (H:Type) (enc:TypeId × Value → H) :
  ReturnsInHanded {} Tryz.checked os 9 .any (Rows.dryTruthSpec.pre6 enc Tryz.prog Tryz.f9 Rows.dryTruthRow.domain false) (Rows.dryTruthSpec.post enc Tryz.prog Tryz.f9 false true false false):=by
 refine ziJ (C:=Tryz.checked) Go.Proofs.own started (by kernel_rfl) Tryz.func9
  (ChangeSpec.witness6 (enc:=enc) (C:=Tryz.checked) false ⟨#[],#[.agg #[.int .i64 0,.slice none 0 0,.int .i64 0,.slice none 0 0,.slice none 0 0,.int .i64 0,.slice none 0 0,.slice none 0 0,.slice none 0 0],.int .u16 0,.slice none 0 0],[]⟩ 8 (by kernel_rfl) (by kernel_rfl) (by kernel_rfl) (by kernel_rfl))
  rfl Go.Proofs.laidOut (by kernel_rfl) rfl Tryz.underlying4 ?_ (zct ztR (zct (zjx Tryz.underlying96) (zct (zig (ztS Tryz.underlying5 (by kernel_rfl)) Tryz.underlying97) zkO))) ?_
 ·intro ds hds
  match ds,hds with
  | [d0,d1,d2],_ => exact ⟨rfl,rfl,rfl⟩
 ·rintro avs ⟨a0,_,h0,⟨a1,_,h1,⟨a2,_,h2,rfl,rfl⟩,rfl⟩,rfl⟩
  exact zof a0 a1.n a2 h1 h2.1
theorem ka:Rows.dryTruthRow.inPlace = Tryz.prog.inPlace 9:=by kernel_rfl
theorem kb:Rows.dryTruthRow.unfollowed = Tryz.prog.unfollowed 9:=by kernel_rfl
theorem kc:Rows.dryTruthRow.recurses = Tryz.prog.recurses 9:=by kernel_rfl
theorem kd:Rows.dryTruthRow.named = Tryz.prog.varsNamed 9:=by kernel_rfl
theorem ziS:joinedFacts Tryz.pinned.checked.prog 9 Tryz.f9 Rows.dryTruthSpec Rows.dryTruthRow = true:=by
 unfold joinedFacts
 rw [show (Rows.dryTruthRow.inPlace == Program.inPlace Tryz.pinned.checked.prog 9) = true from beq_iff_eq.2 ka,show (Rows.dryTruthRow.unfollowed == Program.unfollowed Tryz.pinned.checked.prog 9) = true from beq_iff_eq.2 kb,
  show (Rows.dryTruthRow.recurses == Program.recurses Tryz.pinned.checked.prog 9) = true from beq_iff_eq.2 kc,show (Rows.dryTruthRow.named == Program.varsNamed Tryz.pinned.checked.prog 9) = true from beq_iff_eq.2 kd]
 kernel_rfl
theorem zap:Rows.dryTruthRow.holds Tryz.pinned (OpenSpec.ofChange Rows.dryTruthSpec) :=
 OpenClaim.holds_of_wide 9 Tryz.f9 rfl rfl rfl rfl rfl rfl rfl ⟨rfl,rfl,rfl,rfl,rfl⟩ rfl rfl rfl rfl rfl (by kernel_rfl) Tryz.func9 ziS
  (of_decide_eq_true (by kernel_rfl)) (by unfold Func.isWrapper; first | (rw [if_pos (by decide +kernel)]; kernel_rfl) | (rw [if_neg (by decide +kernel)]; exact ⟨rfl,rfl⟩))
  (fun os started H enc _ => ziF os started H enc)
theorem proved:Rows.DryTruthSaid :=
 zap
#print axioms proved
end Go.Proofs.YtilbconikmpadaaGreat.dryTruth
