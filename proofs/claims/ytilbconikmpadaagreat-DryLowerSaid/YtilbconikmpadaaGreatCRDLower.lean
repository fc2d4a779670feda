/- The given statement DryLower: for every value of its parameters the function returns true, and what it was given reads as before. No condition. -/
import Derived.Test.YtilbconikmpadaaGreatG23
import Derived.Test.YtilbconikmpadaaGreatG6
import Derived.Test.YtilbconikmpadaaGreatCLDLower
import Derived.WalkKit
import Derived.ProofKit
import Derived.OpenShut
set_option linter.all false
namespace Go.Proofs.YtilbconikmpadaaGreat.dryLower
open Go.ChangeShapes Go.WideShapes Go.ChangeAt Go.RowKit Go.Fs
set_option maxRecDepth 100000 in
theorem ziF (os:Os) (started:os.Started) (H:Type) (enc:TypeId × Value → H) :
  ReturnsInHanded {} Tryz.checked os 14 .any (Rows.dryLowerSpec.pre6 enc Tryz.prog Tryz.f14 Rows.dryLowerRow.domain false) (Rows.dryLowerSpec.post enc Tryz.prog Tryz.f14 false true false false):=by
 refine ziJ (C:=Tryz.checked) Go.Proofs.own started (by kernel_rfl) Tryz.func14
  (ChangeSpec.witness6 (enc:=enc) (C:=Tryz.checked) false ⟨#[],#[.agg #[.int .i64 0,.slice none 0 0,.int .i64 0,.slice none 0 0,.slice none 0 0,.int .i64 0,.slice none 0 0,.slice none 0 0,.slice none 0 0],.int .u16 0,.int .u16 0,.slice none 0 0],[]⟩ 8 (by kernel_rfl) (by kernel_rfl) (by kernel_rfl) (by kernel_rfl))
  rfl Go.Proofs.laidOut (by kernel_rfl) rfl Tryz.underlying4 ?_ (zct ztR (zct (zjx Tryz.underlying96) (zct (zjx Tryz.underlying96) (zct (zig (ztS Tryz.underlying5 (by kernel_rfl)) Tryz.underlying97) zkO)))) ?_
 ·intro ds hds
  match ds,hds with
  | [d0,d1,d2,d3],_ => exact ⟨rfl,rfl,rfl⟩
 ·rintro avs ⟨a0,_,h0,⟨a1,_,h1,⟨a2,_,h2,⟨a3,_,h3,rfl,rfl⟩,rfl⟩,rfl⟩,rfl⟩
  exact zog a0 a1.n a2.n a3 h1 h2 h3.1
theorem ka:Rows.dryLowerRow.inPlace = Tryz.prog.inPlace 14:=by kernel_rfl
theorem kb:Rows.dryLowerRow.unfollowed = Tryz.prog.unfollowed 14:=by kernel_rfl
theorem kc:Rows.dryLowerRow.recurses = Tryz.prog.recurses 14:=by kernel_rfl
theorem kd:Rows.dryLowerRow.named = Tryz.prog.varsNamed 14:=by kernel_rfl
theorem ziS:joinedFacts Tryz.pinned.checked.prog 14 Tryz.f14 Rows.dryLowerSpec Rows.dryLowerRow = true:=by
 unfold joinedFacts
 rw [show (Rows.dryLowerRow.inPlace == Program.inPlace Tryz.pinned.checked.prog 14) = true from beq_iff_eq.2 ka,show (Rows.dryLowerRow.unfollowed == Program.unfollowed Tryz.pinned.checked.prog 14) = true from beq_iff_eq.2 kb,
  show (Rows.dryLowerRow.recurses == Program.recurses Tryz.pinned.checked.prog 14) = true from beq_iff_eq.2 kc,show (Rows.dryLowerRow.named == Program.varsNamed Tryz.pinned.checked.prog 14) = true from beq_iff_eq.2 kd]
 kernel_rfl
theorem zap:Rows.dryLowerRow.holds Tryz.pinned (OpenSpec.ofChange Rows.dryLowerSpec) :=
 OpenClaim.holds_of_wide 14 Tryz.f14 rfl rfl rfl rfl rfl rfl rfl ⟨rfl,rfl,rfl,rfl,rfl⟩ rfl rfl rfl rfl rfl (by kernel_rfl) Tryz.func14 ziS
  (of_decide_eq_true (by kernel_rfl)) (by unfold Func.isWrapper; first | (rw [if_pos (by decide +kernel)]; kernel_rfl) | (rw [if_neg (by decide +kernel)]; exact ⟨rfl,rfl⟩))
  (fun os started H enc _ => ziF os started H enc)
theorem proved:Rows.DryLowerSaid :=
 zap
#print axioms proved
end Go.Proofs.YtilbconikmpadaaGreat.dryLower
