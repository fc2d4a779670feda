/- The given statement DryMore: for every value of its parameters the function returns true, and what it was given reads as before. No condition. -/
import Derived.Test.YtilbconikmpadaaGreatG23
import Derived.Test.YtilbconikmpadaaGreatG6
import Derived.Test.YtilbconikmpadaaGreatCLDMore
import Derived.WalkKit
import Derived.ProofKit
import Derived.OpenShut
set_option linter.all false
namespace Go.Proofs.YtilbconikmpadaaGreat.dryMore
open Go.ChangeShapes Go.WideShapes Go.ChangeAt Go.RowKit Go.Fs
set_option maxRecDepth 100000 in
theorem ziF (os:Os) (started:os.Started) (H:Type) (enc:TypeId × Value → H) :
  ReturnsInHanded {} Tryz.checked os 15 .any (Rows.dryMoreSpec.pre6 enc Tryz.prog Tryz.f15 Rows.dryMoreRow.domain false) (Rows.dryMoreSpec.post enc Tryz.prog Tryz.f15 false true false false):=by
 refine ziJ (C:=Tryz.checked) Go.Proofs.own started (by kernel_rfl) Tryz.func15
  (ChangeSpec.witness6 (enc:=enc) (C:=Tryz.checked) false ⟨#[],#[.agg #[.int .i64 0,.slice none 0 0,.int .i64 0,.slice none 0 0,.slice none 0 0,.int .i64 0,.slice none 0 0,.slice none 0 0,.slice none 0 0],.agg #[.int .i64 0,.int .i64 0],.slice none 0 0,.int .u8 0],[]⟩ 8 (by kernel_rfl) (by kernel_rfl) (by kernel_rfl) (by kernel_rfl))
  rfl Go.Proofs.laidOut (by kernel_rfl) rfl Tryz.underlying4 ?_ (zct ztR (zct rdV_hr (zct (zig (ztS Tryz.underlying5 (by kernel_rfl)) Tryz.underlying97) (zct (zjx Tryz.underlying5) zkO)))) ?_
 ·intro ds hds
  match ds,hds with
  | [d0,d1,d2,d3],_ => exact ⟨rfl,rfl,rfl⟩
 ·rintro avs ⟨a0,_,h0,⟨a1,_,h1,⟨a2,_,h2,⟨a3,_,h3,rfl,rfl⟩,rfl⟩,rfl⟩,rfl⟩
  exact zqY a0 a1 a2 a3.n h0.hs h2.1 h3
theorem ka:Rows.dryMoreRow.inPlace = Tryz.prog.inPlace 15:=by kernel_rfl
theorem kb:Rows.dryMoreRow.unfollowed = Tryz.prog.unfollowed 15:=by kernel_rfl
theorem kc:Rows.dryMoreRow.recurses = Tryz.prog.recurses 15:=by kernel_rfl
theorem kd:Rows.dryMoreRow.named = Tryz.prog.varsNamed 15:=by kernel_rfl
theorem ziS:joinedFacts Tryz.pinned.checked.prog 15 Tryz.f15 Rows.dryMoreSpec Rows.dryMoreRow = true:=by
 unfold joinedFacts
 rw [show (Rows.dryMoreRow.inPlace == Program.inPlace Tryz.pinned.checked.prog 15) = true from beq_iff_eq.2 ka,show (Rows.dryMoreRow.unfollowed == Program.unfollowed Tryz.pinned.checked.prog 15) = true from beq_iff_eq.2 kb,
  show (Rows.dryMoreRow.recurses == Program.recurses Tryz.pinned.checked.prog 15) = true from beq_iff_eq.2 kc,show (Rows.dryMoreRow.named == Program.varsNamed Tryz.pinned.checked.prog 15) = true from beq_iff_eq.2 kd]
 kernel_rfl
theorem zap:Rows.dryMoreRow.holds Tryz.pinned (OpenSpec.ofChange Rows.dryMoreSpec) :=
 OpenClaim.holds_of_wide 15 Tryz.f15 rfl rfl rfl rfl rfl rfl rfl ⟨rfl,rfl,rfl,rfl,rfl⟩ rfl rfl rfl rfl rfl (by kernel_rfl) Tryz.func15 ziS
  (of_decide_eq_true (by kernel_rfl)) (by unfold Func.isWrapper; first | (rw [if_pos (by decide +kernel)]; kernel_rfl) | (rw [if_neg (by decide +kernel)]; exact ⟨rfl,rfl⟩))
  (fun os started H enc _ => ziF os started H enc)
theorem proved:Rows.DryMoreSaid :=
 zap
#print axioms proved
end Go.Proofs.YtilbconikmpadaaGreat.dryMore
