/- The given statement TopSoaked: for every value of its parameters the function returns true, and what it was given reads as before. No condition. -/
import Derived.Test.YtilbconikmpadaaGreatG23
import Derived.Test.YtilbconikmpadaaGreatG6
import Derived.Test.YtilbconikmpadaaGreatCLSoaked
import Derived.WalkKit
import Derived.ProofKit
import Derived.OpenShut
set_option linter.all false
namespace Go.Proofs.YtilbconikmpadaaGreat.topSoaked
open Go.ChangeShapes Go.WideShapes Go.ChangeAt Go.RowKit Go.Fs
set_option maxRecDepth 100000 in
theorem ziF (os:Os) (started:os.Started) (H:Type) (enc:TypeId × Value → H) :
  ReturnsInHanded {} Tryz.checked os 18 .any (Rows.topSoakedSpec.pre6 enc Tryz.prog Tryz.f18 Rows.topSoakedRow.domain false) (Rows.topSoakedSpec.post enc Tryz.prog Tryz.f18 false true false false):=by
 refine ziJ (C:=Tryz.checked) Go.Proofs.own started (by kernel_rfl) Tryz.func18
  (ChangeSpec.witness6 (enc:=enc) (C:=Tryz.checked) false ⟨#[],#[.agg #[.int .i64 0,.slice none 0 0,.int .i64 0,.slice none 0 0,.slice none 0 0],.int .u16 0,.int .u8 0],[]⟩ 8 (by kernel_rfl) (by kernel_rfl) (by kernel_rfl) (by kernel_rfl))
  rfl Go.Proofs.laidOut (by kernel_rfl) rfl Tryz.underlying4 ?_ (zct rdV_tb (zct (zjx Tryz.underlying96) (zct (zjx Tryz.underlying5) zkO))) ?_
 ·intro ds hds
  match ds,hds with
  | [d0,d1,d2],_ => exact ⟨rfl,rfl,rfl⟩
 ·rintro avs ⟨a0,_,h0,⟨a1,_,h1,⟨a2,_,h2,rfl,rfl⟩,rfl⟩,rfl⟩
  exact zmc a0 a1.n a2.n h1 h2
theorem ka:Rows.topSoakedRow.inPlace = Tryz.prog.inPlace 18:=by kernel_rfl
theorem kb:Rows.topSoakedRow.unfollowed = Tryz.prog.unfollowed 18:=by kernel_rfl
theorem kc:Rows.topSoakedRow.recurses = Tryz.prog.recurses 18:=by kernel_rfl
theorem kd:Rows.topSoakedRow.named = Tryz.prog.varsNamed 18:=by kernel_rfl
theorem ziS:joinedFacts Tryz.pinned.checked.prog 18 Tryz.f18 Rows.topSoakedSpec Rows.topSoakedRow = true:=by
 unfold joinedFacts
 rw [show (Rows.topSoakedRow.inPlace == Program.inPlace Tryz.pinned.checked.prog 18) = true from beq_iff_eq.2 ka,show (Rows.topSoakedRow.unfollowed == Program.unfollowed Tryz.pinned.checked.prog 18) = true from beq_iff_eq.2 kb,
  show (Rows.topSoakedRow.recurses == Program.recurses Tryz.pinned.checked.prog 18) = true from beq_iff_eq.2 kc,show (Rows.topSoakedRow.named == Program.varsNamed Tryz.pinned.checked.prog 18) = true from beq_iff_eq.2 kd]
 kernel_rfl
theorem zap:Rows.topSoakedRow.holds Tryz.pinned (OpenSpec.ofChange Rows.topSoakedSpec) :=
 OpenClaim.holds_of_wide 18 Tryz.f18 rfl rfl rfl rfl rfl rfl rfl ⟨rfl,rfl,rfl,rfl,rfl⟩ rfl rfl rfl rfl rfl (by kernel_rfl) Tryz.func18 ziS
  (of_decide_eq_true (by kernel_rfl)) (by unfold Func.isWrapper; first | (rw [if_pos (by decide +kernel)]; kernel_rfl) | (rw [if_neg (by decide +kernel)]; exact ⟨rfl,rfl⟩))
  (fun os started H enc _ => ziF os started H enc)
theorem proved:Rows.TopSoakedSaid :=
 zap
#print axioms proved
end Go.Proofs.YtilbconikmpadaaGreat.topSoaked
