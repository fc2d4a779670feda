/- The given statement DryDrier: for every value of its parameters the function returns true, and what it was given reads as before. No condition. -/
import Derived.Test.YtilbconikmpadaaGreatG23
import Derived.Test.YtilbconikmpadaaGreatG6
import Derived.Test.YtilbconikmpadaaGreatCLDDrier
import Derived.WalkKit
import Derived.ProofKit
import Derived.OpenShut
set_option linter.all false
namespace Go.Proofs.YtilbconikmpadaaGreat.dryDrier
open Go.ChangeShapes Go.WideShapes Go.ChangeAt Go.RowKit Go.Fs
set_option maxRecDepth 100000 in
theorem lifted (os:Os) (started:os.Started) (H:Type) (enc:TypeId × Value → H) :
  ReturnsInHanded {} Tryz.checked os 13 .any (Rows.dryDrierSpec.pre6 enc Tryz.prog Tryz.f13 Rows.dryDrierRow.domain false) (Rows.dryDrierSpec.post enc Tryz.prog Tryz.f13 false true false false):=by
 refine law_read (C:=Tryz.checked) Go.Proofs.own started (by kernel_rfl) Tryz.func13
  (ChangeSpec.witness6 (enc:=enc) (C:=Tryz.checked) false ⟨#[],#[.agg #[.int .i64 0,.slice none 0 0,.int .i64 0,.slice none 0 0,.slice none 0 0,.int .i64 0,.slice none 0 0,.slice none 0 0,.slice none 0 0],.int .u16 0,.slice none 0 0,.int .u8 0,.int .u8 0],[]⟩ 8 (by kernel_rfl) (by kernel_rfl) (by kernel_rfl) (by kernel_rfl))
  rfl Go.Proofs.laidOut (by kernel_rfl) rfl Tryz.underlying4 ?_ (zhx rdV_yd (zhx (rdV_uk Tryz.underlying96) (zhx (rdV_slice (rdE_uk Tryz.underlying5 (by kernel_rfl)) Tryz.underlying97) (zhx (rdV_uk Tryz.underlying5) (zhx (rdV_uk Tryz.underlying5) rdL_nil))))) ?_
 ·intro ds hds
  match ds,hds with
  | [d0,d1,d2,d3,d4],_ => exact ⟨rfl,rfl,rfl⟩
 ·rintro avs ⟨a0,_,h0,⟨a1,_,h1,⟨a2,_,h2,⟨a3,_,h3,⟨a4,_,h4,rfl,rfl⟩,rfl⟩,rfl⟩,rfl⟩,rfl⟩
  exact zmF a0 a1.n a2 a3.n a4.n h1 h2.1 h3 h4
theorem ka:Rows.dryDrierRow.inPlace = Tryz.prog.inPlace 13:=by kernel_rfl
theorem kb:Rows.dryDrierRow.unfollowed = Tryz.prog.unfollowed 13:=by kernel_rfl
theorem kc:Rows.dryDrierRow.recurses = Tryz.prog.recurses 13:=by kernel_rfl
theorem kd:Rows.dryDrierRow.named = Tryz.prog.varsNamed 13:=by kernel_rfl
theorem closed:joinedFacts Tryz.pinned.checked.prog 13 Tryz.f13 Rows.dryDrierSpec Rows.dryDrierRow = true:=by
 unfold joinedFacts
 rw [show (Rows.dryDrierRow.inPlace == Program.inPlace Tryz.pinned.checked.prog 13) = true from beq_iff_eq.2 ka,show (Rows.dryDrierRow.unfollowed == Program.unfollowed Tryz.pinned.checked.prog 13) = true from beq_iff_eq.2 kb,
  show (Rows.dryDrierRow.recurses == Program.recurses Tryz.pinned.checked.prog 13) = true from beq_iff_eq.2 kc,show (Rows.dryDrierRow.named == Program.varsNamed Tryz.pinned.checked.prog 13) = true from beq_iff_eq.2 kd]
 kernel_rfl
theorem zan:Rows.dryDrierRow.holds Tryz.pinned (OpenSpec.ofChange Rows.dryDrierSpec) :=
 OpenClaim.holds_of_wide 13 Tryz.f13 rfl rfl rfl rfl rfl rfl rfl ⟨rfl,rfl,rfl,rfl,rfl⟩ rfl rfl rfl rfl rfl (by kernel_rfl) Tryz.func13 closed
  (of_decide_eq_true (by kernel_rfl)) (by unfold Func.isWrapper; first | (rw [if_pos (by decide +kernel)]; kernel_rfl) | (rw [if_neg (by decide +kernel)]; exact ⟨rfl,rfl⟩))
  (fun os started H enc _ => lifted os started H enc)
theorem proved:Rows.DryDrierSaid :=
 zan
#print axioms proved
end Go.Proofs.YtilbconikmpadaaGreat.dryDrier
