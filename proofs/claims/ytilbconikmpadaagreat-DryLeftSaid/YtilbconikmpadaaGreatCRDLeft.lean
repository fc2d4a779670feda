/- The given statement DryLeft: for every value of its parameters the function returns true, and what it was given reads as before. No condition. -/
import Derived.Test.YtilbconikmpadaaGreatG23
import Derived.Test.YtilbconikmpadaaGreatG6
import Derived.Test.YtilbconikmpadaaGreatCLDLeft
import Derived.WalkKit
import Derived.ProofKit
import Derived.OpenShut
set_option linter.all false
namespace Go.Proofs.YtilbconikmpadaaGreat.dryLeft
open Go.ChangeShapes Go.WideShapes Go.ChangeAt Go.RowKit Go.Fs
set_option maxRecDepth 100000 in
theorem zib (os:Os) (started:os.Started) (H:Type) (enc:TypeId × Value → H) :
  ReturnsInHanded {} Tryz.checked os 17 .any (Rows.dryLeftSpec.pre6 enc Tryz.prog Tryz.f17 Rows.dryLeftRow.domain false) (Rows.dryLeftSpec.post enc Tryz.prog Tryz.f17 false true false false):=by
 refine zif (C:=Tryz.checked) Go.Proofs.own started (by kernel_rfl) Tryz.func17
  (ChangeSpec.witness6 (enc:=enc) (C:=Tryz.checked) false ⟨#[],#[.agg #[.int .i64 0,.slice none 0 0,.int .i64 0,.slice none 0 0,.slice none 0 0,.int .i64 0,.slice none 0 0,.slice none 0 0,.slice none 0 0],.int .u8 0],[]⟩ 8 (by kernel_rfl) (by kernel_rfl) (by kernel_rfl) (by kernel_rfl))
  rfl Go.Proofs.laidOut (by kernel_rfl) rfl Tryz.underlying4 ?_ (zdo zof (zdo (zxl Tryz.underlying5) zkf)) ?_
 ·intro ds hds
  match ds,hds with
  | [d0,d1],_ => exact ⟨rfl,rfl,rfl⟩
 ·rintro avs ⟨a0,_,h0,⟨a1,_,h1,rfl,rfl⟩,rfl⟩
  exact zxf a0 a1.n h1
theorem ka:Rows.dryLeftRow.inPlace = Tryz.prog.inPlace 17:=by kernel_rfl
theorem kb:Rows.dryLeftRow.unfollowed = Tryz.prog.unfollowed 17:=by kernel_rfl
theorem kc:Rows.dryLeftRow.recurses = Tryz.prog.recurses 17:=by kernel_rfl
theorem kd:Rows.dryLeftRow.named = Tryz.prog.varsNamed 17:=by kernel_rfl
theorem zis:joinedFacts Tryz.pinned.checked.prog 17 Tryz.f17 Rows.dryLeftSpec Rows.dryLeftRow = true:=by
 unfold joinedFacts
 rw [show (Rows.dryLeftRow.inPlace == Program.inPlace Tryz.pinned.checked.prog 17) = true from beq_iff_eq.2 ka,show (Rows.dryLeftRow.unfollowed == Program.unfollowed Tryz.pinned.checked.prog 17) = true from beq_iff_eq.2 kb,
  show (Rows.dryLeftRow.recurses == Program.recurses Tryz.pinned.checked.prog 17) = true from beq_iff_eq.2 kc,show (Rows.dryLeftRow.named == Program.varsNamed Tryz.pinned.checked.prog 17) = true from beq_iff_eq.2 kd]
 kernel_rfl
theorem zaq:Rows.dryLeftRow.holds Tryz.pinned (OpenSpec.ofChange Rows.dryLeftSpec) :=
 OpenClaim.holds_of_wide 17 Tryz.f17 rfl rfl rfl rfl rfl rfl rfl ⟨rfl,rfl,rfl,rfl,rfl⟩ rfl rfl rfl rfl rfl (by kernel_rfl) Tryz.func17 zis
  (of_decide_eq_true (by kernel_rfl)) (by unfold Func.isWrapper; first | (rw [if_pos (by decide +kernel)]; kernel_rfl) | (rw [if_neg (by decide +kernel)]; exact ⟨rfl,rfl⟩))
  (fun os started H enc _ => zib os started H enc)
theorem proved:Rows.DryLeftSaid :=
 zaq
#print axioms proved
end Go.Proofs.YtilbconikmpadaaGreat.dryLeft
