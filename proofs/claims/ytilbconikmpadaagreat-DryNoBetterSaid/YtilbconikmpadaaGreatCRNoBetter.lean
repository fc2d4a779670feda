/- The given statement DryNoBetter: for every value of its parameters the function returns true, and what it was given reads as before. No condition. -/
import Derived.Test.YtilbconikmpadaaGreatG23
import Derived.Test.YtilbconikmpadaaGreatG6
import Derived.Test.YtilbconikmpadaaGreatCLNoBetter
import Derived.WalkKit
import Derived.ProofKit
import Derived.OpenShut
set_option linter.all false
namespace Go.Proofs.YtilbconikmpadaaGreat.dryNoBetter
open Go.ChangeShapes Go.WideShapes Go.ChangeAt Go.RowKit Go.Fs
set_option maxRecDepth 100000 in
theorem zib (os:Os) (started:os.Started) (H:Type) (enc:TypeId × Value → H) :
  ReturnsInHanded {} Tryz.checked os 12 .any (Rows.dryNoBetterSpec.pre6 enc Tryz.prog Tryz.f12 Rows.dryNoBetterRow.domain false) (Rows.dryNoBetterSpec.post enc Tryz.prog Tryz.f12 false true false false):=by
 refine zif (C:=Tryz.checked) Go.Proofs.own started (by kernel_rfl) Tryz.func12
  (ChangeSpec.witness6 (enc:=enc) (C:=Tryz.checked) false ⟨#[],#[.agg #[.int .i64 0,.slice none 0 0,.int .i64 0,.slice none 0 0,.slice none 0 0,.int .i64 0,.slice none 0 0,.slice none 0 0,.slice none 0 0],.slice none 0 0,.int .u8 0,.int .u8 0],[]⟩ 8 (by kernel_rfl) (by kernel_rfl) (by kernel_rfl) (by kernel_rfl))
  rfl Go.Proofs.laidOut (by kernel_rfl) rfl Tryz.underlying4 ?_ (zdo zof (zdo (zhU (rdE_uk Tryz.underlying5 (by kernel_rfl)) Tryz.underlying97) (zdo (zxl Tryz.underlying5) (zdo (zxl Tryz.underlying5) zkf)))) ?_
 ·intro ds hds
  match ds,hds with
  | [d0,d1,d2,d3],_ => exact ⟨rfl,rfl,rfl⟩
 ·rintro avs ⟨a0,_,h0,⟨a1,_,h1,⟨a2,_,h2,⟨a3,_,h3,rfl,rfl⟩,rfl⟩,rfl⟩,rfl⟩
  exact zwZ a0 a1 a2.n a3.n h1.1 h2 h3
theorem ka:Rows.dryNoBetterRow.inPlace = Tryz.prog.inPlace 12:=by kernel_rfl
theorem kb:Rows.dryNoBetterRow.unfollowed = Tryz.prog.unfollowed 12:=by kernel_rfl
theorem kc:Rows.dryNoBetterRow.recurses = Tryz.prog.recurses 12:=by kernel_rfl
theorem kd:Rows.dryNoBetterRow.named = Tryz.prog.varsNamed 12:=by kernel_rfl
theorem zis:joinedFacts Tryz.pinned.checked.prog 12 Tryz.f12 Rows.dryNoBetterSpec Rows.dryNoBetterRow = true:=by
 unfold joinedFacts
 rw [show (Rows.dryNoBetterRow.inPlace == Program.inPlace Tryz.pinned.checked.prog 12) = true from beq_iff_eq.2 ka,show (Rows.dryNoBetterRow.unfollowed == Program.unfollowed Tryz.pinned.checked.prog 12) = true from beq_iff_eq.2 kb,
  show (Rows.dryNoBetterRow.recurses == Program.recurses Tryz.pinned.checked.prog 12) = true from beq_iff_eq.2 kc,show (Rows.dryNoBetterRow.named == Program.varsNamed Tryz.pinned.checked.prog 12) = true from beq_iff_eq.2 kd]
 kernel_rfl
theorem zaq:Rows.dryNoBetterRow.holds Tryz.pinned (OpenSpec.ofChange Rows.dryNoBetterSpec) :=
 OpenClaim.holds_of_wide 12 Tryz.f12 rfl rfl rfl rfl rfl rfl rfl ⟨rfl,rfl,rfl,rfl,rfl⟩ rfl rfl rfl rfl rfl (by kernel_rfl) Tryz.func12 zis
  (of_decide_eq_true (by kernel_rfl)) (by unfold Func.isWrapper; first | (rw [if_pos (by decide +kernel)]; kernel_rfl) | (rw [if_neg (by decide +kernel)]; exact ⟨rfl,rfl⟩))
  (fun os started H enc _ => zib os started H enc)
theorem proved:Rows.DryNoBetterSaid :=
 zaq
#print axioms proved
end Go.Proofs.YtilbconikmpadaaGreat.dryNoBetter
