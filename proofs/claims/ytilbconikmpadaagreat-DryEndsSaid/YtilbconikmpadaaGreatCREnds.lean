/- The given statement DryEnds: for every value of its parameters the function returns true, and what it was given reads as before. No condition. -/
import Derived.Test.YtilbconikmpadaaGreatG23
import Derived.Test.YtilbconikmpadaaGreatG6
import Derived.Test.YtilbconikmpadaaGreatCLEnds
import Derived.WalkKit
import Derived.ProofKit
import Derived.OpenShut
set_option linter.all false
namespace Go.Proofs.YtilbconikmpadaaGreat.dryEnds
open Go.ChangeShapes Go.WideShapes Go.ChangeAt Go.RowKit Go.Fs
set_option maxRecDepth 100000 in
theorem zib (os:Os) (started:os.Started) (H:Type) (enc:TypeId × Value → H) :
  ReturnsInHanded {} Tryz.checked os 10 .any (Rows.dryEndsSpec.pre6 enc Tryz.prog Tryz.f10 Rows.dryEndsRow.domain false) (Rows.dryEndsSpec.post enc Tryz.prog Tryz.f10 false true false false):=by
 refine zif (C:=Tryz.checked) Go.Proofs.own started (by kernel_rfl) Tryz.func10
  (ChangeSpec.witness6 (enc:=enc) (C:=Tryz.checked) false ⟨#[],#[.agg #[.int .i64 0,.slice none 0 0,.int .i64 0,.slice none 0 0,.slice none 0 0,.int .i64 0,.slice none 0 0,.slice none 0 0,.slice none 0 0],.slice none 0 0,.int .u8 0],[]⟩ 8 (by kernel_rfl) (by kernel_rfl) (by kernel_rfl) (by kernel_rfl))
  rfl Go.Proofs.laidOut (by kernel_rfl) rfl Tryz.underlying4 ?_ (zdo zof (zdo (zhU (rdE_uk Tryz.underlying5 (by kernel_rfl)) Tryz.underlying97) (zdo (zxl Tryz.underlying5) zkf))) ?_
 ·intro ds hds
  match ds,hds with
  | [d0,d1,d2],_ => exact ⟨rfl,rfl,rfl⟩
 ·rintro avs ⟨a0,_,h0,⟨a1,_,h1,⟨a2,_,h2,rfl,rfl⟩,rfl⟩,rfl⟩
  exact zxg a0 a1 a2.n h1.1 h2
theorem ka:Rows.dryEndsRow.inPlace = Tryz.prog.inPlace 10:=by kernel_rfl
theorem kb:Rows.dryEndsRow.unfollowed = Tryz.prog.unfollowed 10:=by kernel_rfl
theorem kc:Rows.dryEndsRow.recurses = Tryz.prog.recurses 10:=by kernel_rfl
theorem kd:Rows.dryEndsRow.named = Tryz.prog.varsNamed 10:=by kernel_rfl
theorem zis:joinedFacts Tryz.pinned.checked.prog 10 Tryz.f10 Rows.dryEndsSpec Rows.dryEndsRow = true:=by
 unfold joinedFacts
 rw [show (Rows.dryEndsRow.inPlace == Program.inPlace Tryz.pinned.checked.prog 10) = true from beq_iff_eq.2 ka,show (Rows.dryEndsRow.unfollowed == Program.unfollowed Tryz.pinned.checked.prog 10) = true from beq_iff_eq.2 kb,
  show (Rows.dryEndsRow.recurses == Program.recurses Tryz.pinned.checked.prog 10) = true from beq_iff_eq.2 kc,show (Rows.dryEndsRow.named == Program.varsNamed Tryz.pinned.checked.prog 10) = true from beq_iff_eq.2 kd]
 kernel_rfl
theorem zaq:Rows.dryEndsRow.holds Tryz.pinned (OpenSpec.ofChange Rows.dryEndsSpec) :=
 OpenClaim.holds_of_wide 10 Tryz.f10 rfl rfl rfl rfl rfl rfl rfl ⟨rfl,rfl,rfl,rfl,rfl⟩ rfl rfl rfl rfl rfl (by kernel_rfl) Tryz.func10 zis
  (of_decide_eq_true (by kernel_rfl)) (by unfold Func.isWrapper; first | (rw [if_pos (by decide +kernel)]; kernel_rfl) | (rw [if_neg (by decide +kernel)]; exact ⟨rfl,rfl⟩))
  (fun os started H enc _ => zib os started H enc)
theorem proved:Rows.DryEndsSaid :=
 zaq
#print axioms proved
end Go.Proofs.YtilbconikmpadaaGreat.dryEnds
