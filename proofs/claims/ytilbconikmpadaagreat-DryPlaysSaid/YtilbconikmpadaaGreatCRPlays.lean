/- The given statement DryPlays: for every value of its parameters the function returns true, and what it was given reads as before. No condition. -/
import Derived.Test.YtilbconikmpadaaGreatG23
import Derived.Test.YtilbconikmpadaaGreatG6
import Derived.Test.YtilbconikmpadaaGreatCLPlays
import Derived.WalkKit
import Derived.ProofKit
import Derived.OpenShut
set_option linter.all false
namespace Go.Proofs.YtilbconikmpadaaGreat.dryPlays
open Go.ChangeShapes Go.WideShapes Go.ChangeAt Go.RowKit Go.Fs
set_option maxRecDepth 100000 in
theorem zib (os:Os) (started:os.Started) (H:Type) (enc:TypeId × Value → H) :
  ReturnsInHanded {} Tryz.checked os 3 .any (Rows.dryPlaysSpec.pre6 enc Tryz.prog Tryz.f3 Rows.dryPlaysRow.domain false) (Rows.dryPlaysSpec.post enc Tryz.prog Tryz.f3 false true false false):=by
 refine zif (C:=Tryz.checked) Go.Proofs.own started (by kernel_rfl) Tryz.func3
  (ChangeSpec.witness6 (enc:=enc) (C:=Tryz.checked) false ⟨#[],#[.agg #[.int .i64 0,.slice none 0 0,.int .i64 0,.slice none 0 0,.slice none 0 0,.int .i64 0,.slice none 0 0,.slice none 0 0,.slice none 0 0],.slice none 0 0,.slice none 0 0],[]⟩ 8 (by kernel_rfl) (by kernel_rfl) (by kernel_rfl) (by kernel_rfl))
  rfl Go.Proofs.laidOut (by kernel_rfl) rfl Tryz.underlying4 ?_ (zdo zof (zdo (zhU zgU Tryz.underlying23) (zdo (zhU zgU Tryz.underlying23) zkf))) ?_
 ·intro ds hds
  match ds,hds with
  | [d0,d1,d2],_ => exact ⟨rfl,rfl,rfl⟩
 ·rintro avs ⟨a0,_,h0,⟨a1,_,h1,⟨a2,_,h2,rfl,rfl⟩,rfl⟩,rfl⟩
  exact znI a0 a1 a2
theorem ka:Rows.dryPlaysRow.inPlace = Tryz.prog.inPlace 3:=by kernel_rfl
theorem kb:Rows.dryPlaysRow.unfollowed = Tryz.prog.unfollowed 3:=by kernel_rfl
theorem kc:Rows.dryPlaysRow.recurses = Tryz.prog.recurses 3:=by kernel_rfl
theorem kd:Rows.dryPlaysRow.named = Tryz.prog.varsNamed 3:=by kernel_rfl
theorem zis:joinedFacts Tryz.pinned.checked.prog 3 Tryz.f3 Rows.dryPlaysSpec Rows.dryPlaysRow = true:=by
 unfold joinedFacts
 rw [show (Rows.dryPlaysRow.inPlace == Program.inPlace Tryz.pinned.checked.prog 3) = true from beq_iff_eq.2 ka,show (Rows.dryPlaysRow.unfollowed == Program.unfollowed Tryz.pinned.checked.prog 3) = true from beq_iff_eq.2 kb,
  show (Rows.dryPlaysRow.recurses == Program.recurses Tryz.pinned.checked.prog 3) = true from beq_iff_eq.2 kc,show (Rows.dryPlaysRow.named == Program.varsNamed Tryz.pinned.checked.prog 3) = true from beq_iff_eq.2 kd]
 kernel_rfl
theorem zaq:Rows.dryPlaysRow.holds Tryz.pinned (OpenSpec.ofChange Rows.dryPlaysSpec) :=
 OpenClaim.holds_of_wide 3 Tryz.f3 rfl rfl rfl rfl rfl rfl rfl ⟨rfl,rfl,rfl,rfl,rfl⟩ rfl rfl rfl rfl rfl (by kernel_rfl) Tryz.func3 zis
  (of_decide_eq_true (by kernel_rfl)) (by unfold Func.isWrapper; first | (rw [if_pos (by decide +kernel)]; kernel_rfl) | (rw [if_neg (by decide +kernel)]; exact ⟨rfl,rfl⟩))
  (fun os started H enc _ => zib os started H enc)
theorem proved:Rows.DryPlaysSaid :=
 zaq
#print axioms proved
end Go.Proofs.YtilbconikmpadaaGreat.dryPlays
