/- The given statement TopMended: for every value of its parameters the function returns true, and what it was given reads as before. No condition. -/
import Derived.Test.YtgfkmkkoligobaaGreatG16
import Derived.WalkKit
import Derived.ProofKit
import Derived.OpenShut
set_option linter.all false
namespace Go.Proofs.YtgfkmkkoligobaaGreat.topMended
open Go.ChangeShapes Go.WideShapes Go.ChangeAt Go.RowKit Go.Fs
set_option maxRecDepth 100000 in
theorem lifted (os:Os) (started:os.Started) (H:Type) (enc:TypeId × Value → H) :
  ReturnsInHanded {} Tryz.checked os 3 .any (Rows.topMendedSpec.pre6 enc Tryz.prog Tryz.f3 Rows.topMendedRow.domain false) (Rows.topMendedSpec.post enc Tryz.prog Tryz.f3 false true false false):=by
 refine law_read (C:=Tryz.checked) Go.Proofs.own started (by kernel_rfl) Tryz.func3
  (ChangeSpec.witness6 (enc:=enc) (C:=Tryz.checked) false ⟨#[],#[.agg #[.slice none 0 0,.int .i64 0,.slice none 0 0],.agg #[.slice none 0 0,.int .i64 0,.int .i64 0,.int .i64 0],.int .u16 0,.int .u8 0],[]⟩ 8 (by kernel_rfl) (by kernel_rfl) (by kernel_rfl) (by kernel_rfl))
  rfl Go.Proofs.laidOut (by kernel_rfl) rfl Tryz.underlying4 ?_ (zgR rdV_my (zgR rdV_sh (zgR (rdV_uk Tryz.underlying31) (zgR (rdV_uk Tryz.underlying5) rdL_nil)))) ?_
 ·intro ds hds
  match ds,hds with
  | [d0,d1,d2,d3],_ => exact ⟨rfl,rfl,rfl⟩
 ·rintro avs ⟨a0,_,h0,⟨a1,_,h1,⟨a2,_,h2,⟨a3,_,h3,rfl,rfl⟩,rfl⟩,rfl⟩,rfl⟩
  exact zit a0 a1 a2.n a3.n h2 h3
theorem zan:Rows.topMendedRow.holds Tryz.pinned (OpenSpec.ofChange Rows.topMendedSpec) :=
 OpenClaim.holds_of_wide 3 Tryz.f3 rfl rfl rfl rfl rfl rfl rfl ⟨rfl,rfl,rfl,rfl,rfl⟩ rfl rfl rfl rfl rfl (by kernel_rfl) Tryz.func3 (by kernel_rfl)
  (of_decide_eq_true (by kernel_rfl)) (by unfold Func.isWrapper; first | (rw [if_pos (by decide +kernel)]; kernel_rfl) | (rw [if_neg (by decide +kernel)]; exact ⟨rfl,rfl⟩))
  (fun os started H enc _ => lifted os started H enc)
theorem proved:Rows.TopMendedSaid :=
 zan
#print axioms proved
end Go.Proofs.YtgfkmkkoligobaaGreat.topMended
