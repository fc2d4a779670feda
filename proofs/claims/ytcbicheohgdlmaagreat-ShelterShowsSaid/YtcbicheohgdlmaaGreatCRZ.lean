/- How a list of steps of a proof is read. -/
import Derived.Test.YtcbicheohgdlmaaGreatG14
set_option linter.all false
namespace Go.Proofs
open Go.Fs
set_option linter.unusedVariables false
set_option maxRecDepth 100000
def SpIn (m : Sp) : Prop := InR .i64 m.chairs ∧ InR .i64 m.before
theorem rdE_sp : RdE Tryz.prog 98 Sp SpIn :=
  ⟨by kernel_rfl, fun enc w base spare held fuel cs x h => by
    obtain ⟨hl, xs, _, _, hf⟩ := rd_field Tryz.underlying98 h
    have hl : cs.length = 2 := hl.trans (by kernel_rfl)
    match cs, hl with
    | [c0, c1], _ =>
      obtain ⟨n0, y0, _, h0⟩ := hf 0 _ rfl
      obtain ⟨n1, y1, _, h1⟩ := hf 1 _ rfl
      simp only [cells_int, List.getElem_toArray, List.getElem_cons_zero, List.getElem_cons_succ, List.drop_zero, List.drop_succ_cons, List.take_succ_cons, List.take_zero] at h0 h1
      obtain ⟨a, rfl, ha⟩ := trod_one h0
      obtain ⟨b, rfl, hb⟩ := trod_one h1
      refine ⟨⟨a, b⟩, ⟨ha, hb⟩, rfl, fun i hi => ?_⟩
      match i, hi with
      | 0, _ => exact .int _ _
      | 1, _ => exact .int _ _⟩
end Go.Proofs
