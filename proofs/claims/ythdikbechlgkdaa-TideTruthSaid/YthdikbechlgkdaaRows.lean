/-
  No cell of these rows narrows 'for every input' (looked for: loops, veiled, ifaces, maps, wideKeys, modest, calm, conditions, laid).
  DERIVED. THE GIVEN ROWS OF THIS SEAT. 4 by the template 'for every input the law returns true; each argument reads behind the call as it read before'; 0 by the template 'total and deterministic' (their statements: YthdikbechlgkdaaTotals.lean).
  GIVEN WITH THE SEED: the statements are not yours to turn. If you find one false, say at which input.
  Laid BY PROGRAM, IN A SANDBOX (cutbox-rows.mjs): the forced cells as the released guide's own fill.sh prints them over the translation d76ceb8684f3a3ed… (all of the seat's roots in one cut). By AI agents, Wed Nov 11 2026. No macro, syntax, notation, axiom, sorry.
-/
import Derived.Test.YthdikbechlgkdaaChecked
import GoSem.Claim
import GoSem.ClaimJoined
import GoSem.ClaimMapViews
import Derived.JoinedTies
import Derived.KernelRfl
namespace Go.Proofs.Ythdikbechlgkdaa
/- THE CELL 'sum', in the pinned program and in every row, IS THE sha256 OF THE DUMP (.gsa) THAT YthdikbechlgkdaaProg.lean LOADS. Nothing in Lean hashes anything: it is a label: what it is worth is what the hold of that sum in a sandbox is worth. -/
noncomputable def Try.pinned : Pinned := { name := "ythdikbechlgkdaa", sum := "d76ceb8684f3a3edbfd9e4f81743e0d2bbcf36bc3a7d22526f12f6635883ff31", checked := Try.checked }
namespace Rows
def none {H : Type} : Left H := { results := [], args := [] }

/-- 'foreshorelaw02.TideWider': WHATEVER THE INPUT: true; the input reads as it did. -/
def tideWiderSpec : ChangeSpec := { name := "tideWider", fn := fun _ => fun
  | [d1, d2, d3] => { results := [.lit (.bool true)], args := [d1, d2, d3] }
  | _ => none }
def tideWiderRow : OpenClaim := { program := "ythdikbechlgkdaa", sum := "d76ceb8684f3a3edbfd9e4f81743e0d2bbcf36bc3a7d22526f12f6635883ff31", func := "foreshore/foreshorelaw02.TideWider", spec := "tideWider", unfollowed := true, recurses := true, plainKeys := false, apart := false }
def TideWiderSaid : Prop := tideWiderRow.holds Try.pinned (OpenSpec.ofChange tideWiderSpec)

/-- ITS FALSE NEIGHBOUR: 'it returns false'. Refute it at one input. -/
def tideWiderWrong : ChangeSpec := { name := "tideWider", fn := fun _ => fun
  | [d1, d2, d3] => { results := [.lit (.bool false)], args := [d1, d2, d3] }
  | _ => none }
def TideWiderWrongFalsely : Prop := tideWiderRow.holds Try.pinned (OpenSpec.ofChange tideWiderWrong)

/-- 'foreshorelaw02.TideShifted': WHATEVER THE INPUT: true; the input reads as it did. -/
def tideShiftedSpec : ChangeSpec := { name := "tideShifted", fn := fun _ => fun
  | [d1, d2, d3] => { results := [.lit (.bool true)], args := [d1, d2, d3] }
  | _ => none }
def tideShiftedRow : OpenClaim := { program := "ythdikbechlgkdaa", sum := "d76ceb8684f3a3edbfd9e4f81743e0d2bbcf36bc3a7d22526f12f6635883ff31", func := "foreshore/foreshorelaw02.TideShifted", spec := "tideShifted", unfollowed := true, recurses := true, plainKeys := false, apart := false }
def TideShiftedSaid : Prop := tideShiftedRow.holds Try.pinned (OpenSpec.ofChange tideShiftedSpec)

/-- ITS FALSE NEIGHBOUR: 'it returns false'. Refute it at one input. -/
def tideShiftedWrong : ChangeSpec := { name := "tideShifted", fn := fun _ => fun
  | [d1, d2, d3] => { results := [.lit (.bool false)], args := [d1, d2, d3] }
  | _ => none }
def TideShiftedWrongFalsely : Prop := tideShiftedRow.holds Try.pinned (OpenSpec.ofChange tideShiftedWrong)

/-- 'foreshorelaw02.TideTruth': WHATEVER THE INPUT: true; the input reads as it did. -/
def tideTruthSpec : ChangeSpec := { name := "tideTruth", fn := fun _ => fun
  | [d1, d2, d3] => { results := [.lit (.bool true)], args := [d1, d2, d3] }
  | _ => none }
def tideTruthRow : OpenClaim := { program := "ythdikbechlgkdaa", sum := "d76ceb8684f3a3edbfd9e4f81743e0d2bbcf36bc3a7d22526f12f6635883ff31", func := "foreshore/foreshorelaw02.TideTruth", spec := "tideTruth", unfollowed := true, recurses := true, plainKeys := false, apart := false }
def TideTruthSaid : Prop := tideTruthRow.holds Try.pinned (OpenSpec.ofChange tideTruthSpec)

/-- ITS FALSE NEIGHBOUR: 'it returns false'. Refute it at one input. -/
def tideTruthWrong : ChangeSpec := { name := "tideTruth", fn := fun _ => fun
  | [d1, d2, d3] => { results := [.lit (.bool false)], args := [d1, d2, d3] }
  | _ => none }
def TideTruthWrongFalsely : Prop := tideTruthRow.holds Try.pinned (OpenSpec.ofChange tideTruthWrong)

/-- 'foreshorelaw02.TideNames': WHATEVER THE INPUT: true; the input reads as it did. -/
def tideNamesSpec : ChangeSpec := { name := "tideNames", fn := fun _ => fun
  | [] => { results := [.lit (.bool true)], args := [] }
  | _ => none }
def tideNamesRow : OpenClaim := { program := "ythdikbechlgkdaa", sum := "d76ceb8684f3a3edbfd9e4f81743e0d2bbcf36bc3a7d22526f12f6635883ff31", func := "foreshore/foreshorelaw02.TideNames", spec := "tideNames", unfollowed := true, recurses := true, plainKeys := false, apart := false }
def TideNamesSaid : Prop := tideNamesRow.holds Try.pinned (OpenSpec.ofChange tideNamesSpec)

/-- ITS FALSE NEIGHBOUR: 'it returns false'. Refute it at one input. -/
def tideNamesWrong : ChangeSpec := { name := "tideNames", fn := fun _ => fun
  | [] => { results := [.lit (.bool false)], args := [] }
  | _ => none }
def TideNamesWrongFalsely : Prop := tideNamesRow.holds Try.pinned (OpenSpec.ofChange tideNamesWrong)

/- THE SECOND FORM. 'bulk': how many values and letters a reading holds, each counted each time it is reached (what is shared counts as often as it is met; a slice's spare places count too). A statement '..UptoSaid' is the law's where the arguments, and the package variables that the reading takes, are together of bulk at most 1048576: NARROWER than '..Said'. Prove '..Said' where nothing that the law and all that it calls make is longer than what came in: it says more and counts as full. Else prove '..UptoSaid'. A law counts once. -/
mutual
def uptoBulk {H : Type} : DataW H → Nat
  | .lit (.string bytes) => bytes.length + 1
  | .lit _ => 1
  | .nil => 1
  | .ptr d => uptoBulk d + 1
  | .slice elems spare => uptoBulkAll elems + uptoBulkAll spare + 1
  | .agg parts => uptoBulkAll parts + 1
  | .iface _ d => uptoBulk d + 1
  | .map entries => uptoBulkEntries entries + 1
  | .held _ => 1
def uptoBulkAll {H : Type} : List (DataW H) → Nat
  | [] => 0
  | d :: r => uptoBulk d + uptoBulkAll r
def uptoBulkEntries {H : Type} : List (Lit × DataW H) → Nat
  | [] => 0
  | x :: r => uptoBulkEntry x + uptoBulkEntries r
def uptoBulkEntry {H : Type} : Lit × DataW H → Nat
  | (.string bytes, d) => bytes.length + uptoBulk d + 1
  | (_, d) => uptoBulk d + 1
 end
def uptoSmall : (H : Type) → List (DataW H) → Bool := fun _ ds => decide (uptoBulkAll ds ≤ 1048576)
def OpenSpec.upto (s : _root_.Go.ChangeSpec) : _root_.Go.OpenSpec := { _root_.Go.OpenSpec.ofChange s with cond := some uptoSmall }

/-- 'foreshorelaw02.TideWider', WHERE WHAT IT READS IS OF BULK AT MOST 1048576: true; the input reads as it did. -/
def tideWiderUptoRow : OpenClaim := { program := "ythdikbechlgkdaa", sum := "d76ceb8684f3a3edbfd9e4f81743e0d2bbcf36bc3a7d22526f12f6635883ff31", func := "foreshore/foreshorelaw02.TideWider", spec := "tideWider", unfollowed := true, recurses := true, plainKeys := false, apart := false, narrowed := true }
def TideWiderUptoSaid : Prop := tideWiderUptoRow.holds Try.pinned (OpenSpec.upto tideWiderSpec)

/-- 'foreshorelaw02.TideShifted', WHERE WHAT IT READS IS OF BULK AT MOST 1048576: true; the input reads as it did. -/
def tideShiftedUptoRow : OpenClaim := { program := "ythdikbechlgkdaa", sum := "d76ceb8684f3a3edbfd9e4f81743e0d2bbcf36bc3a7d22526f12f6635883ff31", func := "foreshore/foreshorelaw02.TideShifted", spec := "tideShifted", unfollowed := true, recurses := true, plainKeys := false, apart := false, narrowed := true }
def TideShiftedUptoSaid : Prop := tideShiftedUptoRow.holds Try.pinned (OpenSpec.upto tideShiftedSpec)

/-- 'foreshorelaw02.TideTruth', WHERE WHAT IT READS IS OF BULK AT MOST 1048576: true; the input reads as it did. -/
def tideTruthUptoRow : OpenClaim := { program := "ythdikbechlgkdaa", sum := "d76ceb8684f3a3edbfd9e4f81743e0d2bbcf36bc3a7d22526f12f6635883ff31", func := "foreshore/foreshorelaw02.TideTruth", spec := "tideTruth", unfollowed := true, recurses := true, plainKeys := false, apart := false, narrowed := true }
def TideTruthUptoSaid : Prop := tideTruthUptoRow.holds Try.pinned (OpenSpec.upto tideTruthSpec)

/-- 'foreshorelaw02.TideNames', WHERE WHAT IT READS IS OF BULK AT MOST 1048576: true; the input reads as it did. -/
def tideNamesUptoRow : OpenClaim := { program := "ythdikbechlgkdaa", sum := "d76ceb8684f3a3edbfd9e4f81743e0d2bbcf36bc3a7d22526f12f6635883ff31", func := "foreshore/foreshorelaw02.TideNames", spec := "tideNames", unfollowed := true, recurses := true, plainKeys := false, apart := false, narrowed := true }
def TideNamesUptoSaid : Prop := tideNamesUptoRow.holds Try.pinned (OpenSpec.upto tideNamesSpec)

end Rows
end Go.Proofs.Ythdikbechlgkdaa
