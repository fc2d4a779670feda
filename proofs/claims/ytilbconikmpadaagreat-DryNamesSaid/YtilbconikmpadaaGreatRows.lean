/-
  No cell of these rows narrows 'for every input' (looked for: loops, veiled, ifaces, maps, wideKeys, modest, calm, conditions, laid).
  DERIVED. THE GIVEN ROWS OF THIS SEAT. 16 by the template 'for every input the law returns true; each argument reads behind the call as it read before'; 0 by the template 'total and deterministic' (their statements: YtilbconikmpadaaGreatTotals.lean).
  GIVEN WITH THE SEED: the statements are not yours to turn. If you find one false, say at which input.
  Laid BY PROGRAM, IN A SANDBOX (cutbox-rows.mjs): the forced cells as the released guide's own fill.sh prints them over the translation a9e197d50a2b10df… (all of the seat's roots in one cut). By AI agents, Wed Nov 11 2026. No macro, syntax, notation, axiom, sorry.
-/
import Derived.Test.YtilbconikmpadaaGreatChecked
import GoSem.Claim
import GoSem.ClaimJoined
import GoSem.ClaimMapViews
import Derived.JoinedTies
import Derived.KernelRfl
namespace Go.Proofs.YtilbconikmpadaaGreat
/- THE CELL 'sum', in the pinned program and in every row, IS THE sha256 OF THE DUMP (.gsa) THAT YtilbconikmpadaaGreatProg.lean LOADS. Nothing in Lean hashes anything: it is a label: what it is worth is what the hold of that sum in a sandbox is worth. -/
noncomputable def Tryz.pinned : Pinned := { name := "ytilbconikmpadaagreat", sum := "a9e197d50a2b10df374fb23b99344f734303af67deecce35738dbd0fca393151", checked := Tryz.checked }
namespace Rows
def none {H : Type} : Left H := { results := [], args := [] }

/-- 'foreshorelaw08.DryPlays': WHATEVER THE INPUT: true; the input reads as it did. -/
def dryPlaysSpec : ChangeSpec := { name := "dryPlays", fn := fun _ => fun
  | [d1, d2, d3] => { results := [.lit (.bool true)], args := [d1, d2, d3] }
  | _ => none }
def dryPlaysRow : OpenClaim := { program := "ytilbconikmpadaagreat", sum := "a9e197d50a2b10df374fb23b99344f734303af67deecce35738dbd0fca393151", func := "foreshore/foreshorelaw08.DryPlays", spec := "dryPlays", unfollowed := true, recurses := true, plainKeys := false, apart := false }
def DryPlaysSaid : Prop := dryPlaysRow.holds Tryz.pinned (OpenSpec.ofChange dryPlaysSpec)

/-- ITS FALSE NEIGHBOUR: 'it returns false'. Refute it at one input. -/
def dryPlaysWrong : ChangeSpec := { name := "dryPlays", fn := fun _ => fun
  | [d1, d2, d3] => { results := [.lit (.bool false)], args := [d1, d2, d3] }
  | _ => none }
def DryPlaysWrongFalsely : Prop := dryPlaysRow.holds Tryz.pinned (OpenSpec.ofChange dryPlaysWrong)

/-- 'foreshorelaw08.DryFrees': WHATEVER THE INPUT: true; the input reads as it did. -/
def dryFreesSpec : ChangeSpec := { name := "dryFrees", fn := fun _ => fun
  | [d1, d2, d3, d4] => { results := [.lit (.bool true)], args := [d1, d2, d3, d4] }
  | _ => none }
def dryFreesRow : OpenClaim := { program := "ytilbconikmpadaagreat", sum := "a9e197d50a2b10df374fb23b99344f734303af67deecce35738dbd0fca393151", func := "foreshore/foreshorelaw08.DryFrees", spec := "dryFrees", unfollowed := true, recurses := true, plainKeys := false, apart := false }
def DryFreesSaid : Prop := dryFreesRow.holds Tryz.pinned (OpenSpec.ofChange dryFreesSpec)

/-- ITS FALSE NEIGHBOUR: 'it returns false'. Refute it at one input. -/
def dryFreesWrong : ChangeSpec := { name := "dryFrees", fn := fun _ => fun
  | [d1, d2, d3, d4] => { results := [.lit (.bool false)], args := [d1, d2, d3, d4] }
  | _ => none }
def DryFreesWrongFalsely : Prop := dryFreesRow.holds Tryz.pinned (OpenSpec.ofChange dryFreesWrong)

/-- 'foreshorelaw08.DryLoses': WHATEVER THE INPUT: true; the input reads as it did. -/
def dryLosesSpec : ChangeSpec := { name := "dryLoses", fn := fun _ => fun
  | [d1, d2, d3] => { results := [.lit (.bool true)], args := [d1, d2, d3] }
  | _ => none }
def dryLosesRow : OpenClaim := { program := "ytilbconikmpadaagreat", sum := "a9e197d50a2b10df374fb23b99344f734303af67deecce35738dbd0fca393151", func := "foreshore/foreshorelaw08.DryLoses", spec := "dryLoses", unfollowed := true, recurses := true, plainKeys := false, apart := false }
def DryLosesSaid : Prop := dryLosesRow.holds Tryz.pinned (OpenSpec.ofChange dryLosesSpec)

/-- ITS FALSE NEIGHBOUR: 'it returns false'. Refute it at one input. -/
def dryLosesWrong : ChangeSpec := { name := "dryLoses", fn := fun _ => fun
  | [d1, d2, d3] => { results := [.lit (.bool false)], args := [d1, d2, d3] }
  | _ => none }
def DryLosesWrongFalsely : Prop := dryLosesRow.holds Tryz.pinned (OpenSpec.ofChange dryLosesWrong)

/-- 'foreshorelaw08.DryBest': WHATEVER THE INPUT: true; the input reads as it did. -/
def dryBestSpec : ChangeSpec := { name := "dryBest", fn := fun _ => fun
  | [d] => { results := [.lit (.bool true)], args := [d] }
  | _ => none }
def dryBestRow : OpenClaim := { program := "ytilbconikmpadaagreat", sum := "a9e197d50a2b10df374fb23b99344f734303af67deecce35738dbd0fca393151", func := "foreshore/foreshorelaw08.DryBest", spec := "dryBest", unfollowed := true, recurses := true, plainKeys := false, apart := false }
def DryBestSaid : Prop := dryBestRow.holds Tryz.pinned (OpenSpec.ofChange dryBestSpec)

/-- ITS FALSE NEIGHBOUR: 'it returns false'. Refute it at one input. -/
def dryBestWrong : ChangeSpec := { name := "dryBest", fn := fun _ => fun
  | [d] => { results := [.lit (.bool false)], args := [d] }
  | _ => none }
def DryBestWrongFalsely : Prop := dryBestRow.holds Tryz.pinned (OpenSpec.ofChange dryBestWrong)

/-- 'foreshorelaw08.DryLeaves': WHATEVER THE INPUT: true; the input reads as it did. -/
def dryLeavesSpec : ChangeSpec := { name := "dryLeaves", fn := fun _ => fun
  | [d] => { results := [.lit (.bool true)], args := [d] }
  | _ => none }
def dryLeavesRow : OpenClaim := { program := "ytilbconikmpadaagreat", sum := "a9e197d50a2b10df374fb23b99344f734303af67deecce35738dbd0fca393151", func := "foreshore/foreshorelaw08.DryLeaves", spec := "dryLeaves", unfollowed := true, recurses := true, plainKeys := false, apart := false }
def DryLeavesSaid : Prop := dryLeavesRow.holds Tryz.pinned (OpenSpec.ofChange dryLeavesSpec)

/-- ITS FALSE NEIGHBOUR: 'it returns false'. Refute it at one input. -/
def dryLeavesWrong : ChangeSpec := { name := "dryLeaves", fn := fun _ => fun
  | [d] => { results := [.lit (.bool false)], args := [d] }
  | _ => none }
def DryLeavesWrongFalsely : Prop := dryLeavesRow.holds Tryz.pinned (OpenSpec.ofChange dryLeavesWrong)

/-- 'foreshorelaw08.DryNames': WHATEVER THE INPUT: true; the input reads as it did. -/
def dryNamesSpec : ChangeSpec := { name := "dryNames", fn := fun _ => fun
  | [] => { results := [.lit (.bool true)], args := [] }
  | _ => none }
def dryNamesRow : OpenClaim := { program := "ytilbconikmpadaagreat", sum := "a9e197d50a2b10df374fb23b99344f734303af67deecce35738dbd0fca393151", func := "foreshore/foreshorelaw08.DryNames", spec := "dryNames", unfollowed := true, recurses := true, plainKeys := false, apart := false }
def DryNamesSaid : Prop := dryNamesRow.holds Tryz.pinned (OpenSpec.ofChange dryNamesSpec)

/-- ITS FALSE NEIGHBOUR: 'it returns false'. Refute it at one input. -/
def dryNamesWrong : ChangeSpec := { name := "dryNames", fn := fun _ => fun
  | [] => { results := [.lit (.bool false)], args := [] }
  | _ => none }
def DryNamesWrongFalsely : Prop := dryNamesRow.holds Tryz.pinned (OpenSpec.ofChange dryNamesWrong)

/-- 'foreshorelaw08.DryTruth': WHATEVER THE INPUT: true; the input reads as it did. -/
def dryTruthSpec : ChangeSpec := { name := "dryTruth", fn := fun _ => fun
  | [d1, d2, d3] => { results := [.lit (.bool true)], args := [d1, d2, d3] }
  | _ => none }
def dryTruthRow : OpenClaim := { program := "ytilbconikmpadaagreat", sum := "a9e197d50a2b10df374fb23b99344f734303af67deecce35738dbd0fca393151", func := "foreshore/foreshorelaw08.DryTruth", spec := "dryTruth", unfollowed := true, recurses := true, plainKeys := false, apart := false }
def DryTruthSaid : Prop := dryTruthRow.holds Tryz.pinned (OpenSpec.ofChange dryTruthSpec)

/-- ITS FALSE NEIGHBOUR: 'it returns false'. Refute it at one input. -/
def dryTruthWrong : ChangeSpec := { name := "dryTruth", fn := fun _ => fun
  | [d1, d2, d3] => { results := [.lit (.bool false)], args := [d1, d2, d3] }
  | _ => none }
def DryTruthWrongFalsely : Prop := dryTruthRow.holds Tryz.pinned (OpenSpec.ofChange dryTruthWrong)

/-- 'foreshorelaw08.DryEnds': WHATEVER THE INPUT: true; the input reads as it did. -/
def dryEndsSpec : ChangeSpec := { name := "dryEnds", fn := fun _ => fun
  | [d1, d2, d3] => { results := [.lit (.bool true)], args := [d1, d2, d3] }
  | _ => none }
def dryEndsRow : OpenClaim := { program := "ytilbconikmpadaagreat", sum := "a9e197d50a2b10df374fb23b99344f734303af67deecce35738dbd0fca393151", func := "foreshore/foreshorelaw08.DryEnds", spec := "dryEnds", unfollowed := true, recurses := true, plainKeys := false, apart := false }
def DryEndsSaid : Prop := dryEndsRow.holds Tryz.pinned (OpenSpec.ofChange dryEndsSpec)

/-- ITS FALSE NEIGHBOUR: 'it returns false'. Refute it at one input. -/
def dryEndsWrong : ChangeSpec := { name := "dryEnds", fn := fun _ => fun
  | [d1, d2, d3] => { results := [.lit (.bool false)], args := [d1, d2, d3] }
  | _ => none }
def DryEndsWrongFalsely : Prop := dryEndsRow.holds Tryz.pinned (OpenSpec.ofChange dryEndsWrong)

/-- 'foreshorelaw08.DryTide': WHATEVER THE INPUT: true; the input reads as it did. -/
def dryTideSpec : ChangeSpec := { name := "dryTide", fn := fun _ => fun
  | [d1, d2, d3, d4] => { results := [.lit (.bool true)], args := [d1, d2, d3, d4] }
  | _ => none }
def dryTideRow : OpenClaim := { program := "ytilbconikmpadaagreat", sum := "a9e197d50a2b10df374fb23b99344f734303af67deecce35738dbd0fca393151", func := "foreshore/foreshorelaw08.DryTide", spec := "dryTide", unfollowed := true, recurses := true, plainKeys := false, apart := false }
def DryTideSaid : Prop := dryTideRow.holds Tryz.pinned (OpenSpec.ofChange dryTideSpec)

/-- ITS FALSE NEIGHBOUR: 'it returns false'. Refute it at one input. -/
def dryTideWrong : ChangeSpec := { name := "dryTide", fn := fun _ => fun
  | [d1, d2, d3, d4] => { results := [.lit (.bool false)], args := [d1, d2, d3, d4] }
  | _ => none }
def DryTideWrongFalsely : Prop := dryTideRow.holds Tryz.pinned (OpenSpec.ofChange dryTideWrong)

/-- 'foreshorelaw08.DryNoBetter': WHATEVER THE INPUT: true; the input reads as it did. -/
def dryNoBetterSpec : ChangeSpec := { name := "dryNoBetter", fn := fun _ => fun
  | [d1, d2, d3, d4] => { results := [.lit (.bool true)], args := [d1, d2, d3, d4] }
  | _ => none }
def dryNoBetterRow : OpenClaim := { program := "ytilbconikmpadaagreat", sum := "a9e197d50a2b10df374fb23b99344f734303af67deecce35738dbd0fca393151", func := "foreshore/foreshorelaw08.DryNoBetter", spec := "dryNoBetter", unfollowed := true, recurses := true, plainKeys := false, apart := false }
def DryNoBetterSaid : Prop := dryNoBetterRow.holds Tryz.pinned (OpenSpec.ofChange dryNoBetterSpec)

/-- ITS FALSE NEIGHBOUR: 'it returns false'. Refute it at one input. -/
def dryNoBetterWrong : ChangeSpec := { name := "dryNoBetter", fn := fun _ => fun
  | [d1, d2, d3, d4] => { results := [.lit (.bool false)], args := [d1, d2, d3, d4] }
  | _ => none }
def DryNoBetterWrongFalsely : Prop := dryNoBetterRow.holds Tryz.pinned (OpenSpec.ofChange dryNoBetterWrong)

/-- 'foreshorelaw08.DryDrier': WHATEVER THE INPUT: true; the input reads as it did. -/
def dryDrierSpec : ChangeSpec := { name := "dryDrier", fn := fun _ => fun
  | [d1, d2, d3, d4, d5] => { results := [.lit (.bool true)], args := [d1, d2, d3, d4, d5] }
  | _ => none }
def dryDrierRow : OpenClaim := { program := "ytilbconikmpadaagreat", sum := "a9e197d50a2b10df374fb23b99344f734303af67deecce35738dbd0fca393151", func := "foreshore/foreshorelaw08.DryDrier", spec := "dryDrier", unfollowed := true, recurses := true, plainKeys := false, apart := false }
def DryDrierSaid : Prop := dryDrierRow.holds Tryz.pinned (OpenSpec.ofChange dryDrierSpec)

/-- ITS FALSE NEIGHBOUR: 'it returns false'. Refute it at one input. -/
def dryDrierWrong : ChangeSpec := { name := "dryDrier", fn := fun _ => fun
  | [d1, d2, d3, d4, d5] => { results := [.lit (.bool false)], args := [d1, d2, d3, d4, d5] }
  | _ => none }
def DryDrierWrongFalsely : Prop := dryDrierRow.holds Tryz.pinned (OpenSpec.ofChange dryDrierWrong)

/-- 'foreshorelaw08.DryLower': WHATEVER THE INPUT: true; the input reads as it did. -/
def dryLowerSpec : ChangeSpec := { name := "dryLower", fn := fun _ => fun
  | [d1, d2, d3, d4] => { results := [.lit (.bool true)], args := [d1, d2, d3, d4] }
  | _ => none }
def dryLowerRow : OpenClaim := { program := "ytilbconikmpadaagreat", sum := "a9e197d50a2b10df374fb23b99344f734303af67deecce35738dbd0fca393151", func := "foreshore/foreshorelaw08.DryLower", spec := "dryLower", unfollowed := true, recurses := true, plainKeys := false, apart := false }
def DryLowerSaid : Prop := dryLowerRow.holds Tryz.pinned (OpenSpec.ofChange dryLowerSpec)

/-- ITS FALSE NEIGHBOUR: 'it returns false'. Refute it at one input. -/
def dryLowerWrong : ChangeSpec := { name := "dryLower", fn := fun _ => fun
  | [d1, d2, d3, d4] => { results := [.lit (.bool false)], args := [d1, d2, d3, d4] }
  | _ => none }
def DryLowerWrongFalsely : Prop := dryLowerRow.holds Tryz.pinned (OpenSpec.ofChange dryLowerWrong)

/-- 'foreshorelaw08.DryMore': WHATEVER THE INPUT: true; the input reads as it did. -/
def dryMoreSpec : ChangeSpec := { name := "dryMore", fn := fun _ => fun
  | [d1, d2, d3, d4] => { results := [.lit (.bool true)], args := [d1, d2, d3, d4] }
  | _ => none }
def dryMoreRow : OpenClaim := { program := "ytilbconikmpadaagreat", sum := "a9e197d50a2b10df374fb23b99344f734303af67deecce35738dbd0fca393151", func := "foreshore/foreshorelaw08.DryMore", spec := "dryMore", unfollowed := true, recurses := true, plainKeys := false, apart := false }
def DryMoreSaid : Prop := dryMoreRow.holds Tryz.pinned (OpenSpec.ofChange dryMoreSpec)

/-- ITS FALSE NEIGHBOUR: 'it returns false'. Refute it at one input. -/
def dryMoreWrong : ChangeSpec := { name := "dryMore", fn := fun _ => fun
  | [d1, d2, d3, d4] => { results := [.lit (.bool false)], args := [d1, d2, d3, d4] }
  | _ => none }
def DryMoreWrongFalsely : Prop := dryMoreRow.holds Tryz.pinned (OpenSpec.ofChange dryMoreWrong)

/-- 'foreshorelaw08.DryFirst': WHATEVER THE INPUT: true; the input reads as it did. -/
def dryFirstSpec : ChangeSpec := { name := "dryFirst", fn := fun _ => fun
  | [d] => { results := [.lit (.bool true)], args := [d] }
  | _ => none }
def dryFirstRow : OpenClaim := { program := "ytilbconikmpadaagreat", sum := "a9e197d50a2b10df374fb23b99344f734303af67deecce35738dbd0fca393151", func := "foreshore/foreshorelaw08.DryFirst", spec := "dryFirst", unfollowed := true, recurses := true, plainKeys := false, apart := false }
def DryFirstSaid : Prop := dryFirstRow.holds Tryz.pinned (OpenSpec.ofChange dryFirstSpec)

/-- ITS FALSE NEIGHBOUR: 'it returns false'. Refute it at one input. -/
def dryFirstWrong : ChangeSpec := { name := "dryFirst", fn := fun _ => fun
  | [d] => { results := [.lit (.bool false)], args := [d] }
  | _ => none }
def DryFirstWrongFalsely : Prop := dryFirstRow.holds Tryz.pinned (OpenSpec.ofChange dryFirstWrong)

/-- 'foreshorelaw08.DryLeft': WHATEVER THE INPUT: true; the input reads as it did. -/
def dryLeftSpec : ChangeSpec := { name := "dryLeft", fn := fun _ => fun
  | [d1, d2] => { results := [.lit (.bool true)], args := [d1, d2] }
  | _ => none }
def dryLeftRow : OpenClaim := { program := "ytilbconikmpadaagreat", sum := "a9e197d50a2b10df374fb23b99344f734303af67deecce35738dbd0fca393151", func := "foreshore/foreshorelaw08.DryLeft", spec := "dryLeft", unfollowed := true, recurses := true, plainKeys := false, apart := false }
def DryLeftSaid : Prop := dryLeftRow.holds Tryz.pinned (OpenSpec.ofChange dryLeftSpec)

/-- ITS FALSE NEIGHBOUR: 'it returns false'. Refute it at one input. -/
def dryLeftWrong : ChangeSpec := { name := "dryLeft", fn := fun _ => fun
  | [d1, d2] => { results := [.lit (.bool false)], args := [d1, d2] }
  | _ => none }
def DryLeftWrongFalsely : Prop := dryLeftRow.holds Tryz.pinned (OpenSpec.ofChange dryLeftWrong)

/-- 'foreshoretop.TopSoaked': WHATEVER THE INPUT: true; the input reads as it did. -/
def topSoakedSpec : ChangeSpec := { name := "topSoaked", fn := fun _ => fun
  | [d1, d2, d3] => { results := [.lit (.bool true)], args := [d1, d2, d3] }
  | _ => none }
def topSoakedRow : OpenClaim := { program := "ytilbconikmpadaagreat", sum := "a9e197d50a2b10df374fb23b99344f734303af67deecce35738dbd0fca393151", func := "foreshore/foreshoretop.TopSoaked", spec := "topSoaked", unfollowed := true, recurses := true, plainKeys := false, apart := false }
def TopSoakedSaid : Prop := topSoakedRow.holds Tryz.pinned (OpenSpec.ofChange topSoakedSpec)

/-- ITS FALSE NEIGHBOUR: 'it returns false'. Refute it at one input. -/
def topSoakedWrong : ChangeSpec := { name := "topSoaked", fn := fun _ => fun
  | [d1, d2, d3] => { results := [.lit (.bool false)], args := [d1, d2, d3] }
  | _ => none }
def TopSoakedWrongFalsely : Prop := topSoakedRow.holds Tryz.pinned (OpenSpec.ofChange topSoakedWrong)

/- THE SECOND FORM. 'bulk': how many values and letters a reading holds, each counted each time it is reached (what is shared counts as often as it is met; a slice's spare places count too). A statement '..UptoSaid' is the law's where the arguments, and the package variables that the reading takes, are together of bulk at most 1048576: NARROWER than '..Said'. Prove '..Said' where nothing that the law and all that it calls make is longer than what came in: it says more and counts as full. Else prove '..UptoSaid'. A law counts once. -/
mutual
def uptoBulk {H : Type} : DataW H → Nat
  | .lit (.string bytes) => bytes.length + 1
  | .lit _ => 1
  | .nil => 1
  | .ptr d => uptoBulk d + 1
  | .slice elems spare => uptoBulkAll elems + uptoBulkAll spare + 1
  | .agg parts => uptoBulkAll parts + 1
  | .iface _ d => uptoBulk d + 1
  | .map entries => uptoBulkEntries entries + 1
  | .held _ => 1
def uptoBulkAll {H : Type} : List (DataW H) → Nat
  | [] => 0
  | d :: r => uptoBulk d + uptoBulkAll r
def uptoBulkEntries {H : Type} : List (Lit × DataW H) → Nat
  | [] => 0
  | x :: r => uptoBulkEntry x + uptoBulkEntries r
def uptoBulkEntry {H : Type} : Lit × DataW H → Nat
  | (.string bytes, d) => bytes.length + uptoBulk d + 1
  | (_, d) => uptoBulk d + 1
 end
def uptoSmall : (H : Type) → List (DataW H) → Bool := fun _ ds => decide (uptoBulkAll ds ≤ 1048576)
def OpenSpec.upto (s : _root_.Go.ChangeSpec) : _root_.Go.OpenSpec := { _root_.Go.OpenSpec.ofChange s with cond := some uptoSmall }

/-- 'foreshorelaw08.DryPlays', WHERE WHAT IT READS IS OF BULK AT MOST 1048576: true; the input reads as it did. -/
def dryPlaysUptoRow : OpenClaim := { program := "ytilbconikmpadaagreat", sum := "a9e197d50a2b10df374fb23b99344f734303af67deecce35738dbd0fca393151", func := "foreshore/foreshorelaw08.DryPlays", spec := "dryPlays", unfollowed := true, recurses := true, plainKeys := false, apart := false, narrowed := true }
def DryPlaysUptoSaid : Prop := dryPlaysUptoRow.holds Tryz.pinned (OpenSpec.upto dryPlaysSpec)

/-- 'foreshorelaw08.DryFrees', WHERE WHAT IT READS IS OF BULK AT MOST 1048576: true; the input reads as it did. -/
def dryFreesUptoRow : OpenClaim := { program := "ytilbconikmpadaagreat", sum := "a9e197d50a2b10df374fb23b99344f734303af67deecce35738dbd0fca393151", func := "foreshore/foreshorelaw08.DryFrees", spec := "dryFrees", unfollowed := true, recurses := true, plainKeys := false, apart := false, narrowed := true }
def DryFreesUptoSaid : Prop := dryFreesUptoRow.holds Tryz.pinned (OpenSpec.upto dryFreesSpec)

/-- 'foreshorelaw08.DryLoses', WHERE WHAT IT READS IS OF BULK AT MOST 1048576: true; the input reads as it did. -/
def dryLosesUptoRow : OpenClaim := { program := "ytilbconikmpadaagreat", sum := "a9e197d50a2b10df374fb23b99344f734303af67deecce35738dbd0fca393151", func := "foreshore/foreshorelaw08.DryLoses", spec := "dryLoses", unfollowed := true, recurses := true, plainKeys := false, apart := false, narrowed := true }
def DryLosesUptoSaid : Prop := dryLosesUptoRow.holds Tryz.pinned (OpenSpec.upto dryLosesSpec)

/-- 'foreshorelaw08.DryBest', WHERE WHAT IT READS IS OF BULK AT MOST 1048576: true; the input reads as it did. -/
def dryBestUptoRow : OpenClaim := { program := "ytilbconikmpadaagreat", sum := "a9e197d50a2b10df374fb23b99344f734303af67deecce35738dbd0fca393151", func := "foreshore/foreshorelaw08.DryBest", spec := "dryBest", unfollowed := true, recurses := true, plainKeys := false, apart := false, narrowed := true }
def DryBestUptoSaid : Prop := dryBestUptoRow.holds Tryz.pinned (OpenSpec.upto dryBestSpec)

/-- 'foreshorelaw08.DryLeaves', WHERE WHAT IT READS IS OF BULK AT MOST 1048576: true; the input reads as it did. -/
def dryLeavesUptoRow : OpenClaim := { program := "ytilbconikmpadaagreat", sum := "a9e197d50a2b10df374fb23b99344f734303af67deecce35738dbd0fca393151", func := "foreshore/foreshorelaw08.DryLeaves", spec := "dryLeaves", unfollowed := true, recurses := true, plainKeys := false, apart := false, narrowed := true }
def DryLeavesUptoSaid : Prop := dryLeavesUptoRow.holds Tryz.pinned (OpenSpec.upto dryLeavesSpec)

/-- 'foreshorelaw08.DryNames', WHERE WHAT IT READS IS OF BULK AT MOST 1048576: true; the input reads as it did. -/
def dryNamesUptoRow : OpenClaim := { program := "ytilbconikmpadaagreat", sum := "a9e197d50a2b10df374fb23b99344f734303af67deecce35738dbd0fca393151", func := "foreshore/foreshorelaw08.DryNames", spec := "dryNames", unfollowed := true, recurses := true, plainKeys := false, apart := false, narrowed := true }
def DryNamesUptoSaid : Prop := dryNamesUptoRow.holds Tryz.pinned (OpenSpec.upto dryNamesSpec)

/-- 'foreshorelaw08.DryTruth', WHERE WHAT IT READS IS OF BULK AT MOST 1048576: true; the input reads as it did. -/
def dryTruthUptoRow : OpenClaim := { program := "ytilbconikmpadaagreat", sum := "a9e197d50a2b10df374fb23b99344f734303af67deecce35738dbd0fca393151", func := "foreshore/foreshorelaw08.DryTruth", spec := "dryTruth", unfollowed := true, recurses := true, plainKeys := false, apart := false, narrowed := true }
def DryTruthUptoSaid : Prop := dryTruthUptoRow.holds Tryz.pinned (OpenSpec.upto dryTruthSpec)

/-- 'foreshorelaw08.DryEnds', WHERE WHAT IT READS IS OF BULK AT MOST 1048576: true; the input reads as it did. -/
def dryEndsUptoRow : OpenClaim := { program := "ytilbconikmpadaagreat", sum := "a9e197d50a2b10df374fb23b99344f734303af67deecce35738dbd0fca393151", func := "foreshore/foreshorelaw08.DryEnds", spec := "dryEnds", unfollowed := true, recurses := true, plainKeys := false, apart := false, narrowed := true }
def DryEndsUptoSaid : Prop := dryEndsUptoRow.holds Tryz.pinned (OpenSpec.upto dryEndsSpec)

/-- 'foreshorelaw08.DryTide', WHERE WHAT IT READS IS OF BULK AT MOST 1048576: true; the input reads as it did. -/
def dryTideUptoRow : OpenClaim := { program := "ytilbconikmpadaagreat", sum := "a9e197d50a2b10df374fb23b99344f734303af67deecce35738dbd0fca393151", func := "foreshore/foreshorelaw08.DryTide", spec := "dryTide", unfollowed := true, recurses := true, plainKeys := false, apart := false, narrowed := true }
def DryTideUptoSaid : Prop := dryTideUptoRow.holds Tryz.pinned (OpenSpec.upto dryTideSpec)

/-- 'foreshorelaw08.DryNoBetter', WHERE WHAT IT READS IS OF BULK AT MOST 1048576: true; the input reads as it did. -/
def dryNoBetterUptoRow : OpenClaim := { program := "ytilbconikmpadaagreat", sum := "a9e197d50a2b10df374fb23b99344f734303af67deecce35738dbd0fca393151", func := "foreshore/foreshorelaw08.DryNoBetter", spec := "dryNoBetter", unfollowed := true, recurses := true, plainKeys := false, apart := false, narrowed := true }
def DryNoBetterUptoSaid : Prop := dryNoBetterUptoRow.holds Tryz.pinned (OpenSpec.upto dryNoBetterSpec)

/-- 'foreshorelaw08.DryDrier', WHERE WHAT IT READS IS OF BULK AT MOST 1048576: true; the input reads as it did. -/
def dryDrierUptoRow : OpenClaim := { program := "ytilbconikmpadaagreat", sum := "a9e197d50a2b10df374fb23b99344f734303af67deecce35738dbd0fca393151", func := "foreshore/foreshorelaw08.DryDrier", spec := "dryDrier", unfollowed := true, recurses := true, plainKeys := false, apart := false, narrowed := true }
def DryDrierUptoSaid : Prop := dryDrierUptoRow.holds Tryz.pinned (OpenSpec.upto dryDrierSpec)

/-- 'foreshorelaw08.DryLower', WHERE WHAT IT READS IS OF BULK AT MOST 1048576: true; the input reads as it did. -/
def dryLowerUptoRow : OpenClaim := { program := "ytilbconikmpadaagreat", sum := "a9e197d50a2b10df374fb23b99344f734303af67deecce35738dbd0fca393151", func := "foreshore/foreshorelaw08.DryLower", spec := "dryLower", unfollowed := true, recurses := true, plainKeys := false, apart := false, narrowed := true }
def DryLowerUptoSaid : Prop := dryLowerUptoRow.holds Tryz.pinned (OpenSpec.upto dryLowerSpec)

/-- 'foreshorelaw08.DryMore', WHERE WHAT IT READS IS OF BULK AT MOST 1048576: true; the input reads as it did. -/
def dryMoreUptoRow : OpenClaim := { program := "ytilbconikmpadaagreat", sum := "a9e197d50a2b10df374fb23b99344f734303af67deecce35738dbd0fca393151", func := "foreshore/foreshorelaw08.DryMore", spec := "dryMore", unfollowed := true, recurses := true, plainKeys := false, apart := false, narrowed := true }
def DryMoreUptoSaid : Prop := dryMoreUptoRow.holds Tryz.pinned (OpenSpec.upto dryMoreSpec)

/-- 'foreshorelaw08.DryFirst', WHERE WHAT IT READS IS OF BULK AT MOST 1048576: true; the input reads as it did. -/
def dryFirstUptoRow : OpenClaim := { program := "ytilbconikmpadaagreat", sum := "a9e197d50a2b10df374fb23b99344f734303af67deecce35738dbd0fca393151", func := "foreshore/foreshorelaw08.DryFirst", spec := "dryFirst", unfollowed := true, recurses := true, plainKeys := false, apart := false, narrowed := true }
def DryFirstUptoSaid : Prop := dryFirstUptoRow.holds Tryz.pinned (OpenSpec.upto dryFirstSpec)

/-- 'foreshorelaw08.DryLeft', WHERE WHAT IT READS IS OF BULK AT MOST 1048576: true; the input reads as it did. -/
def dryLeftUptoRow : OpenClaim := { program := "ytilbconikmpadaagreat", sum := "a9e197d50a2b10df374fb23b99344f734303af67deecce35738dbd0fca393151", func := "foreshore/foreshorelaw08.DryLeft", spec := "dryLeft", unfollowed := true, recurses := true, plainKeys := false, apart := false, narrowed := true }
def DryLeftUptoSaid : Prop := dryLeftUptoRow.holds Tryz.pinned (OpenSpec.upto dryLeftSpec)

/-- 'foreshoretop.TopSoaked', WHERE WHAT IT READS IS OF BULK AT MOST 1048576: true; the input reads as it did. -/
def topSoakedUptoRow : OpenClaim := { program := "ytilbconikmpadaagreat", sum := "a9e197d50a2b10df374fb23b99344f734303af67deecce35738dbd0fca393151", func := "foreshore/foreshoretop.TopSoaked", spec := "topSoaked", unfollowed := true, recurses := true, plainKeys := false, apart := false, narrowed := true }
def TopSoakedUptoSaid : Prop := topSoakedUptoRow.holds Tryz.pinned (OpenSpec.upto topSoakedSpec)

end Rows
end Go.Proofs.YtilbconikmpadaaGreat
