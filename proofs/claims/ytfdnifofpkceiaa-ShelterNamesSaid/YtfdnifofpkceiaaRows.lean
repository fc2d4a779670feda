/-
  No cell of these rows narrows 'for every input' (looked for: loops, veiled, ifaces, maps, wideKeys, modest, calm, conditions, laid).
  DERIVED. THE GIVEN ROWS OF THIS SEAT. 3 by the template 'for every input the law returns true; each argument reads behind the call as it read before'; 0 by the template 'total and deterministic' (their statements: YtfdnifofpkceiaaTotals.lean).
  GIVEN WITH THE SEED: the statements are not yours to turn. If you find one false, say at which input.
  Laid BY PROGRAM, IN A SANDBOX (cutbox-rows.mjs): the forced cells as the released guide's own fill.sh prints them over the translation bb1af52743632c5e… (all of the seat's roots in one cut). By AI agents, Wed Nov 11 2026. No macro, syntax, notation, axiom, sorry.
-/
import Derived.Test.YtfdnifofpkceiaaChecked
import GoSem.Claim
import GoSem.ClaimJoined
import GoSem.ClaimMapViews
import Derived.JoinedTies
import Derived.KernelRfl
namespace Go.Proofs.Ytfdnifofpkceiaa
/- THE CELL 'sum', in the pinned program and in every row, IS THE sha256 OF THE DUMP (.gsa) THAT YtfdnifofpkceiaaProg.lean LOADS. Nothing in Lean hashes anything: it is a label: what it is worth is what the hold of that sum in a sandbox is worth. -/
noncomputable def Try.pinned : Pinned := { name := "ytfdnifofpkceiaa", sum := "bb1af52743632c5e16fe7d08c32f6b93dea79db1479581e7daef56b64213973c", checked := Try.checked }
namespace Rows
def none {H : Type} : Left H := { results := [], args := [] }

/-- 'foreshorelaw11.ShelterLater': WHATEVER THE INPUT: true; the input reads as it did. -/
def shelterLaterSpec : ChangeSpec := { name := "shelterLater", fn := fun _ => fun
  | [d1, d2, d3, d4] => { results := [.lit (.bool true)], args := [d1, d2, d3, d4] }
  | _ => none }
def shelterLaterRow : OpenClaim := { program := "ytfdnifofpkceiaa", sum := "bb1af52743632c5e16fe7d08c32f6b93dea79db1479581e7daef56b64213973c", func := "foreshore/foreshorelaw11.ShelterLater", spec := "shelterLater", unfollowed := true, recurses := true, plainKeys := false, apart := false }
def ShelterLaterSaid : Prop := shelterLaterRow.holds Try.pinned (OpenSpec.ofChange shelterLaterSpec)

/-- ITS FALSE NEIGHBOUR: 'it returns false'. Refute it at one input. -/
def shelterLaterWrong : ChangeSpec := { name := "shelterLater", fn := fun _ => fun
  | [d1, d2, d3, d4] => { results := [.lit (.bool false)], args := [d1, d2, d3, d4] }
  | _ => none }
def ShelterLaterWrongFalsely : Prop := shelterLaterRow.holds Try.pinned (OpenSpec.ofChange shelterLaterWrong)

/-- 'foreshorelaw11.ShelterOrder': WHATEVER THE INPUT: true; the input reads as it did. -/
def shelterOrderSpec : ChangeSpec := { name := "shelterOrder", fn := fun _ => fun
  | [d1, d2, d3] => { results := [.lit (.bool true)], args := [d1, d2, d3] }
  | _ => none }
def shelterOrderRow : OpenClaim := { program := "ytfdnifofpkceiaa", sum := "bb1af52743632c5e16fe7d08c32f6b93dea79db1479581e7daef56b64213973c", func := "foreshore/foreshorelaw11.ShelterOrder", spec := "shelterOrder", unfollowed := true, recurses := true, plainKeys := false, apart := false }
def ShelterOrderSaid : Prop := shelterOrderRow.holds Try.pinned (OpenSpec.ofChange shelterOrderSpec)

/-- ITS FALSE NEIGHBOUR: 'it returns false'. Refute it at one input. -/
def shelterOrderWrong : ChangeSpec := { name := "shelterOrder", fn := fun _ => fun
  | [d1, d2, d3] => { results := [.lit (.bool false)], args := [d1, d2, d3] }
  | _ => none }
def ShelterOrderWrongFalsely : Prop := shelterOrderRow.holds Try.pinned (OpenSpec.ofChange shelterOrderWrong)

/-- 'foreshorelaw11.ShelterNames': WHATEVER THE INPUT: true; the input reads as it did. -/
def shelterNamesSpec : ChangeSpec := { name := "shelterNames", fn := fun _ => fun
  | [] => { results := [.lit (.bool true)], args := [] }
  | _ => none }
def shelterNamesRow : OpenClaim := { program := "ytfdnifofpkceiaa", sum := "bb1af52743632c5e16fe7d08c32f6b93dea79db1479581e7daef56b64213973c", func := "foreshore/foreshorelaw11.ShelterNames", spec := "shelterNames", unfollowed := true, recurses := true, plainKeys := false, apart := false }
def ShelterNamesSaid : Prop := shelterNamesRow.holds Try.pinned (OpenSpec.ofChange shelterNamesSpec)

/-- ITS FALSE NEIGHBOUR: 'it returns false'. Refute it at one input. -/
def shelterNamesWrong : ChangeSpec := { name := "shelterNames", fn := fun _ => fun
  | [] => { results := [.lit (.bool false)], args := [] }
  | _ => none }
def ShelterNamesWrongFalsely : Prop := shelterNamesRow.holds Try.pinned (OpenSpec.ofChange shelterNamesWrong)

/- THE SECOND FORM. 'bulk': how many values and letters a reading holds, each counted each time it is reached (what is shared counts as often as it is met; a slice's spare places count too). A statement '..UptoSaid' is the law's where the arguments, and the package variables that the reading takes, are together of bulk at most 1048576: NARROWER than '..Said'. Prove '..Said' where nothing that the law and all that it calls make is longer than what came in: it says more and counts as full. Else prove '..UptoSaid'. A law counts once. -/
mutual
def uptoBulk {H : Type} : DataW H → Nat
  | .lit (.string bytes) => bytes.length + 1
  | .lit _ => 1
  | .nil => 1
  | .ptr d => uptoBulk d + 1
  | .slice elems spare => uptoBulkAll elems + uptoBulkAll spare + 1
  | .agg parts => uptoBulkAll parts + 1
  | .iface _ d => uptoBulk d + 1
  | .map entries => uptoBulkEntries entries + 1
  | .held _ => 1
def uptoBulkAll {H : Type} : List (DataW H) → Nat
  | [] => 0
  | d :: r => uptoBulk d + uptoBulkAll r
def uptoBulkEntries {H : Type} : List (Lit × DataW H) → Nat
  | [] => 0
  | x :: r => uptoBulkEntry x + uptoBulkEntries r
def uptoBulkEntry {H : Type} : Lit × DataW H → Nat
  | (.string bytes, d) => bytes.length + uptoBulk d + 1
  | (_, d) => uptoBulk d + 1
 end
def uptoSmall : (H : Type) → List (DataW H) → Bool := fun _ ds => decide (uptoBulkAll ds ≤ 1048576)
def OpenSpec.upto (s : _root_.Go.ChangeSpec) : _root_.Go.OpenSpec := { _root_.Go.OpenSpec.ofChange s with cond := some uptoSmall }

/-- 'foreshorelaw11.ShelterLater', WHERE WHAT IT READS IS OF BULK AT MOST 1048576: true; the input reads as it did. -/
def shelterLaterUptoRow : OpenClaim := { program := "ytfdnifofpkceiaa", sum := "bb1af52743632c5e16fe7d08c32f6b93dea79db1479581e7daef56b64213973c", func := "foreshore/foreshorelaw11.ShelterLater", spec := "shelterLater", unfollowed := true, recurses := true, plainKeys := false, apart := false, narrowed := true }
def ShelterLaterUptoSaid : Prop := shelterLaterUptoRow.holds Try.pinned (OpenSpec.upto shelterLaterSpec)

/-- 'foreshorelaw11.ShelterOrder', WHERE WHAT IT READS IS OF BULK AT MOST 1048576: true; the input reads as it did. -/
def shelterOrderUptoRow : OpenClaim := { program := "ytfdnifofpkceiaa", sum := "bb1af52743632c5e16fe7d08c32f6b93dea79db1479581e7daef56b64213973c", func := "foreshore/foreshorelaw11.ShelterOrder", spec := "shelterOrder", unfollowed := true, recurses := true, plainKeys := false, apart := false, narrowed := true }
def ShelterOrderUptoSaid : Prop := shelterOrderUptoRow.holds Try.pinned (OpenSpec.upto shelterOrderSpec)

/-- 'foreshorelaw11.ShelterNames', WHERE WHAT IT READS IS OF BULK AT MOST 1048576: true; the input reads as it did. -/
def shelterNamesUptoRow : OpenClaim := { program := "ytfdnifofpkceiaa", sum := "bb1af52743632c5e16fe7d08c32f6b93dea79db1479581e7daef56b64213973c", func := "foreshore/foreshorelaw11.ShelterNames", spec := "shelterNames", unfollowed := true, recurses := true, plainKeys := false, apart := false, narrowed := true }
def ShelterNamesUptoSaid : Prop := shelterNamesUptoRow.holds Try.pinned (OpenSpec.upto shelterNamesSpec)

end Rows
end Go.Proofs.Ytfdnifofpkceiaa
