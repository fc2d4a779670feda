/-
  No cell of these rows narrows 'for every input' (looked for: loops, veiled, ifaces, maps, wideKeys, modest, calm, conditions, laid).
  DERIVED. THE GIVEN ROWS OF THIS SEAT. 4 by the template 'for every input the law returns true; each argument reads behind the call as it read before'; 0 by the template 'total and deterministic' (their statements: YtcbicheohgdlmaaGreatTotals.lean).
  GIVEN WITH THE SEED: the statements are not yours to turn. If you find one false, say at which input.
  Laid BY PROGRAM, IN A SANDBOX (cutbox-rows.mjs): the forced cells as the released guide's own fill.sh prints them over the translation 07acc402be8be42c… (all of the seat's roots in one cut). By AI agents, Wed Nov 11 2026. No macro, syntax, notation, axiom, sorry.
-/
import Derived.Test.YtcbicheohgdlmaaGreatChecked
import GoSem.Claim
import GoSem.ClaimJoined
import GoSem.ClaimMapViews
import Derived.JoinedTies
import Derived.KernelRfl
namespace Go.Proofs.YtcbicheohgdlmaaGreat
/- THE CELL 'sum', in the pinned program and in every row, IS THE sha256 OF THE DUMP (.gsa) THAT YtcbicheohgdlmaaGreatProg.lean LOADS. Nothing in Lean hashes anything: it is a label: what it is worth is what the hold of that sum in a sandbox is worth. -/
noncomputable def Tryz.pinned : Pinned := { name := "ytcbicheohgdlmaagreat", sum := "07acc402be8be42cf2adba078c8c333363c19f86685f86c5786ebd2512ece4c2", checked := Tryz.checked }
namespace Rows
def none {H : Type} : Left H := { results := [], args := [] }

/-- 'foreshorelaw11.ShelterShows': WHATEVER THE INPUT: true; the input reads as it did. -/
def shelterShowsSpec : ChangeSpec := { name := "shelterShows", fn := fun _ => fun
  | [d1, d2, d3] => { results := [.lit (.bool true)], args := [d1, d2, d3] }
  | _ => none }
def shelterShowsRow : OpenClaim := { program := "ytcbicheohgdlmaagreat", sum := "07acc402be8be42cf2adba078c8c333363c19f86685f86c5786ebd2512ece4c2", func := "foreshore/foreshorelaw11.ShelterShows", spec := "shelterShows", unfollowed := true, recurses := true, plainKeys := false, apart := false }
def ShelterShowsSaid : Prop := shelterShowsRow.holds Tryz.pinned (OpenSpec.ofChange shelterShowsSpec)

/-- ITS FALSE NEIGHBOUR: 'it returns false'. Refute it at one input. -/
def shelterShowsWrong : ChangeSpec := { name := "shelterShows", fn := fun _ => fun
  | [d1, d2, d3] => { results := [.lit (.bool false)], args := [d1, d2, d3] }
  | _ => none }
def ShelterShowsWrongFalsely : Prop := shelterShowsRow.holds Tryz.pinned (OpenSpec.ofChange shelterShowsWrong)

/-- 'foreshorelaw11.ShelterTruth': WHATEVER THE INPUT: true; the input reads as it did. -/
def shelterTruthSpec : ChangeSpec := { name := "shelterTruth", fn := fun _ => fun
  | [d1, d2] => { results := [.lit (.bool true)], args := [d1, d2] }
  | _ => none }
def shelterTruthRow : OpenClaim := { program := "ytcbicheohgdlmaagreat", sum := "07acc402be8be42cf2adba078c8c333363c19f86685f86c5786ebd2512ece4c2", func := "foreshore/foreshorelaw11.ShelterTruth", spec := "shelterTruth", unfollowed := true, recurses := true, plainKeys := false, apart := false }
def ShelterTruthSaid : Prop := shelterTruthRow.holds Tryz.pinned (OpenSpec.ofChange shelterTruthSpec)

/-- ITS FALSE NEIGHBOUR: 'it returns false'. Refute it at one input. -/
def shelterTruthWrong : ChangeSpec := { name := "shelterTruth", fn := fun _ => fun
  | [d1, d2] => { results := [.lit (.bool false)], args := [d1, d2] }
  | _ => none }
def ShelterTruthWrongFalsely : Prop := shelterTruthRow.holds Tryz.pinned (OpenSpec.ofChange shelterTruthWrong)

/-- 'foreshorelaw11.ShelterNoBetter': WHATEVER THE INPUT: true; the input reads as it did. -/
def shelterNoBetterSpec : ChangeSpec := { name := "shelterNoBetter", fn := fun _ => fun
  | [d1, d2] => { results := [.lit (.bool true)], args := [d1, d2] }
  | _ => none }
def shelterNoBetterRow : OpenClaim := { program := "ytcbicheohgdlmaagreat", sum := "07acc402be8be42cf2adba078c8c333363c19f86685f86c5786ebd2512ece4c2", func := "foreshore/foreshorelaw11.ShelterNoBetter", spec := "shelterNoBetter", unfollowed := true, recurses := true, plainKeys := false, apart := false }
def ShelterNoBetterSaid : Prop := shelterNoBetterRow.holds Tryz.pinned (OpenSpec.ofChange shelterNoBetterSpec)

/-- ITS FALSE NEIGHBOUR: 'it returns false'. Refute it at one input. -/
def shelterNoBetterWrong : ChangeSpec := { name := "shelterNoBetter", fn := fun _ => fun
  | [d1, d2] => { results := [.lit (.bool false)], args := [d1, d2] }
  | _ => none }
def ShelterNoBetterWrongFalsely : Prop := shelterNoBetterRow.holds Tryz.pinned (OpenSpec.ofChange shelterNoBetterWrong)

/-- 'foreshorelaw11.ShelterHands': WHATEVER THE INPUT: true; the input reads as it did. -/
def shelterHandsSpec : ChangeSpec := { name := "shelterHands", fn := fun _ => fun
  | [d1, d2] => { results := [.lit (.bool true)], args := [d1, d2] }
  | _ => none }
def shelterHandsRow : OpenClaim := { program := "ytcbicheohgdlmaagreat", sum := "07acc402be8be42cf2adba078c8c333363c19f86685f86c5786ebd2512ece4c2", func := "foreshore/foreshorelaw11.ShelterHands", spec := "shelterHands", unfollowed := true, recurses := true, plainKeys := false, apart := false }
def ShelterHandsSaid : Prop := shelterHandsRow.holds Tryz.pinned (OpenSpec.ofChange shelterHandsSpec)

/-- ITS FALSE NEIGHBOUR: 'it returns false'. Refute it at one input. -/
def shelterHandsWrong : ChangeSpec := { name := "shelterHands", fn := fun _ => fun
  | [d1, d2] => { results := [.lit (.bool false)], args := [d1, d2] }
  | _ => none }
def ShelterHandsWrongFalsely : Prop := shelterHandsRow.holds Tryz.pinned (OpenSpec.ofChange shelterHandsWrong)

/- THE SECOND FORM. 'bulk': how many values and letters a reading holds, each counted each time it is reached (what is shared counts as often as it is met; a slice's spare places count too). A statement '..UptoSaid' is the law's where the arguments, and the package variables that the reading takes, are together of bulk at most 1048576: NARROWER than '..Said'. Prove '..Said' where nothing that the law and all that it calls make is longer than what came in: it says more and counts as full. Else prove '..UptoSaid'. A law counts once. -/
mutual
def uptoBulk {H : Type} : DataW H → Nat
  | .lit (.string bytes) => bytes.length + 1
  | .lit _ => 1
  | .nil => 1
  | .ptr d => uptoBulk d + 1
  | .slice elems spare => uptoBulkAll elems + uptoBulkAll spare + 1
  | .agg parts => uptoBulkAll parts + 1
  | .iface _ d => uptoBulk d + 1
  | .map entries => uptoBulkEntries entries + 1
  | .held _ => 1
def uptoBulkAll {H : Type} : List (DataW H) → Nat
  | [] => 0
  | d :: r => uptoBulk d + uptoBulkAll r
def uptoBulkEntries {H : Type} : List (Lit × DataW H) → Nat
  | [] => 0
  | x :: r => uptoBulkEntry x + uptoBulkEntries r
def uptoBulkEntry {H : Type} : Lit × DataW H → Nat
  | (.string bytes, d) => bytes.length + uptoBulk d + 1
  | (_, d) => uptoBulk d + 1
 end
def uptoSmall : (H : Type) → List (DataW H) → Bool := fun _ ds => decide (uptoBulkAll ds ≤ 1048576)
def OpenSpec.upto (s : _root_.Go.ChangeSpec) : _root_.Go.OpenSpec := { _root_.Go.OpenSpec.ofChange s with cond := some uptoSmall }

/-- 'foreshorelaw11.ShelterShows', WHERE WHAT IT READS IS OF BULK AT MOST 1048576: true; the input reads as it did. -/
def shelterShowsUptoRow : OpenClaim := { program := "ytcbicheohgdlmaagreat", sum := "07acc402be8be42cf2adba078c8c333363c19f86685f86c5786ebd2512ece4c2", func := "foreshore/foreshorelaw11.ShelterShows", spec := "shelterShows", unfollowed := true, recurses := true, plainKeys := false, apart := false, narrowed := true }
def ShelterShowsUptoSaid : Prop := shelterShowsUptoRow.holds Tryz.pinned (OpenSpec.upto shelterShowsSpec)

/-- 'foreshorelaw11.ShelterTruth', WHERE WHAT IT READS IS OF BULK AT MOST 1048576: true; the input reads as it did. -/
def shelterTruthUptoRow : OpenClaim := { program := "ytcbicheohgdlmaagreat", sum := "07acc402be8be42cf2adba078c8c333363c19f86685f86c5786ebd2512ece4c2", func := "foreshore/foreshorelaw11.ShelterTruth", spec := "shelterTruth", unfollowed := true, recurses := true, plainKeys := false, apart := false, narrowed := true }
def ShelterTruthUptoSaid : Prop := shelterTruthUptoRow.holds Tryz.pinned (OpenSpec.upto shelterTruthSpec)

/-- 'foreshorelaw11.ShelterNoBetter', WHERE WHAT IT READS IS OF BULK AT MOST 1048576: true; the input reads as it did. -/
def shelterNoBetterUptoRow : OpenClaim := { program := "ytcbicheohgdlmaagreat", sum := "07acc402be8be42cf2adba078c8c333363c19f86685f86c5786ebd2512ece4c2", func := "foreshore/foreshorelaw11.ShelterNoBetter", spec := "shelterNoBetter", unfollowed := true, recurses := true, plainKeys := false, apart := false, narrowed := true }
def ShelterNoBetterUptoSaid : Prop := shelterNoBetterUptoRow.holds Tryz.pinned (OpenSpec.upto shelterNoBetterSpec)

/-- 'foreshorelaw11.ShelterHands', WHERE WHAT IT READS IS OF BULK AT MOST 1048576: true; the input reads as it did. -/
def shelterHandsUptoRow : OpenClaim := { program := "ytcbicheohgdlmaagreat", sum := "07acc402be8be42cf2adba078c8c333363c19f86685f86c5786ebd2512ece4c2", func := "foreshore/foreshorelaw11.ShelterHands", spec := "shelterHands", unfollowed := true, recurses := true, plainKeys := false, apart := false, narrowed := true }
def ShelterHandsUptoSaid : Prop := shelterHandsUptoRow.holds Tryz.pinned (OpenSpec.upto shelterHandsSpec)

end Rows
end Go.Proofs.YtcbicheohgdlmaaGreat
