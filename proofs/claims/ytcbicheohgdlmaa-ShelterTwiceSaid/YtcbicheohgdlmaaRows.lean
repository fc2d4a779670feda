/-
  No cell of these rows narrows 'for every input' (looked for: loops, veiled, ifaces, maps, wideKeys, modest, calm, conditions, laid).
  DERIVED. THE GIVEN ROWS OF THIS SEAT. 12 by the template 'for every input the law returns true; each argument reads behind the call as it read before'; 0 by the template 'total and deterministic' (their statements: YtcbicheohgdlmaaTotals.lean).
  GIVEN WITH THE SEED: the statements are not yours to turn. If you find one false, say at which input.
  Laid BY PROGRAM, IN A SANDBOX (cutbox-rows.mjs): the forced cells as the released guide's own fill.sh prints them over the translation 3f573829ad76b0ce… (all of the seat's roots in one cut). By AI agents, Wed Nov 11 2026. No macro, syntax, notation, axiom, sorry.
-/
import Derived.Test.YtcbicheohgdlmaaChecked
import GoSem.Claim
import GoSem.ClaimJoined
import GoSem.ClaimMapViews
import Derived.JoinedTies
import Derived.KernelRfl
namespace Go.Proofs.Ytcbicheohgdlmaa
/- THE CELL 'sum', in the pinned program and in every row, IS THE sha256 OF THE DUMP (.gsa) THAT YtcbicheohgdlmaaProg.lean LOADS. Nothing in Lean hashes anything: it is a label: what it is worth is what the hold of that sum in a sandbox is worth. -/
noncomputable def Try.pinned : Pinned := { name := "ytcbicheohgdlmaa", sum := "3f573829ad76b0ce71f1cc11f334c2c472ccfecb75c961988caa0922d7419ea3", checked := Try.checked }
namespace Rows
def none {H : Type} : Left H := { results := [], args := [] }

/-- 'foreshorelaw11.ShelterPlays': WHATEVER THE INPUT: true; the input reads as it did. -/
def shelterPlaysSpec : ChangeSpec := { name := "shelterPlays", fn := fun _ => fun
  | [d1, d2, d3] => { results := [.lit (.bool true)], args := [d1, d2, d3] }
  | _ => none }
def shelterPlaysRow : OpenClaim := { program := "ytcbicheohgdlmaa", sum := "3f573829ad76b0ce71f1cc11f334c2c472ccfecb75c961988caa0922d7419ea3", func := "foreshore/foreshorelaw11.ShelterPlays", spec := "shelterPlays", unfollowed := true, recurses := true, plainKeys := false, apart := false }
def ShelterPlaysSaid : Prop := shelterPlaysRow.holds Try.pinned (OpenSpec.ofChange shelterPlaysSpec)

/-- ITS FALSE NEIGHBOUR: 'it returns false'. Refute it at one input. -/
def shelterPlaysWrong : ChangeSpec := { name := "shelterPlays", fn := fun _ => fun
  | [d1, d2, d3] => { results := [.lit (.bool false)], args := [d1, d2, d3] }
  | _ => none }
def ShelterPlaysWrongFalsely : Prop := shelterPlaysRow.holds Try.pinned (OpenSpec.ofChange shelterPlaysWrong)

/-- 'foreshorelaw11.ShelterSaved': WHATEVER THE INPUT: true; the input reads as it did. -/
def shelterSavedSpec : ChangeSpec := { name := "shelterSaved", fn := fun _ => fun
  | [d1, d2, d3] => { results := [.lit (.bool true)], args := [d1, d2, d3] }
  | _ => none }
def shelterSavedRow : OpenClaim := { program := "ytcbicheohgdlmaa", sum := "3f573829ad76b0ce71f1cc11f334c2c472ccfecb75c961988caa0922d7419ea3", func := "foreshore/foreshorelaw11.ShelterSaved", spec := "shelterSaved", unfollowed := true, recurses := true, plainKeys := false, apart := false }
def ShelterSavedSaid : Prop := shelterSavedRow.holds Try.pinned (OpenSpec.ofChange shelterSavedSpec)

/-- ITS FALSE NEIGHBOUR: 'it returns false'. Refute it at one input. -/
def shelterSavedWrong : ChangeSpec := { name := "shelterSaved", fn := fun _ => fun
  | [d1, d2, d3] => { results := [.lit (.bool false)], args := [d1, d2, d3] }
  | _ => none }
def ShelterSavedWrongFalsely : Prop := shelterSavedRow.holds Try.pinned (OpenSpec.ofChange shelterSavedWrong)

/-- 'foreshorelaw11.ShelterBest': WHATEVER THE INPUT: true; the input reads as it did. -/
def shelterBestSpec : ChangeSpec := { name := "shelterBest", fn := fun _ => fun
  | [d] => { results := [.lit (.bool true)], args := [d] }
  | _ => none }
def shelterBestRow : OpenClaim := { program := "ytcbicheohgdlmaa", sum := "3f573829ad76b0ce71f1cc11f334c2c472ccfecb75c961988caa0922d7419ea3", func := "foreshore/foreshorelaw11.ShelterBest", spec := "shelterBest", unfollowed := true, recurses := true, plainKeys := false, apart := false }
def ShelterBestSaid : Prop := shelterBestRow.holds Try.pinned (OpenSpec.ofChange shelterBestSpec)

/-- ITS FALSE NEIGHBOUR: 'it returns false'. Refute it at one input. -/
def shelterBestWrong : ChangeSpec := { name := "shelterBest", fn := fun _ => fun
  | [d] => { results := [.lit (.bool false)], args := [d] }
  | _ => none }
def ShelterBestWrongFalsely : Prop := shelterBestRow.holds Try.pinned (OpenSpec.ofChange shelterBestWrong)

/-- 'foreshorelaw11.ShelterLeft': WHATEVER THE INPUT: true; the input reads as it did. -/
def shelterLeftSpec : ChangeSpec := { name := "shelterLeft", fn := fun _ => fun
  | [d1, d2, d3] => { results := [.lit (.bool true)], args := [d1, d2, d3] }
  | _ => none }
def shelterLeftRow : OpenClaim := { program := "ytcbicheohgdlmaa", sum := "3f573829ad76b0ce71f1cc11f334c2c472ccfecb75c961988caa0922d7419ea3", func := "foreshore/foreshorelaw11.ShelterLeft", spec := "shelterLeft", unfollowed := true, recurses := true, plainKeys := false, apart := false }
def ShelterLeftSaid : Prop := shelterLeftRow.holds Try.pinned (OpenSpec.ofChange shelterLeftSpec)

/-- ITS FALSE NEIGHBOUR: 'it returns false'. Refute it at one input. -/
def shelterLeftWrong : ChangeSpec := { name := "shelterLeft", fn := fun _ => fun
  | [d1, d2, d3] => { results := [.lit (.bool false)], args := [d1, d2, d3] }
  | _ => none }
def ShelterLeftWrongFalsely : Prop := shelterLeftRow.holds Try.pinned (OpenSpec.ofChange shelterLeftWrong)

/-- 'foreshorelaw11.ShelterMore': WHATEVER THE INPUT: true; the input reads as it did. -/
def shelterMoreSpec : ChangeSpec := { name := "shelterMore", fn := fun _ => fun
  | [d1, d2] => { results := [.lit (.bool true)], args := [d1, d2] }
  | _ => none }
def shelterMoreRow : OpenClaim := { program := "ytcbicheohgdlmaa", sum := "3f573829ad76b0ce71f1cc11f334c2c472ccfecb75c961988caa0922d7419ea3", func := "foreshore/foreshorelaw11.ShelterMore", spec := "shelterMore", unfollowed := true, recurses := true, plainKeys := false, apart := false }
def ShelterMoreSaid : Prop := shelterMoreRow.holds Try.pinned (OpenSpec.ofChange shelterMoreSpec)

/-- ITS FALSE NEIGHBOUR: 'it returns false'. Refute it at one input. -/
def shelterMoreWrong : ChangeSpec := { name := "shelterMore", fn := fun _ => fun
  | [d1, d2] => { results := [.lit (.bool false)], args := [d1, d2] }
  | _ => none }
def ShelterMoreWrongFalsely : Prop := shelterMoreRow.holds Try.pinned (OpenSpec.ofChange shelterMoreWrong)

/-- 'foreshorelaw11.ShelterLater': WHATEVER THE INPUT: true; the input reads as it did. -/
def shelterLaterSpec : ChangeSpec := { name := "shelterLater", fn := fun _ => fun
  | [d1, d2, d3, d4] => { results := [.lit (.bool true)], args := [d1, d2, d3, d4] }
  | _ => none }
def shelterLaterRow : OpenClaim := { program := "ytcbicheohgdlmaa", sum := "3f573829ad76b0ce71f1cc11f334c2c472ccfecb75c961988caa0922d7419ea3", func := "foreshore/foreshorelaw11.ShelterLater", spec := "shelterLater", unfollowed := true, recurses := true, plainKeys := false, apart := false }
def ShelterLaterSaid : Prop := shelterLaterRow.holds Try.pinned (OpenSpec.ofChange shelterLaterSpec)

/-- ITS FALSE NEIGHBOUR: 'it returns false'. Refute it at one input. -/
def shelterLaterWrong : ChangeSpec := { name := "shelterLater", fn := fun _ => fun
  | [d1, d2, d3, d4] => { results := [.lit (.bool false)], args := [d1, d2, d3, d4] }
  | _ => none }
def ShelterLaterWrongFalsely : Prop := shelterLaterRow.holds Try.pinned (OpenSpec.ofChange shelterLaterWrong)

/-- 'foreshorelaw11.ShelterWorth': WHATEVER THE INPUT: true; the input reads as it did. -/
def shelterWorthSpec : ChangeSpec := { name := "shelterWorth", fn := fun _ => fun
  | [d] => { results := [.lit (.bool true)], args := [d] }
  | _ => none }
def shelterWorthRow : OpenClaim := { program := "ytcbicheohgdlmaa", sum := "3f573829ad76b0ce71f1cc11f334c2c472ccfecb75c961988caa0922d7419ea3", func := "foreshore/foreshorelaw11.ShelterWorth", spec := "shelterWorth", unfollowed := true, recurses := true, plainKeys := false, apart := false }
def ShelterWorthSaid : Prop := shelterWorthRow.holds Try.pinned (OpenSpec.ofChange shelterWorthSpec)

/-- ITS FALSE NEIGHBOUR: 'it returns false'. Refute it at one input. -/
def shelterWorthWrong : ChangeSpec := { name := "shelterWorth", fn := fun _ => fun
  | [d] => { results := [.lit (.bool false)], args := [d] }
  | _ => none }
def ShelterWorthWrongFalsely : Prop := shelterWorthRow.holds Try.pinned (OpenSpec.ofChange shelterWorthWrong)

/-- 'foreshorelaw11.ShelterRains': WHATEVER THE INPUT: true; the input reads as it did. -/
def shelterRainsSpec : ChangeSpec := { name := "shelterRains", fn := fun _ => fun
  | [d1, d2, d3] => { results := [.lit (.bool true)], args := [d1, d2, d3] }
  | _ => none }
def shelterRainsRow : OpenClaim := { program := "ytcbicheohgdlmaa", sum := "3f573829ad76b0ce71f1cc11f334c2c472ccfecb75c961988caa0922d7419ea3", func := "foreshore/foreshorelaw11.ShelterRains", spec := "shelterRains", unfollowed := true, recurses := true, plainKeys := false, apart := false }
def ShelterRainsSaid : Prop := shelterRainsRow.holds Try.pinned (OpenSpec.ofChange shelterRainsSpec)

/-- ITS FALSE NEIGHBOUR: 'it returns false'. Refute it at one input. -/
def shelterRainsWrong : ChangeSpec := { name := "shelterRains", fn := fun _ => fun
  | [d1, d2, d3] => { results := [.lit (.bool false)], args := [d1, d2, d3] }
  | _ => none }
def ShelterRainsWrongFalsely : Prop := shelterRainsRow.holds Try.pinned (OpenSpec.ofChange shelterRainsWrong)

/-- 'foreshorelaw11.ShelterOrder': WHATEVER THE INPUT: true; the input reads as it did. -/
def shelterOrderSpec : ChangeSpec := { name := "shelterOrder", fn := fun _ => fun
  | [d1, d2, d3] => { results := [.lit (.bool true)], args := [d1, d2, d3] }
  | _ => none }
def shelterOrderRow : OpenClaim := { program := "ytcbicheohgdlmaa", sum := "3f573829ad76b0ce71f1cc11f334c2c472ccfecb75c961988caa0922d7419ea3", func := "foreshore/foreshorelaw11.ShelterOrder", spec := "shelterOrder", unfollowed := true, recurses := true, plainKeys := false, apart := false }
def ShelterOrderSaid : Prop := shelterOrderRow.holds Try.pinned (OpenSpec.ofChange shelterOrderSpec)

/-- ITS FALSE NEIGHBOUR: 'it returns false'. Refute it at one input. -/
def shelterOrderWrong : ChangeSpec := { name := "shelterOrder", fn := fun _ => fun
  | [d1, d2, d3] => { results := [.lit (.bool false)], args := [d1, d2, d3] }
  | _ => none }
def ShelterOrderWrongFalsely : Prop := shelterOrderRow.holds Try.pinned (OpenSpec.ofChange shelterOrderWrong)

/-- 'foreshorelaw11.ShelterTwice': WHATEVER THE INPUT: true; the input reads as it did. -/
def shelterTwiceSpec : ChangeSpec := { name := "shelterTwice", fn := fun _ => fun
  | [d] => { results := [.lit (.bool true)], args := [d] }
  | _ => none }
def shelterTwiceRow : OpenClaim := { program := "ytcbicheohgdlmaa", sum := "3f573829ad76b0ce71f1cc11f334c2c472ccfecb75c961988caa0922d7419ea3", func := "foreshore/foreshorelaw11.ShelterTwice", spec := "shelterTwice", unfollowed := true, recurses := true, plainKeys := false, apart := false }
def ShelterTwiceSaid : Prop := shelterTwiceRow.holds Try.pinned (OpenSpec.ofChange shelterTwiceSpec)

/-- ITS FALSE NEIGHBOUR: 'it returns false'. Refute it at one input. -/
def shelterTwiceWrong : ChangeSpec := { name := "shelterTwice", fn := fun _ => fun
  | [d] => { results := [.lit (.bool false)], args := [d] }
  | _ => none }
def ShelterTwiceWrongFalsely : Prop := shelterTwiceRow.holds Try.pinned (OpenSpec.ofChange shelterTwiceWrong)

/-- 'foreshorelaw11.ShelterNames': WHATEVER THE INPUT: true; the input reads as it did. -/
def shelterNamesSpec : ChangeSpec := { name := "shelterNames", fn := fun _ => fun
  | [] => { results := [.lit (.bool true)], args := [] }
  | _ => none }
def shelterNamesRow : OpenClaim := { program := "ytcbicheohgdlmaa", sum := "3f573829ad76b0ce71f1cc11f334c2c472ccfecb75c961988caa0922d7419ea3", func := "foreshore/foreshorelaw11.ShelterNames", spec := "shelterNames", unfollowed := true, recurses := true, plainKeys := false, apart := false }
def ShelterNamesSaid : Prop := shelterNamesRow.holds Try.pinned (OpenSpec.ofChange shelterNamesSpec)

/-- ITS FALSE NEIGHBOUR: 'it returns false'. Refute it at one input. -/
def shelterNamesWrong : ChangeSpec := { name := "shelterNames", fn := fun _ => fun
  | [] => { results := [.lit (.bool false)], args := [] }
  | _ => none }
def ShelterNamesWrongFalsely : Prop := shelterNamesRow.holds Try.pinned (OpenSpec.ofChange shelterNamesWrong)

/-- 'foreshorelaw11.ShelterEnough': WHATEVER THE INPUT: true; the input reads as it did. -/
def shelterEnoughSpec : ChangeSpec := { name := "shelterEnough", fn := fun _ => fun
  | [d] => { results := [.lit (.bool true)], args := [d] }
  | _ => none }
def shelterEnoughRow : OpenClaim := { program := "ytcbicheohgdlmaa", sum := "3f573829ad76b0ce71f1cc11f334c2c472ccfecb75c961988caa0922d7419ea3", func := "foreshore/foreshorelaw11.ShelterEnough", spec := "shelterEnough", unfollowed := true, recurses := true, plainKeys := false, apart := false }
def ShelterEnoughSaid : Prop := shelterEnoughRow.holds Try.pinned (OpenSpec.ofChange shelterEnoughSpec)

/-- ITS FALSE NEIGHBOUR: 'it returns false'. Refute it at one input. -/
def shelterEnoughWrong : ChangeSpec := { name := "shelterEnough", fn := fun _ => fun
  | [d] => { results := [.lit (.bool false)], args := [d] }
  | _ => none }
def ShelterEnoughWrongFalsely : Prop := shelterEnoughRow.holds Try.pinned (OpenSpec.ofChange shelterEnoughWrong)

/- THE SECOND FORM. 'bulk': how many values and letters a reading holds, each counted each time it is reached (what is shared counts as often as it is met; a slice's spare places count too). A statement '..UptoSaid' is the law's where the arguments, and the package variables that the reading takes, are together of bulk at most 1048576: NARROWER than '..Said'. Prove '..Said' where nothing that the law and all that it calls make is longer than what came in: it says more and counts as full. Else prove '..UptoSaid'. A law counts once. -/
mutual
def uptoBulk {H : Type} : DataW H → Nat
  | .lit (.string bytes) => bytes.length + 1
  | .lit _ => 1
  | .nil => 1
  | .ptr d => uptoBulk d + 1
  | .slice elems spare => uptoBulkAll elems + uptoBulkAll spare + 1
  | .agg parts => uptoBulkAll parts + 1
  | .iface _ d => uptoBulk d + 1
  | .map entries => uptoBulkEntries entries + 1
  | .held _ => 1
def uptoBulkAll {H : Type} : List (DataW H) → Nat
  | [] => 0
  | d :: r => uptoBulk d + uptoBulkAll r
def uptoBulkEntries {H : Type} : List (Lit × DataW H) → Nat
  | [] => 0
  | x :: r => uptoBulkEntry x + uptoBulkEntries r
def uptoBulkEntry {H : Type} : Lit × DataW H → Nat
  | (.string bytes, d) => bytes.length + uptoBulk d + 1
  | (_, d) => uptoBulk d + 1
 end
def uptoSmall : (H : Type) → List (DataW H) → Bool := fun _ ds => decide (uptoBulkAll ds ≤ 1048576)
def OpenSpec.upto (s : _root_.Go.ChangeSpec) : _root_.Go.OpenSpec := { _root_.Go.OpenSpec.ofChange s with cond := some uptoSmall }

/-- 'foreshorelaw11.ShelterPlays', WHERE WHAT IT READS IS OF BULK AT MOST 1048576: true; the input reads as it did. -/
def shelterPlaysUptoRow : OpenClaim := { program := "ytcbicheohgdlmaa", sum := "3f573829ad76b0ce71f1cc11f334c2c472ccfecb75c961988caa0922d7419ea3", func := "foreshore/foreshorelaw11.ShelterPlays", spec := "shelterPlays", unfollowed := true, recurses := true, plainKeys := false, apart := false, narrowed := true }
def ShelterPlaysUptoSaid : Prop := shelterPlaysUptoRow.holds Try.pinned (OpenSpec.upto shelterPlaysSpec)

/-- 'foreshorelaw11.ShelterSaved', WHERE WHAT IT READS IS OF BULK AT MOST 1048576: true; the input reads as it did. -/
def shelterSavedUptoRow : OpenClaim := { program := "ytcbicheohgdlmaa", sum := "3f573829ad76b0ce71f1cc11f334c2c472ccfecb75c961988caa0922d7419ea3", func := "foreshore/foreshorelaw11.ShelterSaved", spec := "shelterSaved", unfollowed := true, recurses := true, plainKeys := false, apart := false, narrowed := true }
def ShelterSavedUptoSaid : Prop := shelterSavedUptoRow.holds Try.pinned (OpenSpec.upto shelterSavedSpec)

/-- 'foreshorelaw11.ShelterBest', WHERE WHAT IT READS IS OF BULK AT MOST 1048576: true; the input reads as it did. -/
def shelterBestUptoRow : OpenClaim := { program := "ytcbicheohgdlmaa", sum := "3f573829ad76b0ce71f1cc11f334c2c472ccfecb75c961988caa0922d7419ea3", func := "foreshore/foreshorelaw11.ShelterBest", spec := "shelterBest", unfollowed := true, recurses := true, plainKeys := false, apart := false, narrowed := true }
def ShelterBestUptoSaid : Prop := shelterBestUptoRow.holds Try.pinned (OpenSpec.upto shelterBestSpec)

/-- 'foreshorelaw11.ShelterLeft', WHERE WHAT IT READS IS OF BULK AT MOST 1048576: true; the input reads as it did. -/
def shelterLeftUptoRow : OpenClaim := { program := "ytcbicheohgdlmaa", sum := "3f573829ad76b0ce71f1cc11f334c2c472ccfecb75c961988caa0922d7419ea3", func := "foreshore/foreshorelaw11.ShelterLeft", spec := "shelterLeft", unfollowed := true, recurses := true, plainKeys := false, apart := false, narrowed := true }
def ShelterLeftUptoSaid : Prop := shelterLeftUptoRow.holds Try.pinned (OpenSpec.upto shelterLeftSpec)

/-- 'foreshorelaw11.ShelterMore', WHERE WHAT IT READS IS OF BULK AT MOST 1048576: true; the input reads as it did. -/
def shelterMoreUptoRow : OpenClaim := { program := "ytcbicheohgdlmaa", sum := "3f573829ad76b0ce71f1cc11f334c2c472ccfecb75c961988caa0922d7419ea3", func := "foreshore/foreshorelaw11.ShelterMore", spec := "shelterMore", unfollowed := true, recurses := true, plainKeys := false, apart := false, narrowed := true }
def ShelterMoreUptoSaid : Prop := shelterMoreUptoRow.holds Try.pinned (OpenSpec.upto shelterMoreSpec)

/-- 'foreshorelaw11.ShelterLater', WHERE WHAT IT READS IS OF BULK AT MOST 1048576: true; the input reads as it did. -/
def shelterLaterUptoRow : OpenClaim := { program := "ytcbicheohgdlmaa", sum := "3f573829ad76b0ce71f1cc11f334c2c472ccfecb75c961988caa0922d7419ea3", func := "foreshore/foreshorelaw11.ShelterLater", spec := "shelterLater", unfollowed := true, recurses := true, plainKeys := false, apart := false, narrowed := true }
def ShelterLaterUptoSaid : Prop := shelterLaterUptoRow.holds Try.pinned (OpenSpec.upto shelterLaterSpec)

/-- 'foreshorelaw11.ShelterWorth', WHERE WHAT IT READS IS OF BULK AT MOST 1048576: true; the input reads as it did. -/
def shelterWorthUptoRow : OpenClaim := { program := "ytcbicheohgdlmaa", sum := "3f573829ad76b0ce71f1cc11f334c2c472ccfecb75c961988caa0922d7419ea3", func := "foreshore/foreshorelaw11.ShelterWorth", spec := "shelterWorth", unfollowed := true, recurses := true, plainKeys := false, apart := false, narrowed := true }
def ShelterWorthUptoSaid : Prop := shelterWorthUptoRow.holds Try.pinned (OpenSpec.upto shelterWorthSpec)

/-- 'foreshorelaw11.ShelterRains', WHERE WHAT IT READS IS OF BULK AT MOST 1048576: true; the input reads as it did. -/
def shelterRainsUptoRow : OpenClaim := { program := "ytcbicheohgdlmaa", sum := "3f573829ad76b0ce71f1cc11f334c2c472ccfecb75c961988caa0922d7419ea3", func := "foreshore/foreshorelaw11.ShelterRains", spec := "shelterRains", unfollowed := true, recurses := true, plainKeys := false, apart := false, narrowed := true }
def ShelterRainsUptoSaid : Prop := shelterRainsUptoRow.holds Try.pinned (OpenSpec.upto shelterRainsSpec)

/-- 'foreshorelaw11.ShelterOrder', WHERE WHAT IT READS IS OF BULK AT MOST 1048576: true; the input reads as it did. -/
def shelterOrderUptoRow : OpenClaim := { program := "ytcbicheohgdlmaa", sum := "3f573829ad76b0ce71f1cc11f334c2c472ccfecb75c961988caa0922d7419ea3", func := "foreshore/foreshorelaw11.ShelterOrder", spec := "shelterOrder", unfollowed := true, recurses := true, plainKeys := false, apart := false, narrowed := true }
def ShelterOrderUptoSaid : Prop := shelterOrderUptoRow.holds Try.pinned (OpenSpec.upto shelterOrderSpec)

/-- 'foreshorelaw11.ShelterTwice', WHERE WHAT IT READS IS OF BULK AT MOST 1048576: true; the input reads as it did. -/
def shelterTwiceUptoRow : OpenClaim := { program := "ytcbicheohgdlmaa", sum := "3f573829ad76b0ce71f1cc11f334c2c472ccfecb75c961988caa0922d7419ea3", func := "foreshore/foreshorelaw11.ShelterTwice", spec := "shelterTwice", unfollowed := true, recurses := true, plainKeys := false, apart := false, narrowed := true }
def ShelterTwiceUptoSaid : Prop := shelterTwiceUptoRow.holds Try.pinned (OpenSpec.upto shelterTwiceSpec)

/-- 'foreshorelaw11.ShelterNames', WHERE WHAT IT READS IS OF BULK AT MOST 1048576: true; the input reads as it did. -/
def shelterNamesUptoRow : OpenClaim := { program := "ytcbicheohgdlmaa", sum := "3f573829ad76b0ce71f1cc11f334c2c472ccfecb75c961988caa0922d7419ea3", func := "foreshore/foreshorelaw11.ShelterNames", spec := "shelterNames", unfollowed := true, recurses := true, plainKeys := false, apart := false, narrowed := true }
def ShelterNamesUptoSaid : Prop := shelterNamesUptoRow.holds Try.pinned (OpenSpec.upto shelterNamesSpec)

/-- 'foreshorelaw11.ShelterEnough', WHERE WHAT IT READS IS OF BULK AT MOST 1048576: true; the input reads as it did. -/
def shelterEnoughUptoRow : OpenClaim := { program := "ytcbicheohgdlmaa", sum := "3f573829ad76b0ce71f1cc11f334c2c472ccfecb75c961988caa0922d7419ea3", func := "foreshore/foreshorelaw11.ShelterEnough", spec := "shelterEnough", unfollowed := true, recurses := true, plainKeys := false, apart := false, narrowed := true }
def ShelterEnoughUptoSaid : Prop := shelterEnoughUptoRow.holds Try.pinned (OpenSpec.upto shelterEnoughSpec)

end Rows
end Go.Proofs.Ytcbicheohgdlmaa
