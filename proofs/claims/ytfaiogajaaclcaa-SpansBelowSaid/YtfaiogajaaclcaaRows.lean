/-
  No cell of these rows narrows 'for every input' (looked for: loops, veiled, ifaces, maps, wideKeys, modest, calm, conditions, laid).
  DERIVED. THE GIVEN ROWS OF THIS SEAT. 14 by the template 'for every input the law returns true; each argument reads behind the call as it read before'; 0 by the template 'total and deterministic' (their statements: YtfaiogajaaclcaaTotals.lean).
  GIVEN WITH THE SEED: the statements are not yours to turn. If you find one false, say at which input.
  Laid BY PROGRAM, IN A SANDBOX (cutbox-rows.mjs): the forced cells as the released guide's own fill.sh prints them over the translation f7534324772cb988… (all of the seat's roots in one cut). By AI agents, Wed Nov 11 2026. No macro, syntax, notation, axiom, sorry.
-/
import Derived.Test.YtfaiogajaaclcaaChecked
import GoSem.Claim
import GoSem.ClaimJoined
import GoSem.ClaimMapViews
import Derived.JoinedTies
import Derived.KernelRfl
namespace Go.Proofs.Ytfaiogajaaclcaa
/- THE CELL 'sum', in the pinned program and in every row, IS THE sha256 OF THE DUMP (.gsa) THAT YtfaiogajaaclcaaProg.lean LOADS. Nothing in Lean hashes anything: it is a label: what it is worth is what the hold of that sum in a sandbox is worth. -/
noncomputable def Try.pinned : Pinned := { name := "ytfaiogajaaclcaa", sum := "f7534324772cb988eeb72e97d86d849b6e1f99f03e5a295049fd8de1577fdb39", checked := Try.checked }
namespace Rows
def none {H : Type} : Left H := { results := [], args := [] }

/-- 'swashplatelaw01.SpansGreatest': WHATEVER THE INPUT: true; the input reads as it did. -/
def spansGreatestSpec : ChangeSpec := { name := "spansGreatest", fn := fun _ => fun
  | [d1, d2, d3] => { results := [.lit (.bool true)], args := [d1, d2, d3] }
  | _ => none }
def spansGreatestRow : OpenClaim := { program := "ytfaiogajaaclcaa", sum := "f7534324772cb988eeb72e97d86d849b6e1f99f03e5a295049fd8de1577fdb39", func := "swashplate/swashplatelaw01.SpansGreatest", spec := "spansGreatest", unfollowed := true, recurses := true, apart := false }
def SpansGreatestSaid : Prop := spansGreatestRow.holds Try.pinned (OpenSpec.ofChange spansGreatestSpec)

/-- ITS FALSE NEIGHBOUR: 'it returns false'. Refute it at one input. -/
def spansGreatestWrong : ChangeSpec := { name := "spansGreatest", fn := fun _ => fun
  | [d1, d2, d3] => { results := [.lit (.bool false)], args := [d1, d2, d3] }
  | _ => none }
def SpansGreatestWrongFalsely : Prop := spansGreatestRow.holds Try.pinned (OpenSpec.ofChange spansGreatestWrong)

/-- 'swashplatelaw01.SpansChecks': WHATEVER THE INPUT: true; the input reads as it did. -/
def spansChecksSpec : ChangeSpec := { name := "spansChecks", fn := fun _ => fun
  | [d1, d2] => { results := [.lit (.bool true)], args := [d1, d2] }
  | _ => none }
def spansChecksRow : OpenClaim := { program := "ytfaiogajaaclcaa", sum := "f7534324772cb988eeb72e97d86d849b6e1f99f03e5a295049fd8de1577fdb39", func := "swashplate/swashplatelaw01.SpansChecks", spec := "spansChecks", unfollowed := true, recurses := true, apart := false }
def SpansChecksSaid : Prop := spansChecksRow.holds Try.pinned (OpenSpec.ofChange spansChecksSpec)

/-- ITS FALSE NEIGHBOUR: 'it returns false'. Refute it at one input. -/
def spansChecksWrong : ChangeSpec := { name := "spansChecks", fn := fun _ => fun
  | [d1, d2] => { results := [.lit (.bool false)], args := [d1, d2] }
  | _ => none }
def SpansChecksWrongFalsely : Prop := spansChecksRow.holds Try.pinned (OpenSpec.ofChange spansChecksWrong)

/-- 'swashplatelaw01.SpansBounds': WHATEVER THE INPUT: true; the input reads as it did. -/
def spansBoundsSpec : ChangeSpec := { name := "spansBounds", fn := fun _ => fun
  | [d1, d2] => { results := [.lit (.bool true)], args := [d1, d2] }
  | _ => none }
def spansBoundsRow : OpenClaim := { program := "ytfaiogajaaclcaa", sum := "f7534324772cb988eeb72e97d86d849b6e1f99f03e5a295049fd8de1577fdb39", func := "swashplate/swashplatelaw01.SpansBounds", spec := "spansBounds", unfollowed := true, recurses := true, apart := false }
def SpansBoundsSaid : Prop := spansBoundsRow.holds Try.pinned (OpenSpec.ofChange spansBoundsSpec)

/-- ITS FALSE NEIGHBOUR: 'it returns false'. Refute it at one input. -/
def spansBoundsWrong : ChangeSpec := { name := "spansBounds", fn := fun _ => fun
  | [d1, d2] => { results := [.lit (.bool false)], args := [d1, d2] }
  | _ => none }
def SpansBoundsWrongFalsely : Prop := spansBoundsRow.holds Try.pinned (OpenSpec.ofChange spansBoundsWrong)

/-- 'swashplatelaw01.SpansValues': WHATEVER THE INPUT: true; the input reads as it did. -/
def spansValuesSpec : ChangeSpec := { name := "spansValues", fn := fun _ => fun
  | [d1, d2, d3] => { results := [.lit (.bool true)], args := [d1, d2, d3] }
  | _ => none }
def spansValuesRow : OpenClaim := { program := "ytfaiogajaaclcaa", sum := "f7534324772cb988eeb72e97d86d849b6e1f99f03e5a295049fd8de1577fdb39", func := "swashplate/swashplatelaw01.SpansValues", spec := "spansValues", unfollowed := true, recurses := true, apart := false }
def SpansValuesSaid : Prop := spansValuesRow.holds Try.pinned (OpenSpec.ofChange spansValuesSpec)

/-- ITS FALSE NEIGHBOUR: 'it returns false'. Refute it at one input. -/
def spansValuesWrong : ChangeSpec := { name := "spansValues", fn := fun _ => fun
  | [d1, d2, d3] => { results := [.lit (.bool false)], args := [d1, d2, d3] }
  | _ => none }
def SpansValuesWrongFalsely : Prop := spansValuesRow.holds Try.pinned (OpenSpec.ofChange spansValuesWrong)

/-- 'swashplatelaw01.SpansBelow': WHATEVER THE INPUT: true; the input reads as it did. -/
def spansBelowSpec : ChangeSpec := { name := "spansBelow", fn := fun _ => fun
  | [d1, d2, d3] => { results := [.lit (.bool true)], args := [d1, d2, d3] }
  | _ => none }
def spansBelowRow : OpenClaim := { program := "ytfaiogajaaclcaa", sum := "f7534324772cb988eeb72e97d86d849b6e1f99f03e5a295049fd8de1577fdb39", func := "swashplate/swashplatelaw01.SpansBelow", spec := "spansBelow", unfollowed := true, recurses := true, apart := false }
def SpansBelowSaid : Prop := spansBelowRow.holds Try.pinned (OpenSpec.ofChange spansBelowSpec)

/-- ITS FALSE NEIGHBOUR: 'it returns false'. Refute it at one input. -/
def spansBelowWrong : ChangeSpec := { name := "spansBelow", fn := fun _ => fun
  | [d1, d2, d3] => { results := [.lit (.bool false)], args := [d1, d2, d3] }
  | _ => none }
def SpansBelowWrongFalsely : Prop := spansBelowRow.holds Try.pinned (OpenSpec.ofChange spansBelowWrong)

/-- 'swashplatelaw01.SpansMeets': WHATEVER THE INPUT: true; the input reads as it did. -/
def spansMeetsSpec : ChangeSpec := { name := "spansMeets", fn := fun _ => fun
  | [d1, d2, d3] => { results := [.lit (.bool true)], args := [d1, d2, d3] }
  | _ => none }
def spansMeetsRow : OpenClaim := { program := "ytfaiogajaaclcaa", sum := "f7534324772cb988eeb72e97d86d849b6e1f99f03e5a295049fd8de1577fdb39", func := "swashplate/swashplatelaw01.SpansMeets", spec := "spansMeets", unfollowed := true, recurses := true, apart := false }
def SpansMeetsSaid : Prop := spansMeetsRow.holds Try.pinned (OpenSpec.ofChange spansMeetsSpec)

/-- ITS FALSE NEIGHBOUR: 'it returns false'. Refute it at one input. -/
def spansMeetsWrong : ChangeSpec := { name := "spansMeets", fn := fun _ => fun
  | [d1, d2, d3] => { results := [.lit (.bool false)], args := [d1, d2, d3] }
  | _ => none }
def SpansMeetsWrongFalsely : Prop := spansMeetsRow.holds Try.pinned (OpenSpec.ofChange spansMeetsWrong)

/-- 'swashplatelaw01.SpansInside': WHATEVER THE INPUT: true; the input reads as it did. -/
def spansInsideSpec : ChangeSpec := { name := "spansInside", fn := fun _ => fun
  | [d1, d2] => { results := [.lit (.bool true)], args := [d1, d2] }
  | _ => none }
def spansInsideRow : OpenClaim := { program := "ytfaiogajaaclcaa", sum := "f7534324772cb988eeb72e97d86d849b6e1f99f03e5a295049fd8de1577fdb39", func := "swashplate/swashplatelaw01.SpansInside", spec := "spansInside", unfollowed := true, recurses := true, apart := false }
def SpansInsideSaid : Prop := spansInsideRow.holds Try.pinned (OpenSpec.ofChange spansInsideSpec)

/-- ITS FALSE NEIGHBOUR: 'it returns false'. Refute it at one input. -/
def spansInsideWrong : ChangeSpec := { name := "spansInside", fn := fun _ => fun
  | [d1, d2] => { results := [.lit (.bool false)], args := [d1, d2] }
  | _ => none }
def SpansInsideWrongFalsely : Prop := spansInsideRow.holds Try.pinned (OpenSpec.ofChange spansInsideWrong)

/-- 'swashplatelaw01.SpansComputes': WHATEVER THE INPUT: true; the input reads as it did. -/
def spansComputesSpec : ChangeSpec := { name := "spansComputes", fn := fun _ => fun
  | [d1, d2, d3] => { results := [.lit (.bool true)], args := [d1, d2, d3] }
  | _ => none }
def spansComputesRow : OpenClaim := { program := "ytfaiogajaaclcaa", sum := "f7534324772cb988eeb72e97d86d849b6e1f99f03e5a295049fd8de1577fdb39", func := "swashplate/swashplatelaw01.SpansComputes", spec := "spansComputes", unfollowed := true, recurses := true, apart := false }
def SpansComputesSaid : Prop := spansComputesRow.holds Try.pinned (OpenSpec.ofChange spansComputesSpec)

/-- ITS FALSE NEIGHBOUR: 'it returns false'. Refute it at one input. -/
def spansComputesWrong : ChangeSpec := { name := "spansComputes", fn := fun _ => fun
  | [d1, d2, d3] => { results := [.lit (.bool false)], args := [d1, d2, d3] }
  | _ => none }
def SpansComputesWrongFalsely : Prop := spansComputesRow.holds Try.pinned (OpenSpec.ofChange spansComputesWrong)

/-- 'swashplatelaw01.SpansEach': WHATEVER THE INPUT: true; the input reads as it did. -/
def spansEachSpec : ChangeSpec := { name := "spansEach", fn := fun _ => fun
  | [d1, d2, d3] => { results := [.lit (.bool true)], args := [d1, d2, d3] }
  | _ => none }
def spansEachRow : OpenClaim := { program := "ytfaiogajaaclcaa", sum := "f7534324772cb988eeb72e97d86d849b6e1f99f03e5a295049fd8de1577fdb39", func := "swashplate/swashplatelaw01.SpansEach", spec := "spansEach", unfollowed := true, recurses := true, apart := false }
def SpansEachSaid : Prop := spansEachRow.holds Try.pinned (OpenSpec.ofChange spansEachSpec)

/-- ITS FALSE NEIGHBOUR: 'it returns false'. Refute it at one input. -/
def spansEachWrong : ChangeSpec := { name := "spansEach", fn := fun _ => fun
  | [d1, d2, d3] => { results := [.lit (.bool false)], args := [d1, d2, d3] }
  | _ => none }
def SpansEachWrongFalsely : Prop := spansEachRow.holds Try.pinned (OpenSpec.ofChange spansEachWrong)

/-- 'swashplatelaw01.SpansMinus': WHATEVER THE INPUT: true; the input reads as it did. -/
def spansMinusSpec : ChangeSpec := { name := "spansMinus", fn := fun _ => fun
  | [d1, d2] => { results := [.lit (.bool true)], args := [d1, d2] }
  | _ => none }
def spansMinusRow : OpenClaim := { program := "ytfaiogajaaclcaa", sum := "f7534324772cb988eeb72e97d86d849b6e1f99f03e5a295049fd8de1577fdb39", func := "swashplate/swashplatelaw01.SpansMinus", spec := "spansMinus", unfollowed := true, recurses := true, apart := false }
def SpansMinusSaid : Prop := spansMinusRow.holds Try.pinned (OpenSpec.ofChange spansMinusSpec)

/-- ITS FALSE NEIGHBOUR: 'it returns false'. Refute it at one input. -/
def spansMinusWrong : ChangeSpec := { name := "spansMinus", fn := fun _ => fun
  | [d1, d2] => { results := [.lit (.bool false)], args := [d1, d2] }
  | _ => none }
def SpansMinusWrongFalsely : Prop := spansMinusRow.holds Try.pinned (OpenSpec.ofChange spansMinusWrong)

/-- 'swashplatelaw01.SpansLost': WHATEVER THE INPUT: true; the input reads as it did. -/
def spansLostSpec : ChangeSpec := { name := "spansLost", fn := fun _ => fun
  | [d1, d2, d3] => { results := [.lit (.bool true)], args := [d1, d2, d3] }
  | _ => none }
def spansLostRow : OpenClaim := { program := "ytfaiogajaaclcaa", sum := "f7534324772cb988eeb72e97d86d849b6e1f99f03e5a295049fd8de1577fdb39", func := "swashplate/swashplatelaw01.SpansLost", spec := "spansLost", unfollowed := true, recurses := true, apart := false }
def SpansLostSaid : Prop := spansLostRow.holds Try.pinned (OpenSpec.ofChange spansLostSpec)

/-- ITS FALSE NEIGHBOUR: 'it returns false'. Refute it at one input. -/
def spansLostWrong : ChangeSpec := { name := "spansLost", fn := fun _ => fun
  | [d1, d2, d3] => { results := [.lit (.bool false)], args := [d1, d2, d3] }
  | _ => none }
def SpansLostWrongFalsely : Prop := spansLostRow.holds Try.pinned (OpenSpec.ofChange spansLostWrong)

/-- 'swashplatelaw01.SpansCounts': WHATEVER THE INPUT: true; the input reads as it did. -/
def spansCountsSpec : ChangeSpec := { name := "spansCounts", fn := fun _ => fun
  | [d] => { results := [.lit (.bool true)], args := [d] }
  | _ => none }
def spansCountsRow : OpenClaim := { program := "ytfaiogajaaclcaa", sum := "f7534324772cb988eeb72e97d86d849b6e1f99f03e5a295049fd8de1577fdb39", func := "swashplate/swashplatelaw01.SpansCounts", spec := "spansCounts", unfollowed := true, recurses := true, apart := false }
def SpansCountsSaid : Prop := spansCountsRow.holds Try.pinned (OpenSpec.ofChange spansCountsSpec)

/-- ITS FALSE NEIGHBOUR: 'it returns false'. Refute it at one input. -/
def spansCountsWrong : ChangeSpec := { name := "spansCounts", fn := fun _ => fun
  | [d] => { results := [.lit (.bool false)], args := [d] }
  | _ => none }
def SpansCountsWrongFalsely : Prop := spansCountsRow.holds Try.pinned (OpenSpec.ofChange spansCountsWrong)

/-- 'swashplatelaw01.SpansCovers': WHATEVER THE INPUT: true; the input reads as it did. -/
def spansCoversSpec : ChangeSpec := { name := "spansCovers", fn := fun _ => fun
  | [d1, d2] => { results := [.lit (.bool true)], args := [d1, d2] }
  | _ => none }
def spansCoversRow : OpenClaim := { program := "ytfaiogajaaclcaa", sum := "f7534324772cb988eeb72e97d86d849b6e1f99f03e5a295049fd8de1577fdb39", func := "swashplate/swashplatelaw01.SpansCovers", spec := "spansCovers", unfollowed := true, recurses := true, apart := false }
def SpansCoversSaid : Prop := spansCoversRow.holds Try.pinned (OpenSpec.ofChange spansCoversSpec)

/-- ITS FALSE NEIGHBOUR: 'it returns false'. Refute it at one input. -/
def spansCoversWrong : ChangeSpec := { name := "spansCovers", fn := fun _ => fun
  | [d1, d2] => { results := [.lit (.bool false)], args := [d1, d2] }
  | _ => none }
def SpansCoversWrongFalsely : Prop := spansCoversRow.holds Try.pinned (OpenSpec.ofChange spansCoversWrong)

/-- 'swashplatelaw01.SpansCovered': WHATEVER THE INPUT: true; the input reads as it did. -/
def spansCoveredSpec : ChangeSpec := { name := "spansCovered", fn := fun _ => fun
  | [d1, d2, d3] => { results := [.lit (.bool true)], args := [d1, d2, d3] }
  | _ => none }
def spansCoveredRow : OpenClaim := { program := "ytfaiogajaaclcaa", sum := "f7534324772cb988eeb72e97d86d849b6e1f99f03e5a295049fd8de1577fdb39", func := "swashplate/swashplatelaw01.SpansCovered", spec := "spansCovered", unfollowed := true, recurses := true, apart := false }
def SpansCoveredSaid : Prop := spansCoveredRow.holds Try.pinned (OpenSpec.ofChange spansCoveredSpec)

/-- ITS FALSE NEIGHBOUR: 'it returns false'. Refute it at one input. -/
def spansCoveredWrong : ChangeSpec := { name := "spansCovered", fn := fun _ => fun
  | [d1, d2, d3] => { results := [.lit (.bool false)], args := [d1, d2, d3] }
  | _ => none }
def SpansCoveredWrongFalsely : Prop := spansCoveredRow.holds Try.pinned (OpenSpec.ofChange spansCoveredWrong)

/- THE SECOND FORM. 'bulk': how many values and letters a reading holds, each counted each time it is reached (what is shared counts as often as it is met; a slice's spare places count too). A statement '..UptoSaid' is the law's where the arguments, and the package variables that the reading takes, are together of bulk at most 1048576: NARROWER than '..Said'. Prove '..Said' where nothing that the law and all that it calls make is longer than what came in: it says more and counts as full. Else prove '..UptoSaid'. A law counts once. -/
mutual
def uptoBulk {H : Type} : DataW H → Nat
  | .lit (.string bytes) => bytes.length + 1
  | .lit _ => 1
  | .nil => 1
  | .ptr d => uptoBulk d + 1
  | .slice elems spare => uptoBulkAll elems + uptoBulkAll spare + 1
  | .agg parts => uptoBulkAll parts + 1
  | .iface _ d => uptoBulk d + 1
  | .map entries => uptoBulkEntries entries + 1
  | .held _ => 1
def uptoBulkAll {H : Type} : List (DataW H) → Nat
  | [] => 0
  | d :: r => uptoBulk d + uptoBulkAll r
def uptoBulkEntries {H : Type} : List (Lit × DataW H) → Nat
  | [] => 0
  | x :: r => uptoBulkEntry x + uptoBulkEntries r
def uptoBulkEntry {H : Type} : Lit × DataW H → Nat
  | (.string bytes, d) => bytes.length + uptoBulk d + 1
  | (_, d) => uptoBulk d + 1
 end
def uptoSmall : (H : Type) → List (DataW H) → Bool := fun _ ds => decide (uptoBulkAll ds ≤ 1048576)
def OpenSpec.upto (s : _root_.Go.ChangeSpec) : _root_.Go.OpenSpec := { _root_.Go.OpenSpec.ofChange s with cond := some uptoSmall }

/-- 'swashplatelaw01.SpansGreatest', WHERE WHAT IT READS IS OF BULK AT MOST 1048576: true; the input reads as it did. -/
def spansGreatestUptoRow : OpenClaim := { program := "ytfaiogajaaclcaa", sum := "f7534324772cb988eeb72e97d86d849b6e1f99f03e5a295049fd8de1577fdb39", func := "swashplate/swashplatelaw01.SpansGreatest", spec := "spansGreatest", unfollowed := true, recurses := true, apart := false, narrowed := true }
def SpansGreatestUptoSaid : Prop := spansGreatestUptoRow.holds Try.pinned (OpenSpec.upto spansGreatestSpec)

/-- 'swashplatelaw01.SpansChecks', WHERE WHAT IT READS IS OF BULK AT MOST 1048576: true; the input reads as it did. -/
def spansChecksUptoRow : OpenClaim := { program := "ytfaiogajaaclcaa", sum := "f7534324772cb988eeb72e97d86d849b6e1f99f03e5a295049fd8de1577fdb39", func := "swashplate/swashplatelaw01.SpansChecks", spec := "spansChecks", unfollowed := true, recurses := true, apart := false, narrowed := true }
def SpansChecksUptoSaid : Prop := spansChecksUptoRow.holds Try.pinned (OpenSpec.upto spansChecksSpec)

/-- 'swashplatelaw01.SpansBounds', WHERE WHAT IT READS IS OF BULK AT MOST 1048576: true; the input reads as it did. -/
def spansBoundsUptoRow : OpenClaim := { program := "ytfaiogajaaclcaa", sum := "f7534324772cb988eeb72e97d86d849b6e1f99f03e5a295049fd8de1577fdb39", func := "swashplate/swashplatelaw01.SpansBounds", spec := "spansBounds", unfollowed := true, recurses := true, apart := false, narrowed := true }
def SpansBoundsUptoSaid : Prop := spansBoundsUptoRow.holds Try.pinned (OpenSpec.upto spansBoundsSpec)

/-- 'swashplatelaw01.SpansValues', WHERE WHAT IT READS IS OF BULK AT MOST 1048576: true; the input reads as it did. -/
def spansValuesUptoRow : OpenClaim := { program := "ytfaiogajaaclcaa", sum := "f7534324772cb988eeb72e97d86d849b6e1f99f03e5a295049fd8de1577fdb39", func := "swashplate/swashplatelaw01.SpansValues", spec := "spansValues", unfollowed := true, recurses := true, apart := false, narrowed := true }
def SpansValuesUptoSaid : Prop := spansValuesUptoRow.holds Try.pinned (OpenSpec.upto spansValuesSpec)

/-- 'swashplatelaw01.SpansBelow', WHERE WHAT IT READS IS OF BULK AT MOST 1048576: true; the input reads as it did. -/
def spansBelowUptoRow : OpenClaim := { program := "ytfaiogajaaclcaa", sum := "f7534324772cb988eeb72e97d86d849b6e1f99f03e5a295049fd8de1577fdb39", func := "swashplate/swashplatelaw01.SpansBelow", spec := "spansBelow", unfollowed := true, recurses := true, apart := false, narrowed := true }
def SpansBelowUptoSaid : Prop := spansBelowUptoRow.holds Try.pinned (OpenSpec.upto spansBelowSpec)

/-- 'swashplatelaw01.SpansMeets', WHERE WHAT IT READS IS OF BULK AT MOST 1048576: true; the input reads as it did. -/
def spansMeetsUptoRow : OpenClaim := { program := "ytfaiogajaaclcaa", sum := "f7534324772cb988eeb72e97d86d849b6e1f99f03e5a295049fd8de1577fdb39", func := "swashplate/swashplatelaw01.SpansMeets", spec := "spansMeets", unfollowed := true, recurses := true, apart := false, narrowed := true }
def SpansMeetsUptoSaid : Prop := spansMeetsUptoRow.holds Try.pinned (OpenSpec.upto spansMeetsSpec)

/-- 'swashplatelaw01.SpansInside', WHERE WHAT IT READS IS OF BULK AT MOST 1048576: true; the input reads as it did. -/
def spansInsideUptoRow : OpenClaim := { program := "ytfaiogajaaclcaa", sum := "f7534324772cb988eeb72e97d86d849b6e1f99f03e5a295049fd8de1577fdb39", func := "swashplate/swashplatelaw01.SpansInside", spec := "spansInside", unfollowed := true, recurses := true, apart := false, narrowed := true }
def SpansInsideUptoSaid : Prop := spansInsideUptoRow.holds Try.pinned (OpenSpec.upto spansInsideSpec)

/-- 'swashplatelaw01.SpansComputes', WHERE WHAT IT READS IS OF BULK AT MOST 1048576: true; the input reads as it did. -/
def spansComputesUptoRow : OpenClaim := { program := "ytfaiogajaaclcaa", sum := "f7534324772cb988eeb72e97d86d849b6e1f99f03e5a295049fd8de1577fdb39", func := "swashplate/swashplatelaw01.SpansComputes", spec := "spansComputes", unfollowed := true, recurses := true, apart := false, narrowed := true }
def SpansComputesUptoSaid : Prop := spansComputesUptoRow.holds Try.pinned (OpenSpec.upto spansComputesSpec)

/-- 'swashplatelaw01.SpansEach', WHERE WHAT IT READS IS OF BULK AT MOST 1048576: true; the input reads as it did. -/
def spansEachUptoRow : OpenClaim := { program := "ytfaiogajaaclcaa", sum := "f7534324772cb988eeb72e97d86d849b6e1f99f03e5a295049fd8de1577fdb39", func := "swashplate/swashplatelaw01.SpansEach", spec := "spansEach", unfollowed := true, recurses := true, apart := false, narrowed := true }
def SpansEachUptoSaid : Prop := spansEachUptoRow.holds Try.pinned (OpenSpec.upto spansEachSpec)

/-- 'swashplatelaw01.SpansMinus', WHERE WHAT IT READS IS OF BULK AT MOST 1048576: true; the input reads as it did. -/
def spansMinusUptoRow : OpenClaim := { program := "ytfaiogajaaclcaa", sum := "f7534324772cb988eeb72e97d86d849b6e1f99f03e5a295049fd8de1577fdb39", func := "swashplate/swashplatelaw01.SpansMinus", spec := "spansMinus", unfollowed := true, recurses := true, apart := false, narrowed := true }
def SpansMinusUptoSaid : Prop := spansMinusUptoRow.holds Try.pinned (OpenSpec.upto spansMinusSpec)

/-- 'swashplatelaw01.SpansLost', WHERE WHAT IT READS IS OF BULK AT MOST 1048576: true; the input reads as it did. -/
def spansLostUptoRow : OpenClaim := { program := "ytfaiogajaaclcaa", sum := "f7534324772cb988eeb72e97d86d849b6e1f99f03e5a295049fd8de1577fdb39", func := "swashplate/swashplatelaw01.SpansLost", spec := "spansLost", unfollowed := true, recurses := true, apart := false, narrowed := true }
def SpansLostUptoSaid : Prop := spansLostUptoRow.holds Try.pinned (OpenSpec.upto spansLostSpec)

/-- 'swashplatelaw01.SpansCounts', WHERE WHAT IT READS IS OF BULK AT MOST 1048576: true; the input reads as it did. -/
def spansCountsUptoRow : OpenClaim := { program := "ytfaiogajaaclcaa", sum := "f7534324772cb988eeb72e97d86d849b6e1f99f03e5a295049fd8de1577fdb39", func := "swashplate/swashplatelaw01.SpansCounts", spec := "spansCounts", unfollowed := true, recurses := true, apart := false, narrowed := true }
def SpansCountsUptoSaid : Prop := spansCountsUptoRow.holds Try.pinned (OpenSpec.upto spansCountsSpec)

/-- 'swashplatelaw01.SpansCovers', WHERE WHAT IT READS IS OF BULK AT MOST 1048576: true; the input reads as it did. -/
def spansCoversUptoRow : OpenClaim := { program := "ytfaiogajaaclcaa", sum := "f7534324772cb988eeb72e97d86d849b6e1f99f03e5a295049fd8de1577fdb39", func := "swashplate/swashplatelaw01.SpansCovers", spec := "spansCovers", unfollowed := true, recurses := true, apart := false, narrowed := true }
def SpansCoversUptoSaid : Prop := spansCoversUptoRow.holds Try.pinned (OpenSpec.upto spansCoversSpec)

/-- 'swashplatelaw01.SpansCovered', WHERE WHAT IT READS IS OF BULK AT MOST 1048576: true; the input reads as it did. -/
def spansCoveredUptoRow : OpenClaim := { program := "ytfaiogajaaclcaa", sum := "f7534324772cb988eeb72e97d86d849b6e1f99f03e5a295049fd8de1577fdb39", func := "swashplate/swashplatelaw01.SpansCovered", spec := "spansCovered", unfollowed := true, recurses := true, apart := false, narrowed := true }
def SpansCoveredUptoSaid : Prop := spansCoveredUptoRow.holds Try.pinned (OpenSpec.upto spansCoveredSpec)

end Rows
end Go.Proofs.Ytfaiogajaaclcaa
