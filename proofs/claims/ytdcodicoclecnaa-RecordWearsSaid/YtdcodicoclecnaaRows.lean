/-
  No cell of these rows narrows 'for every input' (looked for: loops, veiled, ifaces, maps, wideKeys, modest, calm, conditions, laid).
  DERIVED. THE GIVEN ROWS OF THIS SEAT. 12 by the template 'for every input the law returns true; each argument reads behind the call as it read before'; 0 by the template 'total and deterministic' (their statements: YtdcodicoclecnaaTotals.lean).
  GIVEN WITH THE SEED: the statements are not yours to turn. If you find one false, say at which input.
  Laid BY PROGRAM, IN A SANDBOX (cutbox-rows.mjs): the forced cells as the released guide's own fill.sh prints them over the translation 44393afe30f89dda… (all of the seat's roots in one cut). By AI agents, Wed Nov 11 2026. No macro, syntax, notation, axiom, sorry.
-/
import Derived.Test.YtdcodicoclecnaaChecked
import GoSem.Claim
import GoSem.ClaimJoined
import GoSem.ClaimMapViews
import Derived.JoinedTies
import Derived.KernelRfl
namespace Go.Proofs.Ytdcodicoclecnaa
/- THE CELL 'sum', in the pinned program and in every row, IS THE sha256 OF THE DUMP (.gsa) THAT YtdcodicoclecnaaProg.lean LOADS. Nothing in Lean hashes anything: it is a label: what it is worth is what the hold of that sum in a sandbox is worth. -/
noncomputable def Try.pinned : Pinned := { name := "ytdcodicoclecnaa", sum := "44393afe30f89ddaf25f6369edb84bda686a1f39ec5e0c2b7c3dea5e20efc075", checked := Try.checked }
namespace Rows
def none {H : Type} : Left H := { results := [], args := [] }

/-- 'swashplatelaw12.RecordReads': WHATEVER THE INPUT: true; the input reads as it did. -/
def recordReadsSpec : ChangeSpec := { name := "recordReads", fn := fun _ => fun
  | [d1, d2] => { results := [.lit (.bool true)], args := [d1, d2] }
  | _ => none }
def recordReadsRow : OpenClaim := { program := "ytdcodicoclecnaa", sum := "44393afe30f89ddaf25f6369edb84bda686a1f39ec5e0c2b7c3dea5e20efc075", func := "swashplate/swashplatelaw12.RecordReads", spec := "recordReads", unfollowed := true, recurses := true, apart := false }
def RecordReadsSaid : Prop := recordReadsRow.holds Try.pinned (OpenSpec.ofChange recordReadsSpec)

/-- ITS FALSE NEIGHBOUR: 'it returns false'. Refute it at one input. -/
def recordReadsWrong : ChangeSpec := { name := "recordReads", fn := fun _ => fun
  | [d1, d2] => { results := [.lit (.bool false)], args := [d1, d2] }
  | _ => none }
def RecordReadsWrongFalsely : Prop := recordReadsRow.holds Try.pinned (OpenSpec.ofChange recordReadsWrong)

/-- 'swashplatelaw12.RecordChecks': WHATEVER THE INPUT: true; the input reads as it did. -/
def recordChecksSpec : ChangeSpec := { name := "recordChecks", fn := fun _ => fun
  | [d] => { results := [.lit (.bool true)], args := [d] }
  | _ => none }
def recordChecksRow : OpenClaim := { program := "ytdcodicoclecnaa", sum := "44393afe30f89ddaf25f6369edb84bda686a1f39ec5e0c2b7c3dea5e20efc075", func := "swashplate/swashplatelaw12.RecordChecks", spec := "recordChecks", unfollowed := true, recurses := true, apart := false }
def RecordChecksSaid : Prop := recordChecksRow.holds Try.pinned (OpenSpec.ofChange recordChecksSpec)

/-- ITS FALSE NEIGHBOUR: 'it returns false'. Refute it at one input. -/
def recordChecksWrong : ChangeSpec := { name := "recordChecks", fn := fun _ => fun
  | [d] => { results := [.lit (.bool false)], args := [d] }
  | _ => none }
def RecordChecksWrongFalsely : Prop := recordChecksRow.holds Try.pinned (OpenSpec.ofChange recordChecksWrong)

/-- 'swashplatelaw12.RecordPacks': WHATEVER THE INPUT: true; the input reads as it did. -/
def recordPacksSpec : ChangeSpec := { name := "recordPacks", fn := fun _ => fun
  | [d1, d2, d3] => { results := [.lit (.bool true)], args := [d1, d2, d3] }
  | _ => none }
def recordPacksRow : OpenClaim := { program := "ytdcodicoclecnaa", sum := "44393afe30f89ddaf25f6369edb84bda686a1f39ec5e0c2b7c3dea5e20efc075", func := "swashplate/swashplatelaw12.RecordPacks", spec := "recordPacks", unfollowed := true, recurses := true, apart := false }
def RecordPacksSaid : Prop := recordPacksRow.holds Try.pinned (OpenSpec.ofChange recordPacksSpec)

/-- ITS FALSE NEIGHBOUR: 'it returns false'. Refute it at one input. -/
def recordPacksWrong : ChangeSpec := { name := "recordPacks", fn := fun _ => fun
  | [d1, d2, d3] => { results := [.lit (.bool false)], args := [d1, d2, d3] }
  | _ => none }
def RecordPacksWrongFalsely : Prop := recordPacksRow.holds Try.pinned (OpenSpec.ofChange recordPacksWrong)

/-- 'swashplatelaw12.RecordPacked': WHATEVER THE INPUT: true; the input reads as it did. -/
def recordPackedSpec : ChangeSpec := { name := "recordPacked", fn := fun _ => fun
  | [d1, d2, d3] => { results := [.lit (.bool true)], args := [d1, d2, d3] }
  | _ => none }
def recordPackedRow : OpenClaim := { program := "ytdcodicoclecnaa", sum := "44393afe30f89ddaf25f6369edb84bda686a1f39ec5e0c2b7c3dea5e20efc075", func := "swashplate/swashplatelaw12.RecordPacked", spec := "recordPacked", unfollowed := true, recurses := true, apart := false }
def RecordPackedSaid : Prop := recordPackedRow.holds Try.pinned (OpenSpec.ofChange recordPackedSpec)

/-- ITS FALSE NEIGHBOUR: 'it returns false'. Refute it at one input. -/
def recordPackedWrong : ChangeSpec := { name := "recordPacked", fn := fun _ => fun
  | [d1, d2, d3] => { results := [.lit (.bool false)], args := [d1, d2, d3] }
  | _ => none }
def RecordPackedWrongFalsely : Prop := recordPackedRow.holds Try.pinned (OpenSpec.ofChange recordPackedWrong)

/-- 'swashplatelaw12.RecordHolds': WHATEVER THE INPUT: true; the input reads as it did. -/
def recordHoldsSpec : ChangeSpec := { name := "recordHolds", fn := fun _ => fun
  | [d1, d2] => { results := [.lit (.bool true)], args := [d1, d2] }
  | _ => none }
def recordHoldsRow : OpenClaim := { program := "ytdcodicoclecnaa", sum := "44393afe30f89ddaf25f6369edb84bda686a1f39ec5e0c2b7c3dea5e20efc075", func := "swashplate/swashplatelaw12.RecordHolds", spec := "recordHolds", unfollowed := true, recurses := true, apart := false }
def RecordHoldsSaid : Prop := recordHoldsRow.holds Try.pinned (OpenSpec.ofChange recordHoldsSpec)

/-- ITS FALSE NEIGHBOUR: 'it returns false'. Refute it at one input. -/
def recordHoldsWrong : ChangeSpec := { name := "recordHolds", fn := fun _ => fun
  | [d1, d2] => { results := [.lit (.bool false)], args := [d1, d2] }
  | _ => none }
def RecordHoldsWrongFalsely : Prop := recordHoldsRow.holds Try.pinned (OpenSpec.ofChange recordHoldsWrong)

/-- 'swashplatelaw12.RecordProofs': WHATEVER THE INPUT: true; the input reads as it did. -/
def recordProofsSpec : ChangeSpec := { name := "recordProofs", fn := fun _ => fun
  | [d1, d2, d3] => { results := [.lit (.bool true)], args := [d1, d2, d3] }
  | _ => none }
def recordProofsRow : OpenClaim := { program := "ytdcodicoclecnaa", sum := "44393afe30f89ddaf25f6369edb84bda686a1f39ec5e0c2b7c3dea5e20efc075", func := "swashplate/swashplatelaw12.RecordProofs", spec := "recordProofs", unfollowed := true, recurses := true, apart := false }
def RecordProofsSaid : Prop := recordProofsRow.holds Try.pinned (OpenSpec.ofChange recordProofsSpec)

/-- ITS FALSE NEIGHBOUR: 'it returns false'. Refute it at one input. -/
def recordProofsWrong : ChangeSpec := { name := "recordProofs", fn := fun _ => fun
  | [d1, d2, d3] => { results := [.lit (.bool false)], args := [d1, d2, d3] }
  | _ => none }
def RecordProofsWrongFalsely : Prop := recordProofsRow.holds Try.pinned (OpenSpec.ofChange recordProofsWrong)

/-- 'swashplatelaw12.RecordFinds': WHATEVER THE INPUT: true; the input reads as it did. -/
def recordFindsSpec : ChangeSpec := { name := "recordFinds", fn := fun _ => fun
  | [d1, d2] => { results := [.lit (.bool true)], args := [d1, d2] }
  | _ => none }
def recordFindsRow : OpenClaim := { program := "ytdcodicoclecnaa", sum := "44393afe30f89ddaf25f6369edb84bda686a1f39ec5e0c2b7c3dea5e20efc075", func := "swashplate/swashplatelaw12.RecordFinds", spec := "recordFinds", unfollowed := true, recurses := true, apart := false }
def RecordFindsSaid : Prop := recordFindsRow.holds Try.pinned (OpenSpec.ofChange recordFindsSpec)

/-- ITS FALSE NEIGHBOUR: 'it returns false'. Refute it at one input. -/
def recordFindsWrong : ChangeSpec := { name := "recordFinds", fn := fun _ => fun
  | [d1, d2] => { results := [.lit (.bool false)], args := [d1, d2] }
  | _ => none }
def RecordFindsWrongFalsely : Prop := recordFindsRow.holds Try.pinned (OpenSpec.ofChange recordFindsWrong)

/-- 'swashplatelaw12.RecordEvery': WHATEVER THE INPUT: true; the input reads as it did. -/
def recordEverySpec : ChangeSpec := { name := "recordEvery", fn := fun _ => fun
  | [d1, d2, d3] => { results := [.lit (.bool true)], args := [d1, d2, d3] }
  | _ => none }
def recordEveryRow : OpenClaim := { program := "ytdcodicoclecnaa", sum := "44393afe30f89ddaf25f6369edb84bda686a1f39ec5e0c2b7c3dea5e20efc075", func := "swashplate/swashplatelaw12.RecordEvery", spec := "recordEvery", unfollowed := true, recurses := true, apart := false }
def RecordEverySaid : Prop := recordEveryRow.holds Try.pinned (OpenSpec.ofChange recordEverySpec)

/-- ITS FALSE NEIGHBOUR: 'it returns false'. Refute it at one input. -/
def recordEveryWrong : ChangeSpec := { name := "recordEvery", fn := fun _ => fun
  | [d1, d2, d3] => { results := [.lit (.bool false)], args := [d1, d2, d3] }
  | _ => none }
def RecordEveryWrongFalsely : Prop := recordEveryRow.holds Try.pinned (OpenSpec.ofChange recordEveryWrong)

/-- 'swashplatelaw12.RecordShakes': WHATEVER THE INPUT: true; the input reads as it did. -/
def recordShakesSpec : ChangeSpec := { name := "recordShakes", fn := fun _ => fun
  | [d1, d2] => { results := [.lit (.bool true)], args := [d1, d2] }
  | _ => none }
def recordShakesRow : OpenClaim := { program := "ytdcodicoclecnaa", sum := "44393afe30f89ddaf25f6369edb84bda686a1f39ec5e0c2b7c3dea5e20efc075", func := "swashplate/swashplatelaw12.RecordShakes", spec := "recordShakes", unfollowed := true, recurses := true, apart := false }
def RecordShakesSaid : Prop := recordShakesRow.holds Try.pinned (OpenSpec.ofChange recordShakesSpec)

/-- ITS FALSE NEIGHBOUR: 'it returns false'. Refute it at one input. -/
def recordShakesWrong : ChangeSpec := { name := "recordShakes", fn := fun _ => fun
  | [d1, d2] => { results := [.lit (.bool false)], args := [d1, d2] }
  | _ => none }
def RecordShakesWrongFalsely : Prop := recordShakesRow.holds Try.pinned (OpenSpec.ofChange recordShakesWrong)

/-- 'swashplatelaw12.RecordFlights': WHATEVER THE INPUT: true; the input reads as it did. -/
def recordFlightsSpec : ChangeSpec := { name := "recordFlights", fn := fun _ => fun
  | [d1, d2] => { results := [.lit (.bool true)], args := [d1, d2] }
  | _ => none }
def recordFlightsRow : OpenClaim := { program := "ytdcodicoclecnaa", sum := "44393afe30f89ddaf25f6369edb84bda686a1f39ec5e0c2b7c3dea5e20efc075", func := "swashplate/swashplatelaw12.RecordFlights", spec := "recordFlights", unfollowed := true, recurses := true, apart := false }
def RecordFlightsSaid : Prop := recordFlightsRow.holds Try.pinned (OpenSpec.ofChange recordFlightsSpec)

/-- ITS FALSE NEIGHBOUR: 'it returns false'. Refute it at one input. -/
def recordFlightsWrong : ChangeSpec := { name := "recordFlights", fn := fun _ => fun
  | [d1, d2] => { results := [.lit (.bool false)], args := [d1, d2] }
  | _ => none }
def RecordFlightsWrongFalsely : Prop := recordFlightsRow.holds Try.pinned (OpenSpec.ofChange recordFlightsWrong)

/-- 'swashplatelaw12.RecordWears': WHATEVER THE INPUT: true; the input reads as it did. -/
def recordWearsSpec : ChangeSpec := { name := "recordWears", fn := fun _ => fun
  | [d1, d2, d3] => { results := [.lit (.bool true)], args := [d1, d2, d3] }
  | _ => none }
def recordWearsRow : OpenClaim := { program := "ytdcodicoclecnaa", sum := "44393afe30f89ddaf25f6369edb84bda686a1f39ec5e0c2b7c3dea5e20efc075", func := "swashplate/swashplatelaw12.RecordWears", spec := "recordWears", unfollowed := true, recurses := true, apart := false }
def RecordWearsSaid : Prop := recordWearsRow.holds Try.pinned (OpenSpec.ofChange recordWearsSpec)

/-- ITS FALSE NEIGHBOUR: 'it returns false'. Refute it at one input. -/
def recordWearsWrong : ChangeSpec := { name := "recordWears", fn := fun _ => fun
  | [d1, d2, d3] => { results := [.lit (.bool false)], args := [d1, d2, d3] }
  | _ => none }
def RecordWearsWrongFalsely : Prop := recordWearsRow.holds Try.pinned (OpenSpec.ofChange recordWearsWrong)

/-- 'swashplatelaw12.RecordAll': WHATEVER THE INPUT: true; the input reads as it did. -/
def recordAllSpec : ChangeSpec := { name := "recordAll", fn := fun _ => fun
  | [d1, d2] => { results := [.lit (.bool true)], args := [d1, d2] }
  | _ => none }
def recordAllRow : OpenClaim := { program := "ytdcodicoclecnaa", sum := "44393afe30f89ddaf25f6369edb84bda686a1f39ec5e0c2b7c3dea5e20efc075", func := "swashplate/swashplatelaw12.RecordAll", spec := "recordAll", unfollowed := true, recurses := true, apart := false }
def RecordAllSaid : Prop := recordAllRow.holds Try.pinned (OpenSpec.ofChange recordAllSpec)

/-- ITS FALSE NEIGHBOUR: 'it returns false'. Refute it at one input. -/
def recordAllWrong : ChangeSpec := { name := "recordAll", fn := fun _ => fun
  | [d1, d2] => { results := [.lit (.bool false)], args := [d1, d2] }
  | _ => none }
def RecordAllWrongFalsely : Prop := recordAllRow.holds Try.pinned (OpenSpec.ofChange recordAllWrong)

/- THE SECOND FORM. 'bulk': how many values and letters a reading holds, each counted each time it is reached (what is shared counts as often as it is met; a slice's spare places count too). A statement '..UptoSaid' is the law's where the arguments, and the package variables that the reading takes, are together of bulk at most 1048576: NARROWER than '..Said'. Prove '..Said' where nothing that the law and all that it calls make is longer than what came in: it says more and counts as full. Else prove '..UptoSaid'. A law counts once. -/
mutual
def uptoBulk {H : Type} : DataW H → Nat
  | .lit (.string bytes) => bytes.length + 1
  | .lit _ => 1
  | .nil => 1
  | .ptr d => uptoBulk d + 1
  | .slice elems spare => uptoBulkAll elems + uptoBulkAll spare + 1
  | .agg parts => uptoBulkAll parts + 1
  | .iface _ d => uptoBulk d + 1
  | .map entries => uptoBulkEntries entries + 1
  | .held _ => 1
def uptoBulkAll {H : Type} : List (DataW H) → Nat
  | [] => 0
  | d :: r => uptoBulk d + uptoBulkAll r
def uptoBulkEntries {H : Type} : List (Lit × DataW H) → Nat
  | [] => 0
  | x :: r => uptoBulkEntry x + uptoBulkEntries r
def uptoBulkEntry {H : Type} : Lit × DataW H → Nat
  | (.string bytes, d) => bytes.length + uptoBulk d + 1
  | (_, d) => uptoBulk d + 1
 end
def uptoSmall : (H : Type) → List (DataW H) → Bool := fun _ ds => decide (uptoBulkAll ds ≤ 1048576)
def OpenSpec.upto (s : _root_.Go.ChangeSpec) : _root_.Go.OpenSpec := { _root_.Go.OpenSpec.ofChange s with cond := some uptoSmall }

/-- 'swashplatelaw12.RecordReads', WHERE WHAT IT READS IS OF BULK AT MOST 1048576: true; the input reads as it did. -/
def recordReadsUptoRow : OpenClaim := { program := "ytdcodicoclecnaa", sum := "44393afe30f89ddaf25f6369edb84bda686a1f39ec5e0c2b7c3dea5e20efc075", func := "swashplate/swashplatelaw12.RecordReads", spec := "recordReads", unfollowed := true, recurses := true, apart := false, narrowed := true }
def RecordReadsUptoSaid : Prop := recordReadsUptoRow.holds Try.pinned (OpenSpec.upto recordReadsSpec)

/-- 'swashplatelaw12.RecordChecks', WHERE WHAT IT READS IS OF BULK AT MOST 1048576: true; the input reads as it did. -/
def recordChecksUptoRow : OpenClaim := { program := "ytdcodicoclecnaa", sum := "44393afe30f89ddaf25f6369edb84bda686a1f39ec5e0c2b7c3dea5e20efc075", func := "swashplate/swashplatelaw12.RecordChecks", spec := "recordChecks", unfollowed := true, recurses := true, apart := false, narrowed := true }
def RecordChecksUptoSaid : Prop := recordChecksUptoRow.holds Try.pinned (OpenSpec.upto recordChecksSpec)

/-- 'swashplatelaw12.RecordPacks', WHERE WHAT IT READS IS OF BULK AT MOST 1048576: true; the input reads as it did. -/
def recordPacksUptoRow : OpenClaim := { program := "ytdcodicoclecnaa", sum := "44393afe30f89ddaf25f6369edb84bda686a1f39ec5e0c2b7c3dea5e20efc075", func := "swashplate/swashplatelaw12.RecordPacks", spec := "recordPacks", unfollowed := true, recurses := true, apart := false, narrowed := true }
def RecordPacksUptoSaid : Prop := recordPacksUptoRow.holds Try.pinned (OpenSpec.upto recordPacksSpec)

/-- 'swashplatelaw12.RecordPacked', WHERE WHAT IT READS IS OF BULK AT MOST 1048576: true; the input reads as it did. -/
def recordPackedUptoRow : OpenClaim := { program := "ytdcodicoclecnaa", sum := "44393afe30f89ddaf25f6369edb84bda686a1f39ec5e0c2b7c3dea5e20efc075", func := "swashplate/swashplatelaw12.RecordPacked", spec := "recordPacked", unfollowed := true, recurses := true, apart := false, narrowed := true }
def RecordPackedUptoSaid : Prop := recordPackedUptoRow.holds Try.pinned (OpenSpec.upto recordPackedSpec)

/-- 'swashplatelaw12.RecordHolds', WHERE WHAT IT READS IS OF BULK AT MOST 1048576: true; the input reads as it did. -/
def recordHoldsUptoRow : OpenClaim := { program := "ytdcodicoclecnaa", sum := "44393afe30f89ddaf25f6369edb84bda686a1f39ec5e0c2b7c3dea5e20efc075", func := "swashplate/swashplatelaw12.RecordHolds", spec := "recordHolds", unfollowed := true, recurses := true, apart := false, narrowed := true }
def RecordHoldsUptoSaid : Prop := recordHoldsUptoRow.holds Try.pinned (OpenSpec.upto recordHoldsSpec)

/-- 'swashplatelaw12.RecordProofs', WHERE WHAT IT READS IS OF BULK AT MOST 1048576: true; the input reads as it did. -/
def recordProofsUptoRow : OpenClaim := { program := "ytdcodicoclecnaa", sum := "44393afe30f89ddaf25f6369edb84bda686a1f39ec5e0c2b7c3dea5e20efc075", func := "swashplate/swashplatelaw12.RecordProofs", spec := "recordProofs", unfollowed := true, recurses := true, apart := false, narrowed := true }
def RecordProofsUptoSaid : Prop := recordProofsUptoRow.holds Try.pinned (OpenSpec.upto recordProofsSpec)

/-- 'swashplatelaw12.RecordFinds', WHERE WHAT IT READS IS OF BULK AT MOST 1048576: true; the input reads as it did. -/
def recordFindsUptoRow : OpenClaim := { program := "ytdcodicoclecnaa", sum := "44393afe30f89ddaf25f6369edb84bda686a1f39ec5e0c2b7c3dea5e20efc075", func := "swashplate/swashplatelaw12.RecordFinds", spec := "recordFinds", unfollowed := true, recurses := true, apart := false, narrowed := true }
def RecordFindsUptoSaid : Prop := recordFindsUptoRow.holds Try.pinned (OpenSpec.upto recordFindsSpec)

/-- 'swashplatelaw12.RecordEvery', WHERE WHAT IT READS IS OF BULK AT MOST 1048576: true; the input reads as it did. -/
def recordEveryUptoRow : OpenClaim := { program := "ytdcodicoclecnaa", sum := "44393afe30f89ddaf25f6369edb84bda686a1f39ec5e0c2b7c3dea5e20efc075", func := "swashplate/swashplatelaw12.RecordEvery", spec := "recordEvery", unfollowed := true, recurses := true, apart := false, narrowed := true }
def RecordEveryUptoSaid : Prop := recordEveryUptoRow.holds Try.pinned (OpenSpec.upto recordEverySpec)

/-- 'swashplatelaw12.RecordShakes', WHERE WHAT IT READS IS OF BULK AT MOST 1048576: true; the input reads as it did. -/
def recordShakesUptoRow : OpenClaim := { program := "ytdcodicoclecnaa", sum := "44393afe30f89ddaf25f6369edb84bda686a1f39ec5e0c2b7c3dea5e20efc075", func := "swashplate/swashplatelaw12.RecordShakes", spec := "recordShakes", unfollowed := true, recurses := true, apart := false, narrowed := true }
def RecordShakesUptoSaid : Prop := recordShakesUptoRow.holds Try.pinned (OpenSpec.upto recordShakesSpec)

/-- 'swashplatelaw12.RecordFlights', WHERE WHAT IT READS IS OF BULK AT MOST 1048576: true; the input reads as it did. -/
def recordFlightsUptoRow : OpenClaim := { program := "ytdcodicoclecnaa", sum := "44393afe30f89ddaf25f6369edb84bda686a1f39ec5e0c2b7c3dea5e20efc075", func := "swashplate/swashplatelaw12.RecordFlights", spec := "recordFlights", unfollowed := true, recurses := true, apart := false, narrowed := true }
def RecordFlightsUptoSaid : Prop := recordFlightsUptoRow.holds Try.pinned (OpenSpec.upto recordFlightsSpec)

/-- 'swashplatelaw12.RecordWears', WHERE WHAT IT READS IS OF BULK AT MOST 1048576: true; the input reads as it did. -/
def recordWearsUptoRow : OpenClaim := { program := "ytdcodicoclecnaa", sum := "44393afe30f89ddaf25f6369edb84bda686a1f39ec5e0c2b7c3dea5e20efc075", func := "swashplate/swashplatelaw12.RecordWears", spec := "recordWears", unfollowed := true, recurses := true, apart := false, narrowed := true }
def RecordWearsUptoSaid : Prop := recordWearsUptoRow.holds Try.pinned (OpenSpec.upto recordWearsSpec)

/-- 'swashplatelaw12.RecordAll', WHERE WHAT IT READS IS OF BULK AT MOST 1048576: true; the input reads as it did. -/
def recordAllUptoRow : OpenClaim := { program := "ytdcodicoclecnaa", sum := "44393afe30f89ddaf25f6369edb84bda686a1f39ec5e0c2b7c3dea5e20efc075", func := "swashplate/swashplatelaw12.RecordAll", spec := "recordAll", unfollowed := true, recurses := true, apart := false, narrowed := true }
def RecordAllUptoSaid : Prop := recordAllUptoRow.holds Try.pinned (OpenSpec.upto recordAllSpec)

end Rows
end Go.Proofs.Ytdcodicoclecnaa
