/-
  DERIVED. GIVEN WITH THE SEED: THE CARDS: each row of YtgibbaadjbohdaaDoorRows.lean that lists a variable, with what it lists TIED to the program's text (the seventh form; the later family's looks); each row that meets fmt, with fmt's text TOLD by the authors' own Lean function (tested against real Go, not proved from fmt's source: count such statements apart). THE CARD IS WHAT COUNTS. Prove the row's statement (the work); the ties are given (YtgibbaadjbohdaaDoorTie.lean); close each card by the builder's one call (the guide's Derived/Test/ToyasCard.lean, 'card_holds'). Laid BY PROGRAM, IN A SANDBOX (cutbox-door.mjs). By AI agents, Wed Nov 11 2026. No macro, syntax, notation, axiom, sorry.
-/
import Derived.Test.YtgibbaadjbohdaaDoorRows
import GoSem.ClaimSeven
namespace Go.Proofs.YtgibbaadjbohdaaDoor
namespace Rows

/-- THE TIED CARD OF 'swashplatetop.TopCycles'. -/
def topCyclesCard : Claim7 := { stood := { row := topCyclesRow, standIns := [], harness := (true, "5974cdd94769487751c3dde2b6e19cfc0ed2dbd4ada368311fefeccdd1f603ed"), looks := false }, kinds := [], alts := [], laidByText := true, laidKinds := [.data, .data], laidTests := true, laidLooks := .later }
def TopCyclesCardSaid : Prop := Claim7.holds Tryd.pinned (.plain (OpenSpec.ofChange topCyclesSpec)) topCyclesCard

/-- THE SECOND FORM's CARD OF 'swashplatetop.TopCycles'. -/
def topCyclesUptoCard : Claim7 := { stood := { row := topCyclesUptoRow, standIns := [], harness := (true, "5974cdd94769487751c3dde2b6e19cfc0ed2dbd4ada368311fefeccdd1f603ed"), looks := false }, kinds := [], alts := [], laidByText := true, laidKinds := [.data, .data], laidTests := true, laidLooks := .later }
def TopCyclesUptoCardSaid : Prop := Claim7.holds Tryd.pinned (.plain (OpenSpec.upto topCyclesSpec)) topCyclesUptoCard
end Rows
end Go.Proofs.YtgibbaadjbohdaaDoor
