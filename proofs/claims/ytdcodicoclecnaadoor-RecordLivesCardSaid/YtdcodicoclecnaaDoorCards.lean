/-
  DERIVED. GIVEN WITH THE SEED: THE CARDS: each row of YtdcodicoclecnaaDoorRows.lean that lists a variable, with what it lists TIED to the program's text (the seventh form; the later family's looks); each row that meets fmt, with fmt's text TOLD by the authors' own Lean function (tested against real Go, not proved from fmt's source: count such statements apart). THE CARD IS WHAT COUNTS. Prove the row's statement (the work); the ties are given (YtdcodicoclecnaaDoorTie.lean); close each card by the builder's one call (the guide's Derived/Test/ToyasCard.lean, 'card_holds'). Laid BY PROGRAM, IN A SANDBOX (cutbox-door.mjs). By AI agents, Wed Nov 11 2026. No macro, syntax, notation, axiom, sorry.
-/
import Derived.Test.YtdcodicoclecnaaDoorRows
import GoSem.ClaimSeven
namespace Go.Proofs.YtdcodicoclecnaaDoor
namespace Rows

/-- THE TIED CARD OF 'swashplatelaw12.RecordLives'. -/
def recordLivesCard : Claim7 := { stood := { row := recordLivesRow, standIns := [], harness := (true, "fb5d260e7ed18a7f8b85a1bb8b5e342ae0e47c7d714f4646040e6ef5d4769c60"), looks := false }, kinds := [], alts := [], laidByText := true, laidKinds := [.data, .data], laidTests := true, laidLooks := .later }
def RecordLivesCardSaid : Prop := Claim7.holds Tryd.pinned (.plain (OpenSpec.ofChange recordLivesSpec)) recordLivesCard

/-- THE SECOND FORM's CARD OF 'swashplatelaw12.RecordLives'. -/
def recordLivesUptoCard : Claim7 := { stood := { row := recordLivesUptoRow, standIns := [], harness := (true, "fb5d260e7ed18a7f8b85a1bb8b5e342ae0e47c7d714f4646040e6ef5d4769c60"), looks := false }, kinds := [], alts := [], laidByText := true, laidKinds := [.data, .data], laidTests := true, laidLooks := .later }
def RecordLivesUptoCardSaid : Prop := Claim7.holds Tryd.pinned (.plain (OpenSpec.upto recordLivesSpec)) recordLivesUptoCard
end Rows
end Go.Proofs.YtdcodicoclecnaaDoor
