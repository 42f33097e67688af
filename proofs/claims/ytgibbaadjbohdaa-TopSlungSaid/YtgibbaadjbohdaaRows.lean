/-
  No cell of these rows narrows 'for every input' (looked for: loops, veiled, ifaces, maps, wideKeys, modest, calm, conditions, laid).
  DERIVED. THE GIVEN ROWS OF THIS SEAT. 4 by the template 'for every input the law returns true; each argument reads behind the call as it read before'; 0 by the template 'total and deterministic' (their statements: YtgibbaadjbohdaaTotals.lean).
  GIVEN WITH THE SEED: the statements are not yours to turn. If you find one false, say at which input.
  Laid BY PROGRAM, IN A SANDBOX (cutbox-rows.mjs): the forced cells as the released guide's own fill.sh prints them over the translation beaa5d2f13bf17f8… (all of the seat's roots in one cut). By AI agents, Wed Nov 11 2026. No macro, syntax, notation, axiom, sorry.
-/
import Derived.Test.YtgibbaadjbohdaaChecked
import GoSem.Claim
import GoSem.ClaimJoined
import GoSem.ClaimMapViews
import Derived.JoinedTies
import Derived.KernelRfl
namespace Go.Proofs.Ytgibbaadjbohdaa
/- THE CELL 'sum', in the pinned program and in every row, IS THE sha256 OF THE DUMP (.gsa) THAT YtgibbaadjbohdaaProg.lean LOADS. Nothing in Lean hashes anything: it is a label: what it is worth is what the hold of that sum in a sandbox is worth. -/
noncomputable def Try.pinned : Pinned := { name := "ytgibbaadjbohdaa", sum := "beaa5d2f13bf17f8a387835718a24ef848c394fb3a211760a1874a0b80f10d29", checked := Try.checked }
namespace Rows
def none {H : Type} : Left H := { results := [], args := [] }

/-- 'swashplatetop.TopFuel': WHATEVER THE INPUT: true; the input reads as it did. -/
def topFuelSpec : ChangeSpec := { name := "topFuel", fn := fun _ => fun
  | [d1, d2] => { results := [.lit (.bool true)], args := [d1, d2] }
  | _ => none }
def topFuelRow : OpenClaim := { program := "ytgibbaadjbohdaa", sum := "beaa5d2f13bf17f8a387835718a24ef848c394fb3a211760a1874a0b80f10d29", func := "swashplate/swashplatetop.TopFuel", spec := "topFuel", unfollowed := true, recurses := true, apart := false }
def TopFuelSaid : Prop := topFuelRow.holds Try.pinned (OpenSpec.ofChange topFuelSpec)

/-- ITS FALSE NEIGHBOUR: 'it returns false'. Refute it at one input. -/
def topFuelWrong : ChangeSpec := { name := "topFuel", fn := fun _ => fun
  | [d1, d2] => { results := [.lit (.bool false)], args := [d1, d2] }
  | _ => none }
def TopFuelWrongFalsely : Prop := topFuelRow.holds Try.pinned (OpenSpec.ofChange topFuelWrong)

/-- 'swashplatetop.TopPages': WHATEVER THE INPUT: true; the input reads as it did. -/
def topPagesSpec : ChangeSpec := { name := "topPages", fn := fun _ => fun
  | [d1, d2] => { results := [.lit (.bool true)], args := [d1, d2] }
  | _ => none }
def topPagesRow : OpenClaim := { program := "ytgibbaadjbohdaa", sum := "beaa5d2f13bf17f8a387835718a24ef848c394fb3a211760a1874a0b80f10d29", func := "swashplate/swashplatetop.TopPages", spec := "topPages", unfollowed := true, recurses := true, apart := false }
def TopPagesSaid : Prop := topPagesRow.holds Try.pinned (OpenSpec.ofChange topPagesSpec)

/-- ITS FALSE NEIGHBOUR: 'it returns false'. Refute it at one input. -/
def topPagesWrong : ChangeSpec := { name := "topPages", fn := fun _ => fun
  | [d1, d2] => { results := [.lit (.bool false)], args := [d1, d2] }
  | _ => none }
def TopPagesWrongFalsely : Prop := topPagesRow.holds Try.pinned (OpenSpec.ofChange topPagesWrong)

/-- 'swashplatetop.TopSlung': WHATEVER THE INPUT: true; the input reads as it did. -/
def topSlungSpec : ChangeSpec := { name := "topSlung", fn := fun _ => fun
  | [d1, d2, d3] => { results := [.lit (.bool true)], args := [d1, d2, d3] }
  | _ => none }
def topSlungRow : OpenClaim := { program := "ytgibbaadjbohdaa", sum := "beaa5d2f13bf17f8a387835718a24ef848c394fb3a211760a1874a0b80f10d29", func := "swashplate/swashplatetop.TopSlung", spec := "topSlung", unfollowed := true, recurses := true, apart := false }
def TopSlungSaid : Prop := topSlungRow.holds Try.pinned (OpenSpec.ofChange topSlungSpec)

/-- ITS FALSE NEIGHBOUR: 'it returns false'. Refute it at one input. -/
def topSlungWrong : ChangeSpec := { name := "topSlung", fn := fun _ => fun
  | [d1, d2, d3] => { results := [.lit (.bool false)], args := [d1, d2, d3] }
  | _ => none }
def TopSlungWrongFalsely : Prop := topSlungRow.holds Try.pinned (OpenSpec.ofChange topSlungWrong)

/-- 'swashplatetop.TopHeard': WHATEVER THE INPUT: true; the input reads as it did. -/
def topHeardSpec : ChangeSpec := { name := "topHeard", fn := fun _ => fun
  | [d1, d2, d3] => { results := [.lit (.bool true)], args := [d1, d2, d3] }
  | _ => none }
def topHeardRow : OpenClaim := { program := "ytgibbaadjbohdaa", sum := "beaa5d2f13bf17f8a387835718a24ef848c394fb3a211760a1874a0b80f10d29", func := "swashplate/swashplatetop.TopHeard", spec := "topHeard", unfollowed := true, recurses := true, apart := false }
def TopHeardSaid : Prop := topHeardRow.holds Try.pinned (OpenSpec.ofChange topHeardSpec)

/-- ITS FALSE NEIGHBOUR: 'it returns false'. Refute it at one input. -/
def topHeardWrong : ChangeSpec := { name := "topHeard", fn := fun _ => fun
  | [d1, d2, d3] => { results := [.lit (.bool false)], args := [d1, d2, d3] }
  | _ => none }
def TopHeardWrongFalsely : Prop := topHeardRow.holds Try.pinned (OpenSpec.ofChange topHeardWrong)

/- THE SECOND FORM. 'bulk': how many values and letters a reading holds, each counted each time it is reached (what is shared counts as often as it is met; a slice's spare places count too). A statement '..UptoSaid' is the law's where the arguments, and the package variables that the reading takes, are together of bulk at most 1048576: NARROWER than '..Said'. Prove '..Said' where nothing that the law and all that it calls make is longer than what came in: it says more and counts as full. Else prove '..UptoSaid'. A law counts once. -/
mutual
def uptoBulk {H : Type} : DataW H → Nat
  | .lit (.string bytes) => bytes.length + 1
  | .lit _ => 1
  | .nil => 1
  | .ptr d => uptoBulk d + 1
  | .slice elems spare => uptoBulkAll elems + uptoBulkAll spare + 1
  | .agg parts => uptoBulkAll parts + 1
  | .iface _ d => uptoBulk d + 1
  | .map entries => uptoBulkEntries entries + 1
  | .held _ => 1
def uptoBulkAll {H : Type} : List (DataW H) → Nat
  | [] => 0
  | d :: r => uptoBulk d + uptoBulkAll r
def uptoBulkEntries {H : Type} : List (Lit × DataW H) → Nat
  | [] => 0
  | x :: r => uptoBulkEntry x + uptoBulkEntries r
def uptoBulkEntry {H : Type} : Lit × DataW H → Nat
  | (.string bytes, d) => bytes.length + uptoBulk d + 1
  | (_, d) => uptoBulk d + 1
 end
def uptoSmall : (H : Type) → List (DataW H) → Bool := fun _ ds => decide (uptoBulkAll ds ≤ 1048576)
def OpenSpec.upto (s : _root_.Go.ChangeSpec) : _root_.Go.OpenSpec := { _root_.Go.OpenSpec.ofChange s with cond := some uptoSmall }

/-- 'swashplatetop.TopFuel', WHERE WHAT IT READS IS OF BULK AT MOST 1048576: true; the input reads as it did. -/
def topFuelUptoRow : OpenClaim := { program := "ytgibbaadjbohdaa", sum := "beaa5d2f13bf17f8a387835718a24ef848c394fb3a211760a1874a0b80f10d29", func := "swashplate/swashplatetop.TopFuel", spec := "topFuel", unfollowed := true, recurses := true, apart := false, narrowed := true }
def TopFuelUptoSaid : Prop := topFuelUptoRow.holds Try.pinned (OpenSpec.upto topFuelSpec)

/-- 'swashplatetop.TopPages', WHERE WHAT IT READS IS OF BULK AT MOST 1048576: true; the input reads as it did. -/
def topPagesUptoRow : OpenClaim := { program := "ytgibbaadjbohdaa", sum := "beaa5d2f13bf17f8a387835718a24ef848c394fb3a211760a1874a0b80f10d29", func := "swashplate/swashplatetop.TopPages", spec := "topPages", unfollowed := true, recurses := true, apart := false, narrowed := true }
def TopPagesUptoSaid : Prop := topPagesUptoRow.holds Try.pinned (OpenSpec.upto topPagesSpec)

/-- 'swashplatetop.TopSlung', WHERE WHAT IT READS IS OF BULK AT MOST 1048576: true; the input reads as it did. -/
def topSlungUptoRow : OpenClaim := { program := "ytgibbaadjbohdaa", sum := "beaa5d2f13bf17f8a387835718a24ef848c394fb3a211760a1874a0b80f10d29", func := "swashplate/swashplatetop.TopSlung", spec := "topSlung", unfollowed := true, recurses := true, apart := false, narrowed := true }
def TopSlungUptoSaid : Prop := topSlungUptoRow.holds Try.pinned (OpenSpec.upto topSlungSpec)

/-- 'swashplatetop.TopHeard', WHERE WHAT IT READS IS OF BULK AT MOST 1048576: true; the input reads as it did. -/
def topHeardUptoRow : OpenClaim := { program := "ytgibbaadjbohdaa", sum := "beaa5d2f13bf17f8a387835718a24ef848c394fb3a211760a1874a0b80f10d29", func := "swashplate/swashplatetop.TopHeard", spec := "topHeard", unfollowed := true, recurses := true, apart := false, narrowed := true }
def TopHeardUptoSaid : Prop := topHeardUptoRow.holds Try.pinned (OpenSpec.upto topHeardSpec)

end Rows
end Go.Proofs.Ytgibbaadjbohdaa
