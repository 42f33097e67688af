/- What slices hold, said of lists: plain predicates on a world, kept by whatever leaves old blocks alone. -/
import Derived.WalkKit
import Derived.WalkSpells
import Derived.WalkLawsBesides
import Derived.Deep.QuietTactic
import Derived.BigQuiet
import Derived.Lib.Hide
import Derived.Deep.RegionHeld3
import Derived.Laws.EntriesVeiled
namespace Go.Proofs.Ytfaiogajaaclcaa
open Go.RowKit

def Ints (w : World) (A : Option Addr) (l : List Int) : Prop :=
  0 < l.length → ∃ b off, A = some ⟨b, off, none⟩ ∧ b < w.heap.size ∧ ∀ k, k < l.length → w.cell? ⟨b, off + k, none⟩ = some (.int .i64 (l[k]?.getD 0))
def Sps (w : World) (A : Option Addr) (l : List (Int × Int)) : Prop :=
  0 < l.length → ∃ b off, A = some ⟨b, off, none⟩ ∧ b < w.heap.size ∧ ∀ k, k < l.length →
    w.cell? ⟨b, off + k * 2, none⟩ = some (.int .i64 (l[k]?.getD (0, 0)).1) ∧ w.cell? ⟨b, off + k * 2 + 1, none⟩ = some (.int .i64 (l[k]?.getD (0, 0)).2)
def Mat (w : World) (A : Option Addr) (l : List (List Int)) : Prop :=
  0 < l.length → ∃ b off, A = some ⟨b, off, none⟩ ∧ b < w.heap.size ∧ ∀ k, k < l.length → ∃ B c, w.cell? ⟨b, off + k, none⟩ = some (.slice B (l[k]?.getD []).length c) ∧ Ints w B (l[k]?.getD [])
def Bxs (w : World) (A : Option Addr) (l : List (List (Int × Int))) : Prop :=
  0 < l.length → ∃ b off, A = some ⟨b, off, none⟩ ∧ b < w.heap.size ∧ ∀ k, k < l.length → ∃ B c, w.cell? ⟨b, off + k, none⟩ = some (.slice B (l[k]?.getD []).length c) ∧ Sps w B (l[k]?.getD [])

section
variable {w w' : World} {A : Option Addr}
theorem Ints.below {l : List Int} (h : Ints w A l) (hb : Below w.heap.size w w') : Ints w' A l := fun hl => by
  obtain ⟨b, off, e, hlt, hc⟩ := h hl
  exact ⟨b, off, e, Nat.lt_of_lt_of_le hlt hb.size, fun k hk => (hb.cell (p := ⟨b, off + k, none⟩) hlt).trans (hc k hk)⟩
theorem Sps.below {l : List (Int × Int)} (h : Sps w A l) (hb : Below w.heap.size w w') : Sps w' A l := fun hl => by
  obtain ⟨b, off, e, hlt, hc⟩ := h hl
  exact ⟨b, off, e, Nat.lt_of_lt_of_le hlt hb.size, fun k hk => ⟨(hb.cell (p := ⟨b, off + k * 2, none⟩) hlt).trans (hc k hk).1, (hb.cell (p := ⟨b, off + k * 2 + 1, none⟩) hlt).trans (hc k hk).2⟩⟩
theorem Mat.below {l : List (List Int)} (h : Mat w A l) (hb : Below w.heap.size w w') : Mat w' A l := fun hl => by
  obtain ⟨b, off, e, hlt, hc⟩ := h hl
  refine ⟨b, off, e, Nat.lt_of_lt_of_le hlt hb.size, fun k hk => ?_⟩
  obtain ⟨B, c, h1, h2⟩ := hc k hk
  exact ⟨B, c, (hb.cell (p := ⟨b, off + k, none⟩) hlt).trans h1, h2.below hb⟩
theorem Bxs.below {l : List (List (Int × Int))} (h : Bxs w A l) (hb : Below w.heap.size w w') : Bxs w' A l := fun hl => by
  obtain ⟨b, off, e, hlt, hc⟩ := h hl
  refine ⟨b, off, e, Nat.lt_of_lt_of_le hlt hb.size, fun k hk => ?_⟩
  obtain ⟨B, c, h1, h2⟩ := hc k hk
  exact ⟨B, c, (hb.cell (p := ⟨b, off + k, none⟩) hlt).trans h1, h2.below hb⟩
end
/-- old cells and marks read as before -/
theorem bcell {W w1 : World} (hb : Below W.heap.size W w1) : (∀ b o, b < W.heap.size → w1.cell? ⟨b, o, none⟩ = W.cell? ⟨b, o, none⟩) ∧ (∀ b o, b < W.heap.size → w1.frozen? ⟨b, o, none⟩ = W.frozen? ⟨b, o, none⟩) :=
  ⟨fun b o h => hb.cell (p := ⟨b, o, none⟩) h, fun b o h => hb.frozen (p := ⟨b, o, none⟩) h⟩
theorem Below.drewN' {B : Nat} {a w : World} (h : Below B a w) (n : Nat) : Below B a (w.drewN n) := ⟨h.os, h.tape, h.output, h.size, h.block⟩
end Go.Proofs.Ytfaiogajaaclcaa
