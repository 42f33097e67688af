/- Texts of the law SpansCovered, part 12. No conditions. -/
import Derived.Test.YtfaiogajaaclcaaPSpansCovered11
import Derived.ProofKit
import Derived.OpenShut
import Derived.ChangeOld
import Derived.Below
import Derived.Lib.SmallJoins
import Derived.Deep.Matrix
/- Arguments of plain make, opened: aggregates of ints; tables. -/
namespace Go.Proofs.Ytfaiogajaaclcaa
open Go.ChangeShapes Go.WideShapes Go.ChangeAt Go.RowKit Go.Joins Go.Deep

theorem Try.own : ownKnob Try.prog.godebug = none := by kernel_rfl
theorem Try.laidOut : laidOutB Try.prog = true := by kernel_rfl
section
variable {P : Program}
end
section
variable {H : Type} {enc : TypeId × Value → H} {P : Program} {w : World} {r : Reach} {b0 base : Nat} {spare : Nat → Bool} {held : Bool} {v : Value} {d : DataW H} {ps : List MemPlace}
end
/-- no length beyond what memory holds -/
structure TSm (xs ys : List Int) (vs : List (List Int)) : Prop where
  x : xs.length ≤ maxLen
  y : ys.length ≤ maxLen
  v : vs.length ≤ maxLen
  r : ∀ r ∈ vs, r.length ≤ maxLen
end Go.Proofs.Ytfaiogajaaclcaa
/- Arguments that came in: what their cells are. No conditions. -/
namespace Go.Proofs.Ytfaiogajaaclcaa
open Go.RowKit Lift

theorem in_ints {l : List (List D)} (h : ∀ x ∈ l, CfL [.int] x) : ∃ xs, l = ints xs ∧ ∀ x ∈ xs, -9223372036854775808 ≤ x ∧ x ≤ 9223372036854775807 := by
  induction l with
  | nil => exact ⟨[], rfl, by simp⟩
  | cons x l ih =>
    obtain ⟨xs, rfl, hx⟩ := ih fun y hy => h y (List.mem_cons_of_mem _ hy)
    have h0 := h x (List.mem_cons_self ..)
    cases h0 with
    | int n ss ds h1 h2 h3 =>
      cases h3
      exact ⟨n :: xs, rfl, fun y hy => by
        rcases List.mem_cons.1 hy with rfl | hy
        · exact ⟨h1, h2⟩
        · exact hx y hy⟩
theorem in_2 {ds : List D} (h : CfL [.int, .int] ds) : ∃ a b : Int, ds = [dI a, dI b] ∧ (-9223372036854775808 ≤ a ∧ a ≤ 9223372036854775807) ∧ -9223372036854775808 ≤ b ∧ b ≤ 9223372036854775807 := by
  cases h with
  | int a ss ds h1 h2 h =>
    cases h with
    | int b ss ds h3 h4 h => cases h; exact ⟨a, b, rfl, ⟨h1, h2⟩, h3, h4⟩
end Go.Proofs.Ytfaiogajaaclcaa
/- Boxes that came in. No conditions. -/
namespace Go.Proofs.Ytfaiogajaaclcaa
open Go.RowKit Lift Go.ChangeShapes Go.WideShapes Go.ChangeAt Go.Joins

theorem notagg_slice {P : Program} {w : World} {r : Reach} {b0 : Nat} {t e : TypeId} {v : Value} (ht : P.underlying t = some (.slice e)) (hv : Value.okWide P w r b0 t v) : ∀ cs, v ≠ .agg cs := by
  rintro cs rfl
  simp [Value.okWide, Cell.okWide, Cell.ok, ht] at hv
theorem in_sps {l : List (List D)} (h : ∀ x ∈ l, CfL [.int, .int] x) : ∃ b, l = sps b ∧ ∀ x ∈ b, (-9223372036854775808 ≤ x.1 ∧ x.1 ≤ 9223372036854775807) ∧ -9223372036854775808 ≤ x.2 ∧ x.2 ≤ 9223372036854775807 := by
  induction l with
  | nil => exact ⟨[], rfl, by simp⟩
  | cons x l ih =>
    obtain ⟨b, rfl, hb⟩ := ih fun y hy => h y (List.mem_cons_of_mem _ hy)
    obtain ⟨u, v, rfl, hu, hv⟩ := in_2 (h x (List.mem_cons_self ..))
    exact ⟨(u, v) :: b, rfl, fun y hy => by
      rcases List.mem_cons.1 hy with rfl | hy
      · exact ⟨hu, hv⟩
      · exact hb y hy⟩
theorem in_box {ds : List D} (h : CfL [.sl [.int, .int]] ds) : ∃ b : Bx, ds = [.list (sps b)] ∧ b.length ≤ maxLen ∧ ∀ x ∈ b, (-9223372036854775808 ≤ x.1 ∧ x.1 ≤ 9223372036854775807) ∧ -9223372036854775808 ≤ x.2 ∧ x.2 ≤ 9223372036854775807 := by
  cases h with
  | sl e l ss ds h1 h2 h3 =>
    cases h3
    obtain ⟨b, rfl, hb⟩ := in_sps h2
    exact ⟨b, rfl, by simpa [sps] using h1, hb⟩
theorem in_bxs {l : List (List D)} (h : ∀ x ∈ l, CfL [.sl [.int, .int]] x) : ∃ bs, l = bxs bs ∧ ∀ b ∈ bs, b.length ≤ maxLen := by
  induction l with
  | nil => exact ⟨[], rfl, by simp⟩
  | cons x l ih =>
    obtain ⟨bs, rfl, hb⟩ := ih fun y hy => h y (List.mem_cons_of_mem _ hy)
    obtain ⟨b, rfl, h1, _⟩ := in_box (h x (List.mem_cons_self ..))
    exact ⟨b :: bs, rfl, fun y hy => by
      rcases List.mem_cons.1 hy with rfl | hy
      · exact h1
      · exact hb y hy⟩
theorem in_boxes {ds : List D} (h : CfL [.sl [.sl [.int, .int]]] ds) : ∃ bs : List Bx, ds = [.list (bxs bs)] ∧ bs.length ≤ maxLen ∧ ∀ b ∈ bs, b.length ≤ maxLen := by
  cases h with
  | sl e l ss ds h1 h2 h3 =>
    cases h3
    obtain ⟨bs, rfl, hb⟩ := in_bxs h2
    exact ⟨bs, rfl, by simpa [bxs] using h1, hb⟩
theorem in_int {ds : List D} (h : CfL [.sl [.int]] ds) : ∃ p : List Int, ds = [.list (ints p)] ∧ p.length ≤ maxLen ∧ ∀ x ∈ p, -9223372036854775808 ≤ x ∧ x ≤ 9223372036854775807 := by
  cases h with
  | sl e l ss ds h1 h2 h3 =>
    cases h3
    obtain ⟨p, rfl, hp⟩ := in_ints h2
    exact ⟨p, rfl, by simpa [ints] using h1, hp⟩
end Go.Proofs.Ytfaiogajaaclcaa
