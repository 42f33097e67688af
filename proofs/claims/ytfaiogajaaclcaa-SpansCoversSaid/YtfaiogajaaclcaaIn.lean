/- Arguments that came in: what their cells are. No conditions. -/
import Derived.Test.YtfaiogajaaclcaaVals
namespace Go.Proofs.Ytfaiogajaaclcaa
open Go.RowKit Lift

theorem in_ints {l : List (List D)} (h : ∀ x ∈ l, CfL [.int] x) : ∃ xs, l = ints xs ∧ ∀ x ∈ xs, -9223372036854775808 ≤ x ∧ x ≤ 9223372036854775807 := by
  induction l with
  | nil => exact ⟨[], rfl, by simp⟩
  | cons x l ih =>
    obtain ⟨xs, rfl, hx⟩ := ih fun y hy => h y (List.mem_cons_of_mem _ hy)
    have h0 := h x (List.mem_cons_self ..)
    cases h0 with
    | int n ss ds h1 h2 h3 =>
      cases h3
      exact ⟨n :: xs, rfl, fun y hy => by
        rcases List.mem_cons.1 hy with rfl | hy
        · exact ⟨h1, h2⟩
        · exact hx y hy⟩
theorem in_rows {l : List (List D)} (h : ∀ x ∈ l, CfL [.sl [.int]] x) : ∃ vs, l = rows vs ∧ ∀ r ∈ vs, r.length ≤ maxLen := by
  induction l with
  | nil => exact ⟨[], rfl, by simp⟩
  | cons x l ih =>
    obtain ⟨vs, rfl, hx⟩ := ih fun y hy => h y (List.mem_cons_of_mem _ hy)
    have h0 := h x (List.mem_cons_self ..)
    cases h0 with
    | sl e k ss ds h1 h2 h3 =>
      cases h3
      obtain ⟨xs, rfl, _⟩ := in_ints h2
      exact ⟨xs :: vs, rfl, fun y hy => by
        rcases List.mem_cons.1 hy with rfl | hy
        · simpa [ints] using h1
        · exact hx y hy⟩
theorem in_2 {ds : List D} (h : CfL [.int, .int] ds) : ∃ a b : Int, ds = [dI a, dI b] ∧ (-9223372036854775808 ≤ a ∧ a ≤ 9223372036854775807) ∧ -9223372036854775808 ≤ b ∧ b ≤ 9223372036854775807 := by
  cases h with
  | int a ss ds h1 h2 h =>
    cases h with
    | int b ss ds h3 h4 h => cases h; exact ⟨a, b, rfl, ⟨h1, h2⟩, h3, h4⟩
theorem in_tab {ds : List D} (h : CfL [.sl [.int], .sl [.int], .sl [.sl [.int]]] ds) : ∃ (xs ys : List Int) (vs : List (List Int)), ds = [.list (ints xs), .list (ints ys), .list (rows vs)] ∧ xs.length ≤ maxLen ∧ ys.length ≤ maxLen ∧ vs.length ≤ maxLen ∧ ∀ r ∈ vs, r.length ≤ maxLen := by
  cases h with
  | sl e l ss ds h1 h2 h =>
    cases h with
    | sl e l' ss ds h3 h4 h =>
      cases h with
      | sl e l'' ss ds h5 h6 h =>
        cases h
        obtain ⟨xs, rfl, _⟩ := in_ints h2
        obtain ⟨ys, rfl, _⟩ := in_ints h4
        obtain ⟨vs, rfl, hr⟩ := in_rows h6
        exact ⟨xs, ys, vs, rfl, by simpa [ints] using h1, by simpa [ints] using h3, by simpa [rows] using h5, hr⟩
end Go.Proofs.Ytfaiogajaaclcaa
