/- What is known when the table is not far. No conditions. -/
import Derived.Test.YtfaiogajaaclcaaTref
namespace Go.Proofs.Ytfaiogajaaclcaa
open Go.RowKit

theorem farB_no {xs ys : List Int} {vs : List (List Int)} (h : farB xs ys vs = false) : (xs.length ≤ 15 ∧ ys.length ≤ 15 ∧ vs.length ≤ 15) ∧ ∀ r ∈ vs, r.length ≤ 15 := by
  unfold farB rowFar at h
  simp only [Bool.or_eq_false_iff, decide_eq_false_iff_not, List.any_eq_false, decide_eq_true_eq] at h
  obtain ⟨⟨⟨h1, h2⟩, h3⟩, h4⟩ := h
  exact ⟨⟨by omega, by omega, by omega⟩, fun r hr => by have := h4 r hr; omega⟩
theorem tsz_no {xs ys : List Int} {vs : List (List Int)} (h : farB xs ys vs = false) : TSz xs ys vs := by
  obtain ⟨⟨h1, h2, h3⟩, h4⟩ := farB_no h
  exact ⟨by omega, by omega, by omega, fun r hr => by have := h4 r hr; omega⟩
end Go.Proofs.Ytfaiogajaaclcaa
