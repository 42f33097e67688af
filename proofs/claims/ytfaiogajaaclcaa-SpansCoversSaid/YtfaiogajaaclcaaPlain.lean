/- Plain arithmetic: floor division by Go's '/' and '%'. -/
namespace Go.Proofs.Ytfaiogajaaclcaa

theorem floor_eq (a b : Int) (hb : 1 ≤ b) : a / b = if a.tmod b < 0 then a.tdiv b - 1 else a.tdiv b := by
  have e1 := Int.mul_tdiv_add_tmod a b
  have e5 := Int.tmod_lt_of_pos a (show 0 < b by omega)
  have e6 := Int.lt_tmod_of_pos a (show 0 < b by omega)
  split
  · rename_i h
    exact ((Int.ediv_emod_unique (a := a) (b := b) (r := a.tmod b + b) (q := a.tdiv b - 1) (by omega)).2 ⟨by rw [Int.mul_sub]; omega, by omega, by omega⟩).1
  · rename_i h
    exact ((Int.ediv_emod_unique (a := a) (b := b) (r := a.tmod b) (q := a.tdiv b) (by omega)).2 ⟨by omega, by omega, by omega⟩).1
theorem tdiv_bd (a b M : Int) (h1 : -M ≤ a) (h2 : a ≤ M) : -M ≤ a.tdiv b ∧ a.tdiv b ≤ M := by
  have := Int.natAbs_tdiv_le_natAbs a b
  omega
theorem ediv_bd (a b M : Int) (hM : 0 ≤ M) (hb : 1 ≤ b) (h1 : -M ≤ a) (h2 : a ≤ M) : -M ≤ a / b ∧ a / b ≤ M := by
  have e2 := Int.mul_ediv_add_emod a b
  have e3 := Int.emod_nonneg a (show b ≠ 0 by omega)
  constructor
  · refine (Int.le_ediv_iff_mul_le (by omega)).2 ?_
    have : -M * b ≤ -M * 1 := Int.mul_le_mul_of_nonpos_left (by omega) hb
    omega
  · refine Int.le_trans (Int.ediv_le_ediv (by omega) h2) ?_
    exact Int.ediv_le_self _ hM
end Go.Proofs.Ytfaiogajaaclcaa
