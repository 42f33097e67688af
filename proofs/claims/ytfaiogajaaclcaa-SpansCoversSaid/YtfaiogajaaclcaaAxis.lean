/- Plain facts of an axis that is valid, and of the part of it in which a number lies. -/
import Derived.Test.YtfaiogajaaclcaaCell
namespace Go.Proofs.Ytfaiogajaaclcaa
open Go.RowKit

theorem axFrom_all (p : Option Int) (l : List Int) (h : axFrom p l = true) : (∀ k, k < l.length → -1000000 ≤ l[k]?.getD 0 ∧ l[k]?.getD 0 ≤ 1000000) ∧
    (∀ k, k + 1 < l.length → 1 ≤ l[k+1]?.getD 0 - l[k]?.getD 0 ∧ l[k+1]?.getD 0 - l[k]?.getD 0 ≤ 10000) ∧ (∀ y, p = some y → 0 < l.length → 1 ≤ l[0]?.getD 0 - y ∧ l[0]?.getD 0 - y ≤ 10000) := by
  induction l generalizing p with
  | nil => simp
  | cons x xs ih =>
    simp only [axFrom, Bool.and_eq_true] at h
    obtain ⟨⟨h1, h2⟩, h3⟩ := h
    obtain ⟨i1, i2, i3⟩ := ih _ h3
    have hx := wB_iff.1 h1
    refine ⟨fun k hk => ?_, fun k hk => ?_, fun y hy _ => ?_⟩
    · cases k with
      | zero => simpa using hx
      | succ k => simpa using i1 k (by simpa using hk)
    · cases k with
      | zero => simpa using i3 x rfl (by simpa using hk)
      | succ k => simpa using i2 k (by simpa using hk)
    · subst hy
      simpa using wB_iff.1 h2
structure Axis (l : List Int) : Prop where
  two : 2 ≤ l.length
  twelve : l.length ≤ 12
  bd : ∀ k, k < l.length → -1000000 ≤ l[k]?.getD 0 ∧ l[k]?.getD 0 ≤ 1000000
  gap : ∀ k, k + 1 < l.length → 1 ≤ l[k+1]?.getD 0 - l[k]?.getD 0 ∧ l[k+1]?.getD 0 - l[k]?.getD 0 ≤ 10000
theorem axis_of {l : List Int} (h : axB l = true) : Axis l := by
  unfold axB at h
  simp only [Bool.and_eq_true] at h
  have h1 := wB_iff.1 h.1
  obtain ⟨a, b, _⟩ := axFrom_all none l h.2
  exact ⟨by omega, by omega, a, b⟩
theorem Axis.mono {l : List Int} (h : Axis l) (i j : Nat) (hij : i ≤ j) (hj : j < l.length) : l[i]?.getD 0 ≤ l[j]?.getD 0 := by
  induction j with
  | zero => obtain rfl : i = 0 := by omega
            exact Int.le_refl _
  | succ j ih =>
    by_cases e : i = j + 1
    · subst e; exact Int.le_refl _
    · have := ih (by omega) (by omega)
      have := h.gap j hj
      omega
theorem Axis.cell_unique {l : List Int} (h : Axis l) {x : Int} {i j : Nat} (hi : CellAt l x i) (hj : CellAt l x j) : i = j := by
  have key : ∀ {i j : Nat}, CellAt l x i → CellAt l x j → ¬ i < j := by
    intro i j hi hj hlt
    have h1 := hi.2.2 (by have := hj.1; omega)
    have h2 := hj.2.1 (by omega)
    have h3 := h.mono (i + 1) j (by omega) (by have := hj.1; omega)
    omega
  have h1 := key hi hj
  have h2 := key hj hi
  omega
instance (l : List Int) (x : Int) (i : Nat) : Decidable (CellAt l x i) := by unfold CellAt; exact inferInstance
def cellI (l : List Int) (x : Int) : Nat := ((List.range l.length).find? (fun i => decide (CellAt l x i))).getD 0
theorem Axis.cellI_eq {l : List Int} (h : Axis l) {x : Int} {i : Nat} (hi : CellAt l x i) : cellI l x = i := by
  unfold cellI
  cases e : (List.range l.length).find? (fun i => decide (CellAt l x i)) with
  | none =>
    have := List.find?_eq_none.1 e i (by have := hi.1; simp; omega)
    simp [hi] at this
  | some j =>
    have := List.find?_some e
    exact h.cell_unique (by simpa using this) hi
theorem cellI_any (A : Option Addr) (l : List Int) (c : Nat) (x : Int) (w : World) (h : Axis l) (hlc : l.length ≤ c) (hA : Ints w A l) :
    Calls Try.prog 108 #[.slice A l.length c, .int .i64 x] w fun e w' => e = .returned (.int .i64 (cellI l x)) ∧ w' = w :=
  (cell_any A l c x w h.two (by have := h.twelve; omega) hlc hA).mono fun _ _ ⟨i, hi, he, hw⟩ => ⟨by rw [h.cellI_eq hi]; exact he, hw⟩
/-- a number that lies on an axis -/
def OnAx (l : List Int) (x : Int) : Prop := l[0]?.getD 0 ≤ x ∧ x ≤ l[l.length - 1]?.getD 0
theorem Axis.cell_exists {l : List Int} (h : Axis l) (x : Int) : ∃ i, CellAt l x i := by
  -- the first i from 0 on at which the number is at most the next knot, or the last part
  have key : ∀ n i, i + n + 2 = l.length → (0 < i → l[i]?.getD 0 < x) → ∃ j, CellAt l x j := by
    intro n
    induction n with
    | zero => intro i hi h0; exact ⟨i, by omega, h0, by omega⟩
    | succ n ih =>
      intro i hi h0
      by_cases hx : x ≤ l[i+1]?.getD 0
      · exact ⟨i, by omega, h0, fun _ => hx⟩
      · exact ih (i + 1) (by omega) (fun _ => by omega)
  exact key (l.length - 2) 0 (by have := h.two; omega) (by omega)
theorem Axis.cellI_at {l : List Int} (h : Axis l) (x : Int) : CellAt l x (cellI l x) := by
  obtain ⟨i, hi⟩ := h.cell_exists x
  rw [h.cellI_eq hi]; exact hi
theorem Axis.cell_on {l : List Int} (h : Axis l) {x : Int} (ho : OnAx l x) : cellI l x + 1 < l.length ∧ l[cellI l x]?.getD 0 ≤ x ∧ x ≤ l[cellI l x + 1]?.getD 0 ∧ l[cellI l x + 1]?.getD 0 - l[cellI l x]?.getD 0 ≤ 10000 ∧ 1 ≤ l[cellI l x + 1]?.getD 0 - l[cellI l x]?.getD 0 := by
  obtain ⟨h1, h2, h3⟩ := h.cellI_at x
  generalize cellI l x = i at *
  have g := h.gap i (by omega)
  refine ⟨by omega, ?_, ?_, g.2, g.1⟩
  · by_cases h0 : 0 < i
    · have := h2 h0; omega
    · obtain rfl : i = 0 := by omega
      exact ho.1
  · by_cases h0 : i + 2 < l.length
    · exact h3 h0
    · have : i + 1 = l.length - 1 := by omega
      rw [this]; exact ho.2
end Go.Proofs.Ytfaiogajaaclcaa
