/- Texts of the law SpansInside, part 6. No conditions. -/
import Derived.Test.YtfaiogajaaclcaaPSpansInside05
/- Arguments that came in: what their cells are. No conditions. -/
namespace Go.Proofs.Ytfaiogajaaclcaa
open Go.RowKit Lift

theorem in_ints {l : List (List D)} (h : ∀ x ∈ l, CfL [.int] x) : ∃ xs, l = ints xs ∧ ∀ x ∈ xs, -9223372036854775808 ≤ x ∧ x ≤ 9223372036854775807 := by
  induction l with
  | nil => exact ⟨[], rfl, by simp⟩
  | cons x l ih =>
    obtain ⟨xs, rfl, hx⟩ := ih fun y hy => h y (List.mem_cons_of_mem _ hy)
    have h0 := h x (List.mem_cons_self ..)
    cases h0 with
    | int n ss ds h1 h2 h3 =>
      cases h3
      exact ⟨n :: xs, rfl, fun y hy => by
        rcases List.mem_cons.1 hy with rfl | hy
        · exact ⟨h1, h2⟩
        · exact hx y hy⟩
theorem in_rows {l : List (List D)} (h : ∀ x ∈ l, CfL [.sl [.int]] x) : ∃ vs, l = rows vs ∧ ∀ r ∈ vs, r.length ≤ maxLen := by
  induction l with
  | nil => exact ⟨[], rfl, by simp⟩
  | cons x l ih =>
    obtain ⟨vs, rfl, hx⟩ := ih fun y hy => h y (List.mem_cons_of_mem _ hy)
    have h0 := h x (List.mem_cons_self ..)
    cases h0 with
    | sl e k ss ds h1 h2 h3 =>
      cases h3
      obtain ⟨xs, rfl, _⟩ := in_ints h2
      exact ⟨xs :: vs, rfl, fun y hy => by
        rcases List.mem_cons.1 hy with rfl | hy
        · simpa [ints] using h1
        · exact hx y hy⟩
theorem in_tab {ds : List D} (h : CfL [.sl [.int], .sl [.int], .sl [.sl [.int]]] ds) : ∃ (xs ys : List Int) (vs : List (List Int)), ds = [.list (ints xs), .list (ints ys), .list (rows vs)] ∧ xs.length ≤ maxLen ∧ ys.length ≤ maxLen ∧ vs.length ≤ maxLen ∧ ∀ r ∈ vs, r.length ≤ maxLen := by
  cases h with
  | sl e l ss ds h1 h2 h =>
    cases h with
    | sl e l' ss ds h3 h4 h =>
      cases h with
      | sl e l'' ss ds h5 h6 h =>
        cases h
        obtain ⟨xs, rfl, _⟩ := in_ints h2
        obtain ⟨ys, rfl, _⟩ := in_ints h4
        obtain ⟨vs, rfl, hr⟩ := in_rows h6
        exact ⟨xs, ys, vs, rfl, by simpa [ints] using h1, by simpa [ints] using h3, by simpa [rows] using h5, hr⟩
end Go.Proofs.Ytfaiogajaaclcaa
/- Boxes as abstract values; what is left of a box without another one. No conditions. -/
namespace Go.Proofs.Ytfaiogajaaclcaa
open Go.RowKit Lift

abbrev Bx := List (Int × Int)
def sps (b : Bx) : List (List D) := b.map fun x => [.val (.int .i64 x.1), .val (.int .i64 x.2)]
def scells : Bx → List D
  | [] => []
  | x :: b => .val (.int .i64 x.1) :: .val (.int .i64 x.2) :: scells b
def bcells (l : List Bx) : List D := l.map fun b => .list (sps b)
def lo (b : Bx) (k : Nat) : Int := (b[k]?.getD (0, 0)).1
def hi (b : Bx) (k : Nat) : Int := (b[k]?.getD (0, 0)).2
theorem scells_mem {b : Bx} : ∀ {d : D}, d ∈ scells b → ∃ n, d = .val (.int .i64 n) := by
  induction b with
  | nil => intro d h; simp [scells] at h
  | cons x b ih =>
    intro d h
    simp only [scells, List.mem_cons] at h
    rcases h with rfl | rfl | h
    · exact ⟨_, rfl⟩
    · exact ⟨_, rfl⟩
    · exact ih h
theorem scells_in (b : Bx) : ∀ d ∈ scells b, In (fun _ => False) d := fun d hd => by obtain ⟨n, rfl⟩ := scells_mem hd; exact .val _
theorem bcells_in (l : List Bx) : ∀ d ∈ bcells l, In (fun _ => False) d := by
  intro d hd; obtain ⟨x, _, rfl⟩ := List.mem_map.1 hd; exact .list _
/-! ### what the functions compute -/
structure OkB (b : Bx) : Prop where
  pos : 1 ≤ b.length
  len : b.length ≤ 3
  low : ∀ k, k < b.length → -1000000 ≤ lo b k
  le : ∀ k, k < b.length → lo b k ≤ hi b k
  high : ∀ k, k < b.length → hi b k ≤ 1000000
end Go.Proofs.Ytfaiogajaaclcaa
/- Ten numbers that came in. No conditions. -/
namespace Go.Proofs.Ytfaiogajaaclcaa
open Go.RowKit Lift

theorem in_int1 {ss : List Sh} {ds : List D} (h : CfL (.int :: ss) ds) : ∃ (a : Int) (r : List D), ds = dI a :: r ∧ CfL ss r := by
  cases h with
  | int a ss ds h1 h2 h => exact ⟨a, ds, rfl, h⟩
theorem in_pick {ds : List D} (h : CfL [.int, .int, .int, .int, .int, .int, .int, .int, .int, .int] ds) : ∃ (X Y : Int × Int) (n0 n1 n2 n3 n4 n5 : Int), ds = [dI X.1, dI X.2, dI Y.1, dI Y.2, dI n0, dI n1, dI n2, dI n3, dI n4, dI n5] := by
  obtain ⟨a0, r0, rfl, h0⟩ := in_int1 h
  obtain ⟨a1, r1, rfl, h1⟩ := in_int1 h0
  obtain ⟨a2, r2, rfl, h2⟩ := in_int1 h1
  obtain ⟨a3, r3, rfl, h3⟩ := in_int1 h2
  obtain ⟨a4, r4, rfl, h4⟩ := in_int1 h3
  obtain ⟨a5, r5, rfl, h5⟩ := in_int1 h4
  obtain ⟨a6, r6, rfl, h6⟩ := in_int1 h5
  obtain ⟨a7, r7, rfl, h7⟩ := in_int1 h6
  obtain ⟨a8, r8, rfl, h8⟩ := in_int1 h7
  obtain ⟨a9, r9, rfl, h9⟩ := in_int1 h8
  cases h9
  exact ⟨(a0, a1), (a2, a3), a4, a5, a6, a7, a8, a9, rfl⟩
end Go.Proofs.Ytfaiogajaaclcaa
