/- Lists of numbers, rows and spans as abstract values. No conditions. -/
import Derived.Test.YtfaiogajaaclcaaLift
namespace Go.Proofs.Ytfaiogajaaclcaa
open Go.RowKit Lift

def dI (n : Int) : D := .val (.int .i64 n)
def dB (b : Bool) : D := .val (.bool b)
def ints (l : List Int) : List (List D) := l.map fun n => [.val (.int .i64 n)]
def rows (l : List (List Int)) : List (List D) := l.map fun r => [.list (ints r)]
def tabD (xs ys : List Int) (vs : List (List Int)) : D := .agg [.list (ints xs), .list (ints ys), .list (rows vs)]
def spD (x : Int × Int) : D := .agg [.val (.int .i64 x.1), .val (.int .i64 x.2)]
theorem ints_len (l : List Int) : (ints l).length = l.length := by simp [ints]
theorem rows_len (l : List (List Int)) : (rows l).length = l.length := by simp [rows]
theorem ints_get (l : List Int) (k : Nat) (h : k < (ints l).length) : (ints l)[k] = [.val (.int .i64 (l[k]?.getD 0))] := by
  have h' : k < l.length := by simpa [ints] using h
  simp [ints, h']
theorem rows_get (l : List (List Int)) (k : Nat) (h : k < (rows l).length) : (rows l)[k] = [.list (ints (l[k]?.getD []))] := by
  have h' : k < l.length := by simpa [rows] using h
  simp [rows, h']
theorem ints_all (l : List Int) : (ints l).all (fun x => x.length == 1) = true := by simp [ints]
theorem rows_all (l : List (List Int)) : (rows l).all (fun x => x.length == 1) = true := by simp [rows]
def icells (l : List Int) : List D := l.map fun n => .val (.int .i64 n)
def rcells (l : List (List Int)) : List D := l.map fun r => .list (ints r)
theorem ints_flat (l : List Int) : (ints l).flatten = icells l := by
  induction l with
  | nil => rfl
  | cons x l ih => simp [ints, icells] at ih ⊢; exact ih
theorem rows_flat (l : List (List Int)) : (rows l).flatten = rcells l := by
  induction l with
  | nil => rfl
  | cons x l ih => simp [rows, rcells] at ih ⊢; exact ih
theorem icells_leaf (l : List Int) : (icells l).all D.leaf = true := by simp [icells, D.leaf]
theorem rcells_leaf (l : List (List Int)) : (rcells l).all D.leaf = true := by simp [rcells, D.leaf]
theorem icells_in (l : List Int) : ∀ d ∈ icells l, In (fun _ => False) d := by
  intro d hd; obtain ⟨x, _, rfl⟩ := List.mem_map.1 hd; exact .val _
theorem rcells_in (l : List (List Int)) : ∀ d ∈ rcells l, In (fun _ => False) d := by
  intro d hd; obtain ⟨x, _, rfl⟩ := List.mem_map.1 hd; exact .list _
theorem icells_len (l : List Int) : (icells l).length = l.length := by simp [icells]
theorem rcells_len (l : List (List Int)) : (rcells l).length = l.length := by simp [rcells]
theorem ints_one (l : List Int) : ∀ e ∈ ints l, e.length = 1 := by simp [ints]
theorem rows_one (l : List (List Int)) : ∀ e ∈ rows l, e.length = 1 := by simp [rows]
theorem ints_nth (l : List Int) (k : Nat) (h : k < l.length) : (ints l)[k]? = some [.val (.int .i64 l[k])] := by simp [ints, h]
theorem rows_nth (l : List (List Int)) (k : Nat) (h : k < l.length) : (rows l)[k]? = some [.list (ints l[k])] := by simp [rows, h]
theorem ints_gd (l : List Int) (k : Nat) (h : k < l.length) : (ints l)[k]? = some [.val (.int .i64 (l[k]?.getD 0))] := by simp [ints, h]
theorem rows_gd (l : List (List Int)) (k : Nat) (h : k < l.length) : (rows l)[k]? = some [.list (ints (l[k]?.getD []))] := by simp [rows, h]
end Go.Proofs.Ytfaiogajaaclcaa
