/- The iterator spans.corners and what it hands to a loop: all corners of a box on a table, in order. -/
import Derived.Test.YtfaiogajaaclcaaKeep
namespace Go.Proofs.Ytfaiogajaaclcaa
open Go.RowKit Go.Shelf
attribute [local go_sem] Oper.semAt_some

def encP (p : Pt) : Array Value := #[.agg #[.int .i64 p.x, .int .i64 p.y, .int .i64 p.n, .int .i64 p.d]]
def ptAt (xs ys : List Int) (vs : List (List Int)) (x y : Int) : Pt := mkPt x y (atN xs ys vs x y) (atD xs ys x y)
def rowPts (xs ys : List Int) (vs : List (List Int)) (sy : List Int) (x : Int) : List Pt := sy.map (ptAt xs ys vs x)
def allPts (xs ys : List Int) (vs : List (List Int)) (sx sy : List Int) : List Pt := sx.flatMap (rowPts xs ys vs sy)
/-- what has come when i rows and k points of the next one are over -/
def donePts (xs ys : List Int) (vs : List (List Int)) (sx sy : List Int) (i k : Nat) : List Pt := allPts xs ys vs (sx.take i) sy ++ (rowPts xs ys vs sy (sx[i]?.getD 0)).take k
theorem done_zero (xs ys : List Int) (vs : List (List Int)) (sx sy : List Int) : donePts xs ys vs sx sy 0 0 = [] := by simp [donePts, allPts]
theorem done_succ (xs ys : List Int) (vs : List (List Int)) (sx sy : List Int) (i k : Nat) (hk : k < sy.length) :
    donePts xs ys vs sx sy i (k + 1) = donePts xs ys vs sx sy i k ++ [ptAt xs ys vs (sx[i]?.getD 0) (sy[k]?.getD 0)] := by
  unfold donePts
  rw [List.take_succ_eq_append_getElem (by simpa [rowPts] using hk), ← List.append_assoc]
  simp [rowPts, hk]
theorem done_row (xs ys : List Int) (vs : List (List Int)) (sx sy : List Int) (i : Nat) (hi : i < sx.length) :
    donePts xs ys vs sx sy i sy.length = donePts xs ys vs sx sy (i + 1) 0 := by
  unfold donePts allPts
  have e : (rowPts xs ys vs sy (sx[i]?.getD 0)).take sy.length = rowPts xs ys vs sy (sx[i]?.getD 0) := List.take_of_length_le (by simp [rowPts])
  rw [e, List.take_succ_eq_append_getElem hi, List.flatMap_append]
  simp [hi]
theorem done_all (xs ys : List Int) (vs : List (List Int)) (sx sy : List Int) : donePts xs ys vs sx sy sx.length 0 = allPts xs ys vs sx sy := by simp [donePts]
theorem done_len (xs ys : List Int) (vs : List (List Int)) (sx sy : List Int) (i k : Nat) (hi : i < sx.length) (hk : k < sy.length) : (donePts xs ys vs sx sy i k).length < (allPts xs ys vs sx sy).length := by
  have h1 : donePts xs ys vs sx sy i k <+: allPts xs ys vs sx sy := by
    unfold donePts allPts
    conv => rhs; rw [← List.take_append_drop i sx, List.flatMap_append, List.drop_eq_getElem_cons hi, List.flatMap_cons]
    simp only [hi, List.getElem?_eq_getElem, Option.getD_some]
    exact (List.prefix_append_right_inj _).2 ((List.take_prefix _ _).trans (List.prefix_append _ _))
  have h2 := done_succ xs ys vs sx sy i k hk
  have h3 : donePts xs ys vs sx sy i (k + 1) <+: allPts xs ys vs sx sy := by
    unfold donePts allPts
    conv => rhs; rw [← List.take_append_drop i sx, List.flatMap_append, List.drop_eq_getElem_cons hi, List.flatMap_cons]
    simp only [hi, List.getElem?_eq_getElem, Option.getD_some]
    exact (List.prefix_append_right_inj _).2 ((List.take_prefix _ _).trans (List.prefix_append _ _))
  have := h3.length_le
  rw [h2] at this
  simp at this
  omega
theorem done_pre (xs ys : List Int) (vs : List (List Int)) (sx sy : List Int) (i k : Nat) (hi : i < sx.length) : donePts xs ys vs sx sy i k <+: allPts xs ys vs sx sy := by
  unfold donePts allPts
  conv => rhs; rw [← List.take_append_drop i sx, List.flatMap_append, List.drop_eq_getElem_cons hi, List.flatMap_cons]
  simp only [hi, List.getElem?_eq_getElem, Option.getD_some]
  exact (List.prefix_append_right_inj _).2 ((List.take_prefix _ _).trans (List.prefix_append _ _))
end Go.Proofs.Ytfaiogajaaclcaa
