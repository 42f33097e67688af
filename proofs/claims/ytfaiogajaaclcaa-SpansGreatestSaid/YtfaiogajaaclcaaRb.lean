/- The reference's bound: it is the program's. -/
import Derived.Test.YtfaiogajaaclcaaRcb
import Derived.Test.YtfaiogajaaclcaaCopy2
namespace Go.Proofs.Ytfaiogajaaclcaa
open Go.RowKit

theorem cmpV_self (p : Pt) : cmpV p.n p.d p.n p.d = 0 := by
  have h := cmpV_sign (n := p.n) (m := p.n) p.ok.1 p.ok.1
  omega
theorem extrE_dup (p : Pt) (ps : List Pt) : extrE (p :: p :: ps) = extrE (p :: ps) := by
  unfold extrE
  simp only [List.foldl_cons]
  congr 1
  show stepE (some (p, p)) p = some (p, p)
  rw [stepE_some, cmpV_self]
  simp
theorem pts_cons (xs ys : List Int) (vs : List (List Int)) (x y : Int × Int) : ∃ ps, pts xs ys vs x y = ptAt xs ys vs x.1 y.1 :: ps := by
  unfold pts allPts stopsL rowPts
  exact ⟨_, rfl⟩
theorem extrE_first (xs ys : List Int) (vs : List (List Int)) (x y : Int × Int) : extrE (ptAt xs ys vs x.1 y.1 :: pts xs ys vs x y) = extrE (pts xs ys vs x y) := by
  obtain ⟨ps, h⟩ := pts_cons xs ys vs x y
  rw [h, extrE_dup]
theorem ptAt_is {xs ys : List Int} {vs : List (List Int)} {x y : Int} (hT : Tbl xs ys vs) (hx : OnAx xs x) (hy : OnAx ys y) :
    (ptAt xs ys vs x y).n = atN xs ys vs x y ∧ (ptAt xs ys vs x y).d = atD xs ys x y ∧ (ptAt xs ys vs x y).x = x ∧ (ptAt xs ys vs x y).y = y := by
  unfold ptAt mkPt
  rw [dif_pos (at_bd hT hx hy)]
  exact ⟨rfl, rfl, rfl, rfl⟩
theorem ptAt_val {xs ys : List Int} {vs : List (List Int)} {x y : Int} (hT : Tbl xs ys vs) (hx : OnAx xs x) (hy : OnAx ys y) :
    valN xs ys vs x y / valD xs ys x y = (ptAt xs ys vs x y).n / (ptAt xs ys vs x y).d ∧ -(-valN xs ys vs x y / valD xs ys x y) = -(-(ptAt xs ys vs x y).n / (ptAt xs ys vs x y).d) := by
  obtain ⟨h1, h2, _, _⟩ := ptAt_is hT hx hy
  rw [h1, h2]
  have e := frac_eq (x := x) (y := y) hT
  have b1 := (at_bd hT hx hy).1
  have b2 := (val_bd hT hx hy).1
  exact ⟨(floor_cross b1 b2 e).symm, (ceil_cross b1 b2 e).symm⟩
theorem floor_mono {n d m f : Int} (hd : 1 ≤ d) (hf : 1 ≤ f) (h : n * f ≤ m * d) : n / d ≤ m / f := by
  have h1 : n * f / (d * f) = n / d := Int.mul_ediv_mul_of_pos_left n d (by omega)
  have h2 : m * d / (f * d) = m / f := Int.mul_ediv_mul_of_pos_left m f (by omega)
  rw [← h1, ← h2, Int.mul_comm f d]
  exact Int.ediv_le_ediv (Int.mul_pos (by omega) (by omega)) h
theorem step_low (l p : Pt) : mn (l.n / l.d) (p.n / p.d) = (if cmpV p.n p.d l.n l.d < 0 then p else l).n / (if cmpV p.n p.d l.n l.d < 0 then p else l).d := by
  have h := (cmpV_sign (n := p.n) (m := l.n) p.ok.1 l.ok.1).1
  rw [mn_eq]
  by_cases c : cmpV p.n p.d l.n l.d < 0
  · rw [if_pos c]
    have := floor_mono (n := p.n) (m := l.n) p.ok.1 l.ok.1 (by have := h.1 c; omega)
    omega
  · rw [if_neg c]
    have := floor_mono (n := l.n) (m := p.n) l.ok.1 p.ok.1 (by have := fun q => c (h.2 q); omega)
    omega
theorem step_top (m p : Pt) : mx (-(-m.n / m.d)) (-(-p.n / p.d)) = -(-(if 0 < cmpV p.n p.d m.n m.d then p else m).n / (if 0 < cmpV p.n p.d m.n m.d then p else m).d) := by
  have h := (cmpV_sign (n := p.n) (m := m.n) p.ok.1 m.ok.1).2
  rw [mx_eq]
  by_cases c : 0 < cmpV p.n p.d m.n m.d
  · rw [if_pos c]
    have := floor_mono (n := -p.n) (m := -m.n) p.ok.1 m.ok.1 (by have := h.1 c; rw [Int.neg_mul, Int.neg_mul]; omega)
    omega
  · rw [if_neg c]
    have := floor_mono (n := -m.n) (m := -p.n) m.ok.1 p.ok.1 (by have := fun q => c (h.2 q); rw [Int.neg_mul, Int.neg_mul]; omega)
    omega
end Go.Proofs.Ytfaiogajaaclcaa
