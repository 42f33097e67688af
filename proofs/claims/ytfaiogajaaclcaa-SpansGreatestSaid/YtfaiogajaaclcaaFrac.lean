/- Plain laws of fractions, and that the reference's value of a table is the program's. -/
import Derived.Test.YtfaiogajaaclcaaRval
namespace Go.Proofs.Ytfaiogajaaclcaa

theorem floor_cross {n d m f : Int} (hd : 1 ≤ d) (hf : 1 ≤ f) (h : n * f = m * d) : n / d = m / f := by
  have h1 : n * f / (d * f) = n / d := Int.mul_ediv_mul_of_pos_left n d (by omega)
  have h2 : m * d / (f * d) = m / f := Int.mul_ediv_mul_of_pos_left m f (by omega)
  rw [← h1, ← h2, h, Int.mul_comm f d]
theorem ceil_cross {n d m f : Int} (hd : 1 ≤ d) (hf : 1 ≤ f) (h : n * f = m * d) : -(-n / d) = -(-m / f) := by
  rw [floor_cross (n := -n) (m := -m) hd hf (by rw [Int.neg_mul, Int.neg_mul, h])]
theorem cmpV_sign {n d m f : Int} (hd : 1 ≤ d) (hf : 1 ≤ f) : (cmpV n d m f < 0 ↔ n * f < m * d) ∧ (0 < cmpV n d m f ↔ m * d < n * f) := by
  have r1 := rem_bd n d hd
  have r2 := rem_bd m f hf
  have hC : cmpV n d m f = if n / d - m / f = 0 then (if (n - n / d * d) * f - (m - m / f * f) * d = 0 then 0 else (n - n / d * d) * f - (m - m / f * f) * d) else n / d - m / f := rfl
  rw [hC]
  clear hC
  generalize n / d = a at *
  generalize m / f = b at *
  have hdf : 1 ≤ d * f := by
    have := Int.mul_le_mul hd hf (by omega) (by omega : (0 : Int) ≤ d)
    omega
  have e1 : n * f - m * d = (a - b) * (d * f) + ((n - a * d) * f - (m - b * f) * d) := by grind
  have p1 : (n - a * d) * f ≤ (d - 1) * f := Int.mul_le_mul_of_nonneg_right (by omega) (by omega)
  have p2 : 0 ≤ (n - a * d) * f := Int.mul_nonneg (by omega) (by omega)
  have p3 : (m - b * f) * d ≤ (f - 1) * d := Int.mul_le_mul_of_nonneg_right (by omega) (by omega)
  have p4 : 0 ≤ (m - b * f) * d := Int.mul_nonneg (by omega) (by omega)
  have p5 : (d - 1) * f = d * f - f := by rw [Int.sub_mul]; omega
  have p6 : (f - 1) * d = d * f - d := by rw [Int.sub_mul, Int.mul_comm f d]; omega
  by_cases h0 : a - b = 0
  · rw [if_pos h0]
    rw [h0, Int.zero_mul] at e1
    split <;> constructor <;> omega
  · rw [if_neg h0]
    rcases Int.lt_or_gt_of_ne h0 with hlt | hgt
    · have p7 : (a - b) * (d * f) ≤ (-1) * (d * f) := Int.mul_le_mul_of_nonneg_right (by omega) (by omega)
      constructor <;> omega
    · have p7 : 1 * (d * f) ≤ (a - b) * (d * f) := Int.mul_le_mul_of_nonneg_right (by omega) (by omega)
      constructor <;> omega
theorem Axis.cell_part {l : List Int} (h : Axis l) {x : Int} : partI l x = cellI l x ∨ (partI l x = cellI l x + 1 ∧ x = l[cellI l x + 1]?.getD 0) := by
  obtain ⟨h1, h2, h3⟩ := h.cellI_at x
  generalize cellI l x = i at *
  by_cases hi : i + 2 < l.length
  · by_cases hx : x = l[i + 1]?.getD 0
    · refine .inr ⟨h.partI_eq ⟨by omega, fun _ => by omega, fun hlt => ?_⟩, hx⟩
      have := h.gap (i + 1) (by omega)
      omega
    · exact .inl (h.partI_eq ⟨h1, fun h0 => by have := h2 h0; omega, fun _ => by have := h3 hi; omega⟩)
  · exact .inl (h.partI_eq ⟨h1, fun h0 => by have := h2 h0; omega, fun hlt => by omega⟩)
theorem frac_eq {xs ys : List Int} {vs : List (List Int)} {x y : Int} (hT : Tbl xs ys vs) : atN xs ys vs x y * valD xs ys x y = valN xs ys vs x y * atD xs ys x y := by
  have hx := hT.ax.cell_part (x := x)
  have hy := hT.ay.cell_part (x := y)
  unfold atN atD valN valD numF denF
  simp only
  generalize cellI xs x = i at *
  generalize cellI ys y = k at *
  rcases hx with hx | ⟨hx, hx2⟩ <;> rcases hy with hy | ⟨hy, hy2⟩ <;> rw [hx, hy]
  · generalize xs[i]?.getD 0 = x0 at *
    generalize xs[i+1]?.getD 0 = x1 at *
    generalize ys[k]?.getD 0 = y0 at *
    generalize ys[k+1]?.getD 0 = y1 at *
    grind
  · generalize xs[i]?.getD 0 = x0 at *
    generalize xs[i+1]?.getD 0 = x1 at *
    generalize ys[k]?.getD 0 = y0 at *
    generalize ys[k+1]?.getD 0 = y1 at *
    generalize ys[k+1+1]?.getD 0 = y2 at *
    subst hy2
    grind
  · generalize xs[i]?.getD 0 = x0 at *
    generalize xs[i+1]?.getD 0 = x1 at *
    generalize xs[i+1+1]?.getD 0 = x2 at *
    generalize ys[k]?.getD 0 = y0 at *
    generalize ys[k+1]?.getD 0 = y1 at *
    subst hx2
    grind
  · generalize xs[i]?.getD 0 = x0 at *
    generalize xs[i+1]?.getD 0 = x1 at *
    generalize xs[i+1+1]?.getD 0 = x2 at *
    generalize ys[k]?.getD 0 = y0 at *
    generalize ys[k+1]?.getD 0 = y1 at *
    generalize ys[k+1+1]?.getD 0 = y2 at *
    subst hx2 hy2
    grind
theorem val_bd {xs ys : List Int} {vs : List (List Int)} {x y : Int} (hT : Tbl xs ys vs) (hx : OnAx xs x) (hy : OnAx ys y) :
    1 ≤ valD xs ys x y ∧ valD xs ys x y ≤ 100000000 ∧ -1000000000000000 ≤ valN xs ys vs x y ∧ valN xs ys vs x y ≤ 1000000000000000 := by
  have q1 := hT.ax.part_on hx
  have q2 := hT.ay.part_on hy
  unfold valD valN
  generalize partI xs x = i at *
  generalize partI ys y = k at *
  have lenv := hT.len
  have b00 := hT.val i k (by omega) (by omega)
  have b01 := hT.val i (k+1) (by omega) (by omega)
  have b10 := hT.val (i+1) k (by omega) (by omega)
  have b11 := hT.val (i+1) (k+1) (by omega) (by omega)
  simp only
  generalize xs[i]?.getD 0 = x0 at *
  generalize xs[i+1]?.getD 0 = x1 at *
  generalize ys[k]?.getD 0 = y0 at *
  generalize ys[k+1]?.getD 0 = y1 at *
  generalize (vs[i]?.getD [])[k]?.getD 0 = z00 at *
  generalize (vs[i]?.getD [])[k+1]?.getD 0 = z01 at *
  generalize (vs[i+1]?.getD [])[k]?.getD 0 = z10 at *
  generalize (vs[i+1]?.getD [])[k+1]?.getD 0 = z11 at *
  obtain ⟨hi, hx0, hx1, hgx, hgx'⟩ := q1
  obtain ⟨hk, hy0, hy1, hgy, hgy'⟩ := q2
  have p1 := mul_bd (a := x1 - x) (b := y1 - y) (A := 10000) (B := 10000) (by omega) (by omega) (by omega) (by omega)
  have p2 := mul_bd (a := x - x0) (b := y1 - y) (A := 10000) (B := 10000) (by omega) (by omega) (by omega) (by omega)
  have p3 := mul_bd (a := x1 - x) (b := y - y0) (A := 10000) (B := 10000) (by omega) (by omega) (by omega) (by omega)
  have p4 := mul_bd (a := x - x0) (b := y - y0) (A := 10000) (B := 10000) (by omega) (by omega) (by omega) (by omega)
  have p5 := mul_bd (a := x1 - x0) (b := y1 - y0) (A := 10000) (B := 10000) (by omega) (by omega) (by omega) (by omega)
  have p6 : 0 < (x1 - x0) * (y1 - y0) := Int.mul_pos (by omega) (by omega)
  have s1 := mul_bd2 (A := 100000000) (B := 1000000) p1.1 (by omega) b00.1 b00.2 (by omega)
  have s2 := mul_bd2 (A := 100000000) (B := 1000000) p2.1 (by omega) b10.1 b10.2 (by omega)
  have s3 := mul_bd2 (A := 100000000) (B := 1000000) p3.1 (by omega) b01.1 b01.2 (by omega)
  have s4 := mul_bd2 (A := 100000000) (B := 1000000) p4.1 (by omega) b11.1 b11.2 (by omega)
  unfold numF
  omega
end Go.Proofs.Ytfaiogajaaclcaa
