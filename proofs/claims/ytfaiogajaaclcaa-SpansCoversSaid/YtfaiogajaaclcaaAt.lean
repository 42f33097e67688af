/- The contract of spans.at: the value of a valid table at a point on it, as a fraction; old memory stays. -/
import Derived.Test.YtfaiogajaaclcaaAxis
import Derived.StillTailTactics
namespace Go.Proofs.Ytfaiogajaaclcaa
open Go.RowKit

theorem wp_region_tail {P : Program} {id : Nat} {Q : Exit → Act → World → Prop} {a : Act} {w : World} {l : List Oper} (n : Nat) (hm : P.follows .mixedOrders = true) (hB : Region.lexTailB .any l.toArray n = true)
    (h : wpStill P l.toArray w.drew (fun a' => wpList P l.toArray Q (l.drop n) a' w.drew) (l.take n) a) : (Code.region id l.toArray true).wp P Q a w := wp_region_still_tail n hm hB h
def numF (a b c d z00 z10 z01 z11 : Int) : Int := a * c * z00 + b * c * z10 + a * d * z01 + b * d * z11
def denF (a b c d : Int) : Int := (a + b) * (c + d)
theorem mul_bd {a b A B : Int} (ha : 0 ≤ a) (ha' : a ≤ A) (hb : 0 ≤ b) (hb' : b ≤ B) : 0 ≤ a * b ∧ a * b ≤ A * B :=
  ⟨Int.mul_nonneg ha hb, Int.mul_le_mul ha' hb' hb (by omega)⟩
theorem mul_bd2 {a z A B : Int} (ha : 0 ≤ a) (ha' : a ≤ A) (hz : -B ≤ z) (hz' : z ≤ B) (hB : 0 ≤ B) : -(A * B) ≤ a * z ∧ a * z ≤ A * B := by
  have h1 : a * z ≤ a * B := Int.mul_le_mul_of_nonneg_left hz' ha
  have h2 : a * (-B) ≤ a * z := Int.mul_le_mul_of_nonneg_left hz ha
  have h3 : a * B ≤ A * B := Int.mul_le_mul_of_nonneg_right ha' hB
  rw [Int.mul_neg] at h2
  omega
/-- what a table in memory reads as -/
structure TabR (w : World) (X Y V : Option Addr) (cx cy cv : Nat) (xs ys : List Int) (vs : List (List Int)) : Prop where
  hX : Ints w X xs
  hY : Ints w Y ys
  hV : Mat w V vs
  lx : xs.length ≤ cx
  ly : ys.length ≤ cy
theorem TabR.below {w w' : World} {X Y V : Option Addr} {cx cy cv : Nat} {xs ys : List Int} {vs : List (List Int)} (h : TabR w X Y V cx cy cv xs ys vs) (hb : Below w.heap.size w w') : TabR w' X Y V cx cy cv xs ys vs :=
  ⟨h.hX.below hb, h.hY.below hb, h.hV.below hb, h.lx, h.ly⟩
structure Tbl (xs ys : List Int) (vs : List (List Int)) : Prop where
  ax : Axis xs
  ay : Axis ys
  len : vs.length = xs.length
  row : ∀ k, k < vs.length → (vs[k]?.getD []).length = ys.length
  val : ∀ k j, k < vs.length → j < ys.length → -1000000 ≤ (vs[k]?.getD [])[j]?.getD 0 ∧ (vs[k]?.getD [])[j]?.getD 0 ≤ 1000000
theorem tbl_of {xs ys : List Int} {vs : List (List Int)} (h : tabB xs ys vs = true) : Tbl xs ys vs := by
  unfold tabB at h
  simp only [Bool.and_eq_true, Bool.not_eq_true', bne_eq_false_iff_eq, List.any_eq_false] at h
  obtain ⟨⟨⟨h1, h2⟩, h3⟩, h4⟩ := h
  have hr : ∀ k, k < vs.length → rowBad ys.length (vs[k]?.getD []) = false := fun k hk => by
    have := h4 (vs[k]?.getD []) (by simp [hk])
    simpa using this
  refine ⟨axis_of h1, axis_of h2, by omega, fun k hk => ?_, fun k j hk hj => ?_⟩
  · have := hr k hk
    unfold rowBad at this
    simp only [Bool.or_eq_false_iff, bne_eq_false_iff_eq] at this
    omega
  · have := hr k hk
    unfold rowBad at this
    simp only [Bool.or_eq_false_iff, bne_eq_false_iff_eq, List.any_eq_false] at this
    have h5 := this.2 ((vs[k]?.getD [])[j]?.getD 0) (by
      have : j < (vs[k]?.getD []).length := by omega
      simp [this])
    simp only [Bool.not_eq_true', Bool.not_eq_false] at h5
    exact wB_iff.1 h5
def atN (xs ys : List Int) (vs : List (List Int)) (x y : Int) : Int :=
  let i := cellI xs x; let k := cellI ys y
  numF (xs[i+1]?.getD 0 - x) (x - xs[i]?.getD 0) (ys[k+1]?.getD 0 - y) (y - ys[k]?.getD 0)
    ((vs[i]?.getD [])[k]?.getD 0) ((vs[i+1]?.getD [])[k]?.getD 0) ((vs[i]?.getD [])[k+1]?.getD 0) ((vs[i+1]?.getD [])[k+1]?.getD 0)
def atD (xs ys : List Int) (x y : Int) : Int :=
  let i := cellI xs x; let k := cellI ys y
  denF (xs[i+1]?.getD 0 - x) (x - xs[i]?.getD 0) (ys[k+1]?.getD 0 - y) (y - ys[k]?.getD 0)
set_option maxHeartbeats 2000000 in
set_option maxRecDepth 100000 in
theorem at_any (xs ys : List Int) (vs : List (List Int)) (X Y V : Option Addr) (cx cy cv : Nat) (x y : Int) (w : World)
   (hT : Tbl xs ys vs) (hR : TabR w X Y V cx cy cv xs ys vs) (hx : OnAx xs x) (hy : OnAx ys y) :
   Calls Try.prog 83 #[.agg #[.slice X xs.length cx, .slice Y ys.length cy, .slice V vs.length cv], .int .i64 x, .int .i64 y] w
     fun e w' => e = .returned (.agg #[.int .i64 (atN xs ys vs x y), .int .i64 (atD xs ys x y)]) ∧ Below w.heap.size w w' := by
  have q1 := hT.ax.cell_on hx
  have q2 := hT.ay.cell_on hy
  have hq1 : ∀ W, Below w.heap.size w W → Calls Try.prog 108 #[.slice X xs.length cx, .int .i64 x] W fun e w' => e = .returned (.int .i64 (cellI xs x)) ∧ w' = W :=
    fun W hb => cellI_any X xs cx x W hT.ax hR.lx (hR.hX.below hb)
  have hq2 : ∀ W, Below w.heap.size w W → Calls Try.prog 108 #[.slice Y ys.length cy, .int .i64 y] W fun e w' => e = .returned (.int .i64 (cellI ys y)) ∧ w' = W :=
    fun W hb => cellI_any Y ys cy y W hT.ay hR.ly (hR.hY.below hb)
  have hN : atN xs ys vs x y = numF (xs[cellI xs x + 1]?.getD 0 - x) (x - xs[cellI xs x]?.getD 0) (ys[cellI ys y + 1]?.getD 0 - y) (y - ys[cellI ys y]?.getD 0)
    ((vs[cellI xs x]?.getD [])[cellI ys y]?.getD 0) ((vs[cellI xs x + 1]?.getD [])[cellI ys y]?.getD 0) ((vs[cellI xs x]?.getD [])[cellI ys y + 1]?.getD 0) ((vs[cellI xs x + 1]?.getD [])[cellI ys y + 1]?.getD 0) := rfl
  have hD : atD xs ys x y = denF (xs[cellI xs x + 1]?.getD 0 - x) (x - xs[cellI xs x]?.getD 0) (ys[cellI ys y + 1]?.getD 0 - y) (y - ys[cellI ys y]?.getD 0) := rfl
  generalize cellI xs x = i at *
  generalize cellI ys y = k at *
  have t12x := hT.ax.twelve
  have t12y := hT.ay.twelve
  have lenv := hT.len
  have r0 := hT.row i (by omega)
  have r1 := hT.row (i+1) (by omega)
  have b00 := hT.val i k (by omega) (by omega)
  have b01 := hT.val i (k+1) (by omega) (by omega)
  have b10 := hT.val (i+1) k (by omega) (by omega)
  have b11 := hT.val (i+1) (k+1) (by omega) (by omega)
  obtain ⟨bx, ox, rfl, hbx, hcx⟩ := hR.hX (by omega)
  obtain ⟨bY, oy, rfl, hby, hcy⟩ := hR.hY (by omega)
  obtain ⟨bv, ov, rfl, hbv, hcv⟩ := hR.hV (by omega)
  obtain ⟨R0, c0, e0, hR0⟩ := hcv i (by omega)
  obtain ⟨R1, c1, e1, hR1⟩ := hcv (i+1) (by omega)
  obtain ⟨b0, o0, rfl, hb0, hc0⟩ := hR0 (by omega)
  obtain ⟨b1, o1, rfl, hb1, hc1⟩ := hR1 (by omega)
  have cx0 := hcx i (by omega)
  have cx1 := hcx (i+1) (by omega)
  have cy0 := hcy k (by omega)
  have cy1 := hcy (k+1) (by omega)
  have v00 := hc0 k (by omega)
  have v01 := hc0 (k+1) (by omega)
  have v10 := hc1 k (by omega)
  have v11 := hc1 (k+1) (by omega)
  rw [r0] at e0
  rw [r1] at e1
  generalize xs[i]?.getD 0 = x0 at *
  generalize xs[i+1]?.getD 0 = x1 at *
  generalize ys[k]?.getD 0 = y0 at *
  generalize ys[k+1]?.getD 0 = y1 at *
  generalize (vs[i]?.getD [])[k]?.getD 0 = z00 at *
  generalize (vs[i]?.getD [])[k+1]?.getD 0 = z01 at *
  generalize (vs[i+1]?.getD [])[k]?.getD 0 = z10 at *
  generalize (vs[i+1]?.getD [])[k+1]?.getD 0 = z11 at *
  obtain ⟨hi, hx0, hx1, hgx, _⟩ := q1
  obtain ⟨hk, hy0, hy1, hgy, _⟩ := q2
  have p1 := mul_bd (a := x1 - x) (b := y1 - y) (A := 10000) (B := 10000) (by omega) (by omega) (by omega) (by omega)
  have p2 := mul_bd (a := x - x0) (b := y1 - y) (A := 10000) (B := 10000) (by omega) (by omega) (by omega) (by omega)
  have p3 := mul_bd (a := x1 - x) (b := y - y0) (A := 10000) (B := 10000) (by omega) (by omega) (by omega) (by omega)
  have p4 := mul_bd (a := x - x0) (b := y - y0) (A := 10000) (B := 10000) (by omega) (by omega) (by omega) (by omega)
  have p5 := mul_bd (a := x1 - x + (x - x0)) (b := y1 - y + (y - y0)) (A := 10000) (B := 10000) (by omega) (by omega) (by omega) (by omega)
  have s1 := mul_bd2 (A := 100000000) (B := 1000000) p1.1 (by omega) b00.1 b00.2 (by omega)
  have s2 := mul_bd2 (A := 100000000) (B := 1000000) p2.1 (by omega) b10.1 b10.2 (by omega)
  have s3 := mul_bd2 (A := 100000000) (B := 1000000) p3.1 (by omega) b01.1 b01.2 (by omega)
  have s4 := mul_bd2 (A := 100000000) (B := 1000000) p4.1 (by omega) b11.1 b11.2 (by omega)
  have HN := Lib.hid hN
  have HD := Lib.hid hD
  have HQ1 := Lib.hid hq1
  have HQ2 := Lib.hid hq2
  have hlv : i + 1 < vs.length := by omega
  have hlv2 : vs.length ≤ 12 := by omega
  clear hN hD hq1 hq2 hcx hcy hcv hc0 hc1 hR0 hR1 hR hT hx hy lenv r0 r1 
  have hBd : ∀ (o1 o2 : Obj) (n : Nat), Below w.heap.size w (((w.alloc o1).alloc o2).drewN n) := fun o1 o2 n => Below.drewN' (((Below.refl _ w).alloc (Nat.le_refl _) _).alloc (by simp) _) n
  have HBd := Lib.hid hBd
  clear hBd
  go_enter Try.func83, Try.ntmps83
  go_wp2_with fail
  go_quiet ((go_at_call 108; first | (with_reducible exact Calls.quiet_of_same (HQ1.out _ (HBd.out _ _ _))) | (with_reducible exact Calls.quiet_of_same (HQ2.out _ (HBd.out _ _ _)))))
  go_wp2_with fail
  go_quiet (fail)
  go_wp2_with fail
  go_quiet (fail)
  go_wp2_with fail
  have t1 : ((i : Int) + 1).toNat = i + 1 := by omega
  have t2 : ((k : Int) + 1).toNat = k + 1 := by omega
  have t3 : (0 : Int) ≤ (i : Int) + 1 := by omega
  have t4 : (0 : Int) ≤ (k : Int) + 1 := by omega
  have t5 : (i : Int) < (vs.length : Int) := by omega
  have t6 : (i : Int) + 1 < (vs.length : Int) := by omega
  have t7 : (k : Int) < (ys.length : Int) := by omega
  have t8 : (k : Int) + 1 < (ys.length : Int) := by omega
  have u1 : IntKind.i64.wrap ((i : Int) + 1) = (i : Int) + 1 := IntWalk.i64_in _ (by omega)
  have u2 : IntKind.i64.wrap ((k : Int) + 1) = (k : Int) + 1 := IntWalk.i64_in _ (by omega)
  have u3 : IntKind.i64.wrap ((x1 - x) * (y1 - y)) = (x1 - x) * (y1 - y) := IntWalk.i64_in _ (by omega)
  have u4 : IntKind.i64.wrap ((x - x0) * (y1 - y)) = (x - x0) * (y1 - y) := IntWalk.i64_in _ (by omega)
  have u5 : IntKind.i64.wrap ((x1 - x) * (y - y0)) = (x1 - x) * (y - y0) := IntWalk.i64_in _ (by omega)
  have u6 : IntKind.i64.wrap ((x - x0) * (y - y0)) = (x - x0) * (y - y0) := IntWalk.i64_in _ (by omega)
  have u7 : IntKind.i64.wrap ((x1 - x) * (y1 - y) * z00) = (x1 - x) * (y1 - y) * z00 := IntWalk.i64_in _ (by omega)
  have u8 : IntKind.i64.wrap ((x - x0) * (y1 - y) * z10) = (x - x0) * (y1 - y) * z10 := IntWalk.i64_in _ (by omega)
  have u9 : IntKind.i64.wrap ((x1 - x) * (y - y0) * z01) = (x1 - x) * (y - y0) * z01 := IntWalk.i64_in _ (by omega)
  have u10 : IntKind.i64.wrap ((x - x0) * (y - y0) * z11) = (x - x0) * (y - y0) * z11 := IntWalk.i64_in _ (by omega)
  have u11 : IntKind.i64.wrap ((x1 - x) * (y1 - y) * z00 + (x - x0) * (y1 - y) * z10) = (x1 - x) * (y1 - y) * z00 + (x - x0) * (y1 - y) * z10 := IntWalk.i64_in _ (by omega)
  have u12 : IntKind.i64.wrap ((x1 - x) * (y1 - y) * z00 + (x - x0) * (y1 - y) * z10 + (x1 - x) * (y - y0) * z01) = (x1 - x) * (y1 - y) * z00 + (x - x0) * (y1 - y) * z10 + (x1 - x) * (y - y0) * z01 := IntWalk.i64_in _ (by omega)
  have u13 : IntKind.i64.wrap ((x1 - x) * (y1 - y) * z00 + (x - x0) * (y1 - y) * z10 + (x1 - x) * (y - y0) * z01 + (x - x0) * (y - y0) * z11) = (x1 - x) * (y1 - y) * z00 + (x - x0) * (y1 - y) * z10 + (x1 - x) * (y - y0) * z01 + (x - x0) * (y - y0) * z11 := IntWalk.i64_in _ (by omega)
  have u14 : IntKind.i64.wrap (x1 - x + (x - x0)) = x1 - x + (x - x0) := IntWalk.i64_in _ (by omega)
  have u15 : IntKind.i64.wrap (y1 - y + (y - y0)) = y1 - y + (y - y0) := IntWalk.i64_in _ (by omega)
  have u16 : IntKind.i64.wrap ((x1 - x + (x - x0)) * (y1 - y + (y - y0))) = (x1 - x + (x - x0)) * (y1 - y + (y - y0)) := IntWalk.i64_in _ (by omega)
  refine wp_region_tail 59 (by kernel_rfl) (by kernel_rfl) ?_
  simp only [List.take_succ_cons, List.take_zero, List.drop_succ_cons, List.drop_zero]
  repeat still_step
  refine wpStill_nil ?_
  clear t1 t2 t3 t4 t5 t6 t7 t8 u1 u2 u3 u4 u5 u6 u7 u8 u9 u10 u11 u12 u13 u14 u15 u16
  go_wp2_with fail
  refine bodyPost_ret (v := .agg #[.int .i64 (numF (x1 - x) (x - x0) (y1 - y) (y - y0) z00 z10 z01 z11), .int .i64 (denF (x1 - x) (x - x0) (y1 - y) (y - y0))]) (by simp [results, Try.results83, go_sem, numF, denF]) rfl ⟨?_, ?_⟩
  · rw [HN.out, HD.out]
  · repeat (first | exact HBd.out _ _ _ | refine Below.setCell ?_ (by simp) _ | refine Below.drew ?_)
end Go.Proofs.Ytfaiogajaaclcaa
