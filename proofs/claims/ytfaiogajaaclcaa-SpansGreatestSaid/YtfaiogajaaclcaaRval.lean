/- The contracts of the reference's part, Between and Value. -/
import Derived.Test.YtfaiogajaaclcaaTref
namespace Go.Proofs.Ytfaiogajaaclcaa
open Go.RowKit

set_option maxHeartbeats 400000 in
theorem between_any (A : Option Addr) (l : List Int) (c : Nat) (lo hi : Int) (w : World) (h1 : 1 ≤ l.length) (hl : l.length ≤ 1000000) (hA : Ints w A l) :
    Calls Try.prog 69 #[.slice A l.length c, .agg #[.int .i64 lo, .int .i64 hi]] w fun e w' => e = .returned (.bool (liesB l (lo, hi))) ∧ Below w.heap.size w w' := by
  obtain ⟨b, off, rfl, hbl, hc⟩ := hA (by omega)
  have c0 := hc 0 (by omega)
  have c1 := hc (l.length - 1) (by omega)
  simp only [Nat.add_zero] at c0
  have hR : liesB l (lo, hi) = (decide (l[0]?.getD 0 ≤ lo) && decide (hi ≤ l[l.length - 1]?.getD 0)) := rfl
  generalize l[0]?.getD 0 = a at *
  generalize l[l.length - 1]?.getD 0 = z at *
  have t1 : ((l.length : Int) - 1).toNat = l.length - 1 := by omega
  have t2 : (0 : Int) ≤ (l.length : Int) - 1 := by omega
  have t3 : (l.length : Int) - 1 < (l.length : Int) := by omega
  have t4 : (0 : Int) < (l.length : Int) := by omega
  have u1 : IntKind.i64.wrap ((l.length : Int) - 1) = (l.length : Int) - 1 := IntWalk.i64_in _ (by omega)
  have HR := Lib.hid hR
  have hB : ∀ (o : Obj) (n : Nat), Below w.heap.size w ((w.alloc o).drewN n) := fun o n => Below.drewN' ((Below.refl _ w).alloc (Nat.le_refl _) _) n
  have HB := Lib.hid hB
  clear hR hc hA hB
  by_cases g1 : a ≤ lo
  · have g1' : decide (a ≤ lo) = true := by simpa using g1
    by_cases g2 : hi ≤ z
    · have g2' : decide (hi ≤ z) = true := by simpa using g2
      go_enter Try.func69, Try.ntmps69
      go_wp2_with fail
      go_quiet (fail)
      go_wp2_with fail
      go_ret
      exact ⟨by rw [HR.out, g1', g2']; rfl, HB.out _ _⟩
    · have g2' : decide (hi ≤ z) = false := by simpa using g2
      go_enter Try.func69, Try.ntmps69
      go_wp2_with fail
      go_quiet (fail)
      go_wp2_with fail
      go_ret
      exact ⟨by rw [HR.out, g1', g2']; rfl, HB.out _ _⟩
  · have g1' : decide (a ≤ lo) = false := by simpa using g1
    go_enter Try.func69, Try.ntmps69
    go_wp2_with fail
    go_quiet (fail)
    go_wp2_with fail
    go_ret
    exact ⟨by rw [HR.out, g1']; rfl, HB.out _ _⟩

def PartAt (l : List Int) (x : Int) (i : Nat) : Prop := i + 2 ≤ l.length ∧ (0 < i → l[i]?.getD 0 ≤ x) ∧ (i + 2 < l.length → x < l[i+1]?.getD 0)
theorem Axis.part_unique {l : List Int} (h : Axis l) {x : Int} {i j : Nat} (hi : PartAt l x i) (hj : PartAt l x j) : i = j := by
  have key : ∀ {i j : Nat}, PartAt l x i → PartAt l x j → ¬ i < j := by
    intro i j hi hj hlt
    have h1 := hi.2.2 (by have := hj.1; omega)
    have h2 := hj.2.1 (by omega)
    have h3 := h.mono (i + 1) j (by omega) (by have := hj.1; omega)
    omega
  have h1 := key hi hj
  have h2 := key hj hi
  omega
instance (l : List Int) (x : Int) (i : Nat) : Decidable (PartAt l x i) := by unfold PartAt; exact inferInstance
def partI (l : List Int) (x : Int) : Nat := ((List.range l.length).find? (fun i => decide (PartAt l x i))).getD 0
theorem Axis.partI_eq {l : List Int} (h : Axis l) {x : Int} {i : Nat} (hi : PartAt l x i) : partI l x = i := by
  unfold partI
  cases e : (List.range l.length).find? (fun i => decide (PartAt l x i)) with
  | none =>
    have := List.find?_eq_none.1 e i (by have := hi.1; simp; omega)
    simp [hi] at this
  | some j =>
    have := List.find?_some e
    exact h.part_unique (by simpa using this) hi
theorem Axis.part_exists {l : List Int} (h : Axis l) (x : Int) : ∃ i, PartAt l x i := by
  have key : ∀ n i, i + n + 2 = l.length → (0 < i → l[i]?.getD 0 ≤ x) → ∃ j, PartAt l x j := by
    intro n
    induction n with
    | zero => intro i hi h0; exact ⟨i, by omega, h0, by omega⟩
    | succ n ih =>
      intro i hi h0
      by_cases hx : x < l[i+1]?.getD 0
      · exact ⟨i, by omega, h0, fun _ => hx⟩
      · exact ih (i + 1) (by omega) (fun _ => by omega)
  exact key (l.length - 2) 0 (by have := h.two; omega) (by omega)
theorem Axis.partI_at {l : List Int} (h : Axis l) (x : Int) : PartAt l x (partI l x) := by
  obtain ⟨i, hi⟩ := h.part_exists x
  rw [h.partI_eq hi]; exact hi
theorem Axis.part_on {l : List Int} (h : Axis l) {x : Int} (ho : OnAx l x) : partI l x + 1 < l.length ∧ l[partI l x]?.getD 0 ≤ x ∧ x ≤ l[partI l x + 1]?.getD 0 ∧ l[partI l x + 1]?.getD 0 - l[partI l x]?.getD 0 ≤ 10000 ∧ 1 ≤ l[partI l x + 1]?.getD 0 - l[partI l x]?.getD 0 := by
  obtain ⟨h1, h2, h3⟩ := h.partI_at x
  generalize partI l x = i at *
  have g := h.gap i (by omega)
  refine ⟨by omega, ?_, ?_, g.2, g.1⟩
  · by_cases h0 : 0 < i
    · have := h2 h0; omega
    · obtain rfl : i = 0 := by omega
      exact ho.1
  · by_cases h0 : i + 2 < l.length
    · have := h3 h0; omega
    · have : i + 1 = l.length - 1 := by omega
      rw [this]; exact ho.2
def PartPost (l : List Int) (x : Int) (w : World) (e : Ending) (w' : World) : Prop := ∃ i : Nat, PartAt l x i ∧ e = .returned (.int .i64 i) ∧ w' = w
set_option maxHeartbeats 400000 in
theorem part_any' (A : Option Addr) (l : List Int) (c : Nat) (x : Int) (w : World) (h2 : 2 ≤ l.length) (hl : l.length ≤ 1000000) (hA : Ints w A l) :
    Calls Try.prog 107 #[.slice A l.length c, .int .i64 x] w (PartPost l x w) := by
  obtain ⟨b, off, rfl, hbl, hc⟩ := hA (by omega)
  have HC := Lib.hid hc
  clear hc hA
  go_enter Try.func107, Try.ntmps107
  go_wp2
  go_loop [5] (fun i => ∃ k : Nat, k + 2 ≤ l.length ∧ i = .int .i64 k ∧ (0 < k → l[k]?.getD 0 ≤ x)) (fun i => l.length - (intOf i).toNat)
  case atStart => exact ⟨0, by omega, rfl, by omega⟩
  case round =>
    obtain ⟨k, hk, rfl, hp⟩ := hrel
    have HP := Lib.hid hp
    clear hp
    by_cases hlt : k + 2 < l.length
    · have h1 := HC.out (k + 1) (by omega)
      generalize hy : l[k + 1]?.getD 0 = y at h1
      have HY := Lib.hid hy
      clear hy
      by_cases hyx : y ≤ x
      · go_wp2_with fail
        go_round
        case rel => exact ⟨k + 1, by omega, by go_num, fun _ => by rw [HY.out]; exact hyx⟩
        case measure => simp [intOf]; omega
      · go_wp2_with fail
        go_ret
        exact ⟨k, ⟨hk, HP.out, fun _ => by rw [HY.out]; omega⟩, rfl, rfl⟩
    · have hge : ¬ ((k : Int) + 2 < (l.length : Int)) := by omega
      go_wp2_with fail
      go_ret
      exact ⟨k, ⟨hk, HP.out, fun h => by omega⟩, rfl, rfl⟩
theorem partI_any (A : Option Addr) (l : List Int) (c : Nat) (x : Int) (w : World) (h : Axis l) (_hlc : l.length ≤ c) (hA : Ints w A l) :
    Calls Try.prog 107 #[.slice A l.length c, .int .i64 x] w fun e w' => e = .returned (.int .i64 (partI l x)) ∧ w' = w :=
  (part_any' A l c x w h.two (by have := h.twelve; omega) hA).mono fun _ _ ⟨i, hi, he, hw⟩ => ⟨by rw [h.partI_eq hi]; exact he, hw⟩
def valN (xs ys : List Int) (vs : List (List Int)) (x y : Int) : Int :=
  let i := partI xs x; let k := partI ys y
  numF (xs[i+1]?.getD 0 - x) (x - xs[i]?.getD 0) (ys[k+1]?.getD 0 - y) (y - ys[k]?.getD 0)
    ((vs[i]?.getD [])[k]?.getD 0) ((vs[i+1]?.getD [])[k]?.getD 0) ((vs[i]?.getD [])[k+1]?.getD 0) ((vs[i+1]?.getD [])[k+1]?.getD 0)
def valD (xs ys : List Int) (x y : Int) : Int :=
  let i := partI xs x; let k := partI ys y
  (xs[i+1]?.getD 0 - xs[i]?.getD 0) * (ys[k+1]?.getD 0 - ys[k]?.getD 0)
set_option maxHeartbeats 2000000 in
set_option maxRecDepth 100000 in
theorem value_any (xs ys : List Int) (vs : List (List Int)) (X Y V : Option Addr) (cx cy cv : Nat) (x y : Int) (w : World)
   (hT : Tbl xs ys vs) (hR : TabR w X Y V cx cy cv xs ys vs) (hx : OnAx xs x) (hy : OnAx ys y) :
   Calls Try.prog 80 #[.agg #[.slice X xs.length cx, .slice Y ys.length cy, .slice V vs.length cv], .int .i64 x, .int .i64 y] w
     fun e w' => e = .returned (.tuple #[.int .i64 (valN xs ys vs x y), .int .i64 (valD xs ys x y)]) ∧ Below w.heap.size w w' := by
  have q1 := hT.ax.part_on hx
  have q2 := hT.ay.part_on hy
  have hq1 : ∀ W, Below w.heap.size w W → Calls Try.prog 107 #[.slice X xs.length cx, .int .i64 x] W fun e w' => e = .returned (.int .i64 (partI xs x)) ∧ w' = W :=
    fun W hb => partI_any X xs cx x W hT.ax hR.lx (hR.hX.below hb)
  have hq2 : ∀ W, Below w.heap.size w W → Calls Try.prog 107 #[.slice Y ys.length cy, .int .i64 y] W fun e w' => e = .returned (.int .i64 (partI ys y)) ∧ w' = W :=
    fun W hb => partI_any Y ys cy y W hT.ay hR.ly (hR.hY.below hb)
  have hN : valN xs ys vs x y = numF (xs[partI xs x + 1]?.getD 0 - x) (x - xs[partI xs x]?.getD 0) (ys[partI ys y + 1]?.getD 0 - y) (y - ys[partI ys y]?.getD 0)
    ((vs[partI xs x]?.getD [])[partI ys y]?.getD 0) ((vs[partI xs x + 1]?.getD [])[partI ys y]?.getD 0) ((vs[partI xs x]?.getD [])[partI ys y + 1]?.getD 0) ((vs[partI xs x + 1]?.getD [])[partI ys y + 1]?.getD 0) := rfl
  have hD : valD xs ys x y = (xs[partI xs x + 1]?.getD 0 - xs[partI xs x]?.getD 0) * (ys[partI ys y + 1]?.getD 0 - ys[partI ys y]?.getD 0) := rfl
  generalize partI xs x = i at *
  generalize partI ys y = k at *
  have t12x := hT.ax.twelve
  have t12y := hT.ay.twelve
  have lenv := hT.len
  have r0 := hT.row i (by omega)
  have r1 := hT.row (i+1) (by omega)
  have b00 := hT.val i k (by omega) (by omega)
  have b01 := hT.val i (k+1) (by omega) (by omega)
  have b10 := hT.val (i+1) k (by omega) (by omega)
  have b11 := hT.val (i+1) (k+1) (by omega) (by omega)
  obtain ⟨bx, ox, rfl, hbx, hcx⟩ := hR.hX (by omega)
  obtain ⟨bY, oy, rfl, hby, hcy⟩ := hR.hY (by omega)
  obtain ⟨bv, ov, rfl, hbv, hcv⟩ := hR.hV (by omega)
  obtain ⟨R0, c0, e0, hR0⟩ := hcv i (by omega)
  obtain ⟨R1, c1, e1, hR1⟩ := hcv (i+1) (by omega)
  obtain ⟨b0, o0, rfl, hb0, hc0⟩ := hR0 (by omega)
  obtain ⟨b1, o1, rfl, hb1, hc1⟩ := hR1 (by omega)
  have cx0 := hcx i (by omega)
  have cx1 := hcx (i+1) (by omega)
  have cy0 := hcy k (by omega)
  have cy1 := hcy (k+1) (by omega)
  have v00 := hc0 k (by omega)
  have v01 := hc0 (k+1) (by omega)
  have v10 := hc1 k (by omega)
  have v11 := hc1 (k+1) (by omega)
  rw [r0] at e0
  rw [r1] at e1
  generalize xs[i]?.getD 0 = x0 at *
  generalize xs[i+1]?.getD 0 = x1 at *
  generalize ys[k]?.getD 0 = y0 at *
  generalize ys[k+1]?.getD 0 = y1 at *
  generalize (vs[i]?.getD [])[k]?.getD 0 = z00 at *
  generalize (vs[i]?.getD [])[k+1]?.getD 0 = z01 at *
  generalize (vs[i+1]?.getD [])[k]?.getD 0 = z10 at *
  generalize (vs[i+1]?.getD [])[k+1]?.getD 0 = z11 at *
  obtain ⟨hi, hx0, hx1, hgx, _⟩ := q1
  obtain ⟨hk, hy0, hy1, hgy, _⟩ := q2
  have p1 := mul_bd (a := x1 - x) (b := y1 - y) (A := 10000) (B := 10000) (by omega) (by omega) (by omega) (by omega)
  have p2 := mul_bd (a := x - x0) (b := y1 - y) (A := 10000) (B := 10000) (by omega) (by omega) (by omega) (by omega)
  have p3 := mul_bd (a := x1 - x) (b := y - y0) (A := 10000) (B := 10000) (by omega) (by omega) (by omega) (by omega)
  have p4 := mul_bd (a := x - x0) (b := y - y0) (A := 10000) (B := 10000) (by omega) (by omega) (by omega) (by omega)
  have p5 := mul_bd (a := x1 - x0) (b := y1 - y0) (A := 10000) (B := 10000) (by omega) (by omega) (by omega) (by omega)
  have s1 := mul_bd2 (A := 100000000) (B := 1000000) p1.1 (by omega) b00.1 b00.2 (by omega)
  have s2 := mul_bd2 (A := 100000000) (B := 1000000) p2.1 (by omega) b10.1 b10.2 (by omega)
  have s3 := mul_bd2 (A := 100000000) (B := 1000000) p3.1 (by omega) b01.1 b01.2 (by omega)
  have s4 := mul_bd2 (A := 100000000) (B := 1000000) p4.1 (by omega) b11.1 b11.2 (by omega)
  have HN := Lib.hid hN
  have HD := Lib.hid hD
  have HQ1 := Lib.hid hq1
  have HQ2 := Lib.hid hq2
  have hlv : i + 1 < vs.length := by omega
  have hlv2 : vs.length ≤ 12 := by omega
  clear hN hD hq1 hq2 hcx hcy hcv hc0 hc1 hR0 hR1 hR hT hx hy lenv r0 r1 
  have hBd : ∀ (o1 : Obj) (n : Nat), Below w.heap.size w ((w.alloc o1).drewN n) := fun o1 n => Below.drewN' ((Below.refl _ w).alloc (Nat.le_refl _) _) n
  have HBd := Lib.hid hBd
  clear hBd
  go_enter Try.func80, Try.ntmps80
  go_wp2_with fail
  go_quiet ((go_at_call 107; first | (with_reducible exact Calls.quiet_of_same (HQ1.out _ (HBd.out _ _))) | (with_reducible exact Calls.quiet_of_same (HQ2.out _ (HBd.out _ _)))))
  go_wp2_with fail
  go_quiet (fail)
  go_wp2_with fail
  go_quiet (fail)
  go_wp2_with fail
  have t1 : ((i : Int) + 1).toNat = i + 1 := by omega
  have t2 : ((k : Int) + 1).toNat = k + 1 := by omega
  have t3 : (0 : Int) ≤ (i : Int) + 1 := by omega
  have t4 : (0 : Int) ≤ (k : Int) + 1 := by omega
  have t5 : (i : Int) < (vs.length : Int) := by omega
  have t6 : (i : Int) + 1 < (vs.length : Int) := by omega
  have t7 : (k : Int) < (ys.length : Int) := by omega
  have t8 : (k : Int) + 1 < (ys.length : Int) := by omega
  have u1 : IntKind.i64.wrap ((i : Int) + 1) = (i : Int) + 1 := IntWalk.i64_in _ (by omega)
  have u2 : IntKind.i64.wrap ((k : Int) + 1) = (k : Int) + 1 := IntWalk.i64_in _ (by omega)
  have u3 : IntKind.i64.wrap ((x1 - x) * (y1 - y)) = (x1 - x) * (y1 - y) := IntWalk.i64_in _ (by omega)
  have u4 : IntKind.i64.wrap ((x - x0) * (y1 - y)) = (x - x0) * (y1 - y) := IntWalk.i64_in _ (by omega)
  have u5 : IntKind.i64.wrap ((x1 - x) * (y - y0)) = (x1 - x) * (y - y0) := IntWalk.i64_in _ (by omega)
  have u6 : IntKind.i64.wrap ((x - x0) * (y - y0)) = (x - x0) * (y - y0) := IntWalk.i64_in _ (by omega)
  have u7 : IntKind.i64.wrap ((x1 - x) * (y1 - y) * z00) = (x1 - x) * (y1 - y) * z00 := IntWalk.i64_in _ (by omega)
  have u8 : IntKind.i64.wrap ((x - x0) * (y1 - y) * z10) = (x - x0) * (y1 - y) * z10 := IntWalk.i64_in _ (by omega)
  have u9 : IntKind.i64.wrap ((x1 - x) * (y - y0) * z01) = (x1 - x) * (y - y0) * z01 := IntWalk.i64_in _ (by omega)
  have u10 : IntKind.i64.wrap ((x - x0) * (y - y0) * z11) = (x - x0) * (y - y0) * z11 := IntWalk.i64_in _ (by omega)
  have u11 : IntKind.i64.wrap ((x1 - x) * (y1 - y) * z00 + (x - x0) * (y1 - y) * z10) = (x1 - x) * (y1 - y) * z00 + (x - x0) * (y1 - y) * z10 := IntWalk.i64_in _ (by omega)
  have u12 : IntKind.i64.wrap ((x1 - x) * (y1 - y) * z00 + (x - x0) * (y1 - y) * z10 + (x1 - x) * (y - y0) * z01) = (x1 - x) * (y1 - y) * z00 + (x - x0) * (y1 - y) * z10 + (x1 - x) * (y - y0) * z01 := IntWalk.i64_in _ (by omega)
  have u13 : IntKind.i64.wrap ((x1 - x) * (y1 - y) * z00 + (x - x0) * (y1 - y) * z10 + (x1 - x) * (y - y0) * z01 + (x - x0) * (y - y0) * z11) = (x1 - x) * (y1 - y) * z00 + (x - x0) * (y1 - y) * z10 + (x1 - x) * (y - y0) * z01 + (x - x0) * (y - y0) * z11 := IntWalk.i64_in _ (by omega)
  have u14 : IntKind.i64.wrap (x1 - x0) = x1 - x0 := IntWalk.i64_in _ (by omega)
  have u15 : IntKind.i64.wrap (y1 - y0) = y1 - y0 := IntWalk.i64_in _ (by omega)
  have u16 : IntKind.i64.wrap ((x1 - x0) * (y1 - y0)) = (x1 - x0) * (y1 - y0) := IntWalk.i64_in _ (by omega)
  have t9 : (i : Int) < (xs.length : Int) := by omega
  have t10 : (i : Int) + 1 < (xs.length : Int) := by omega
  go_quiet (fail)
  clear t1 t2 t3 t4 t5 t6 t7 t8 t9 t10 u1 u2 u3 u4 u5 u6 u7 u8 u9 u10 u11 u12 u13 u14 u15 u16
  go_wp2_with fail
  go_ret2
  refine ⟨?_, Below.drewN' (HBd.out _ _) _⟩
  rw [HN.out, HD.out]
  rfl
end Go.Proofs.Ytfaiogajaaclcaa
