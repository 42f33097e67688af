/- The law SpansValues: it returns true; old memory stays. -/
import Derived.Test.YtfaiogajaaclcaaSame
import Derived.Test.YtfaiogajaaclcaaAtFn
import Derived.Test.YtfaiogajaaclcaaChecks
namespace Go.Proofs.Ytfaiogajaaclcaa
open Go.RowKit

theorem Axis.knot_cell {l : List Int} (h : Axis l) {i : Nat} (hi : i < l.length) : OnAx l (l[i]?.getD 0) ∧ (i = cellI l (l[i]?.getD 0) ∨ i = cellI l (l[i]?.getD 0) + 1) := by
  have ho : OnAx l (l[i]?.getD 0) := ⟨h.mono 0 i (by omega) hi, h.mono i (l.length - 1) (by omega) (by omega)⟩
  refine ⟨ho, ?_⟩
  obtain ⟨h1, h2, h3, _, _⟩ := h.cell_on ho
  generalize cellI l (l[i]?.getD 0) = j at *
  rcases Nat.lt_or_ge i j with a | a
  · have := h.mono i (j - 1) (by omega) (by omega)
    have g := h.gap (j - 1) (by omega)
    rw [show j - 1 + 1 = j by omega] at g
    omega
  · rcases Nat.lt_or_ge (j + 1) i with b | b
    · have := h.mono (j + 2) i (by omega) (by omega)
      have g := h.gap (j + 1) (by omega)
      rw [show j + 1 + 1 = j + 2 by omega] at g
      omega
    · omega
theorem at_knot {xs ys : List Int} {vs : List (List Int)} (hT : Tbl xs ys vs) {i k : Nat} (hi : i < xs.length) (hk : k < ys.length) :
    atN xs ys vs (xs[i]?.getD 0) (ys[k]?.getD 0) = (vs[i]?.getD [])[k]?.getD 0 * atD xs ys (xs[i]?.getD 0) (ys[k]?.getD 0) := by
  obtain ⟨_, h1⟩ := hT.ax.knot_cell hi
  obtain ⟨_, h2⟩ := hT.ay.knot_cell hk
  unfold atN atD numF denF
  simp only
  generalize cellI xs (xs[i]?.getD 0) = a at *
  generalize cellI ys (ys[k]?.getD 0) = b at *
  rcases h1 with rfl | rfl <;> rcases h2 with rfl | rfl <;> grind
theorem atR_knot {xs ys : List Int} {vs : List (List Int)} (ht : tabB xs ys vs = true) {i k : Nat} (hi : i < xs.length) (hk : k < ys.length) :
    atR xs ys vs (xs[i]?.getD 0) (ys[k]?.getD 0) = (((vs[i]?.getD [])[k]?.getD 0, (vs[i]?.getD [])[k]?.getD 0), 0) := by
  have hT := tbl_of ht
  obtain ⟨o1, _⟩ := hT.ax.knot_cell hi
  obtain ⟨o2, _⟩ := hT.ay.knot_cell hk
  have b := (at_bd hT o1 o2).1
  have l1 : liesB xs (xs[i]?.getD 0, xs[i]?.getD 0) = true := by unfold liesB; simp only [Bool.and_eq_true, decide_eq_true_eq]; exact o1
  have l2 : liesB ys (ys[k]?.getD 0, ys[k]?.getD 0) = true := by unfold liesB; simp only [Bool.and_eq_true, decide_eq_true_eq]; exact o2
  unfold atR
  rw [if_pos ht, l1, l2, at_knot hT hi hk]
  generalize atD xs ys (xs[i]?.getD 0) (ys[k]?.getD 0) = d at *
  generalize (vs[i]?.getD [])[k]?.getD 0 = v at *
  rw [Int.mul_ediv_cancel _ (by omega), ← Int.neg_mul, Int.mul_ediv_cancel _ (by omega)]
  simp
set_option maxRecDepth 100000 in
set_option maxHeartbeats 4000000 in
theorem values_any (xs ys : List Int) (vs : List (List Int)) (X Y V : Option Addr) (cx cy cv : Nat) (x y k0 k1 : Int) (w : World)
   (hS : TSm xs ys vs) (hR : TabR w X Y V cx cy cv xs ys vs) (hN : TabN w X Y V cx cy cv xs ys vs) :
   Calls Try.prog 6 #[.agg #[.slice X xs.length cx, .slice Y ys.length cy, .slice V vs.length cv], .agg #[.int .i64 x, .int .i64 y], .agg #[.int .i64 k0, .int .i64 k1]] w fun e w' => e = .returned (.bool true) ∧ Below w.heap.size w w' := by
  obtain ⟨W0, hW0⟩ : ∃ W0, (((w.alloc (.cells #[.slice X xs.length cx, .slice Y ys.length cy, .slice V vs.length cv] 25)).alloc (.cells #[.int .i64 x, .int .i64 y] 50)).alloc (.cells #[.int .i64 k0, .int .i64 k1] 28)) = W0 := ⟨_, rfl⟩
  have HB : Hid (Below w.heap.size w W0) := by
    unfold Hid; rw [← hW0]
    repeat (first | exact Below.refl _ _ | refine Below.alloc ?_ (by simp <;> omega) _)
  have ha : W0.heap[w.heap.size]? = some (.cells #[.slice X xs.length cx, .slice Y ys.length cy, .slice V vs.length cv] 25) := by
    rw [← hW0]; simp only [heap_alloc_at, World.size_alloc]; repeat (first | rw [if_pos trivial] | rw [if_neg (by omega)])
  have hb : W0.heap[w.heap.size + 1]? = some (.cells #[.int .i64 x, .int .i64 y] 50) := by
    rw [← hW0]; simp only [heap_alloc_at, World.size_alloc]; repeat (first | rw [if_pos trivial] | rw [if_neg (by omega)])
  have hc : W0.heap[w.heap.size + 1 + 1]? = some (.cells #[.int .i64 k0, .int .i64 k1] 28) := by
    rw [← hW0]; simp only [heap_alloc_at, World.size_alloc]; repeat (first | rw [if_pos trivial] | rw [if_neg (by omega)])
  obtain ⟨⟨c0, c1, c2⟩, _⟩ := cells3 ha
  obtain ⟨⟨p0, p1⟩, _⟩ := cells2 hb
  obtain ⟨⟨q0, q1⟩, _⟩ := cells2 hc
  have z0 := blk_lt ha
  have z1 := blk_lt hb
  have z2 := blk_lt hc
  have HR := Lib.hid (hR.below HB.out)
  have HN := Lib.hid (hN.below HB.out)
  have HS := Lib.hid hS
  have HW0 := Lib.hid hW0
  clear hW0 ha hb hc hS hR hN
  go_enter Try.func6, Try.ntmps6
  go_wp2_with fail
  rw [HW0.out]
  refine (far_any xs ys vs X Y V cx cy cv _ HS.out HR.out).mono ?_
  rintro e w1 ⟨rfl, hb1⟩
  replace c0 := cell_b hb1 c0
  replace c1 := cell_b hb1 c1
  replace c2 := cell_b hb1 c2
  replace p0 := cell_b hb1 p0
  replace p1 := cell_b hb1 p1
  replace q0 := cell_b hb1 q0
  replace q1 := cell_b hb1 q1
  replace z0 := Nat.lt_of_lt_of_le z0 hb1.size
  replace z1 := Nat.lt_of_lt_of_le z1 hb1.size
  replace z2 := Nat.lt_of_lt_of_le z2 hb1.size
  replace HR := Lib.hid (HR.out.below hb1)
  replace HN := Lib.hid (HN.out.below hb1)
  replace HB := Lib.hid (HB.out.trans (hb1.mono HB.out.size))
  clear hb1
  by_cases hf : farB xs ys vs = true
  · rw [hf]
    clear hf
    go_wp2_with fail
    refine (works_any _).mono ?_
    rintro e w99 ⟨rfl, hb99⟩
    replace HB := Lib.hid (HB.out.trans (hb99.mono HB.out.size))
    clear hb99
    go_wp2_with fail
    go_ret
    exact ⟨rfl, HB.out⟩
  · have hf' : farB xs ys vs = false := by simpa using hf
    rw [hf']
    obtain ⟨⟨s1, s2, s3⟩, s4⟩ := farB_not hf'
    have HTS := Lib.hid (tsz_of hf')
    have HS4 : Hid (∀ r ∈ vs, r.length ≤ 1000000) := fun r hr => by have := s4 r hr; omega
    clear hf hf' s4
    go_wp2_with fail
    refine (copy_any xs ys vs X Y V cx cy cv _ (by omega) (by omega) (by omega) HS4.out HR.out HN.out).mono ?_
    rintro e w2 ⟨X', Y', V', cx', cy', cv', rfl, hR5, hb2⟩
    have HG := Lib.hid hR5
    clear hR5
    replace c0 := cell_b hb2 c0
    replace c1 := cell_b hb2 c1
    replace c2 := cell_b hb2 c2
    replace p0 := cell_b hb2 p0
    replace p1 := cell_b hb2 p1
    replace q0 := cell_b hb2 q0
    replace q1 := cell_b hb2 q1
    replace z0 := Nat.lt_of_lt_of_le z0 hb2.size
    replace z1 := Nat.lt_of_lt_of_le z1 hb2.size
    replace z2 := Nat.lt_of_lt_of_le z2 hb2.size
    replace HR := Lib.hid (HR.out.below hb2)
    replace HN := Lib.hid (HN.out.below hb2)
    replace HB := Lib.hid (HB.out.trans (hb2.mono HB.out.size))
    clear hb2
    go_wp2_with fail
    obtain ⟨W2, hW2⟩ : ∃ W2, w2.alloc (.cells #[.slice X' xs.length cx', .slice Y' ys.length cy', .slice V' vs.length cv'] 25) = W2 := ⟨_, rfl⟩
    have hbx : Below w2.heap.size w2 W2 := by rw [← hW2]; exact (Below.refl _ _).alloc (Nat.le_refl _) _
    have hnb : W2.heap[w2.heap.size]? = some (.cells #[.slice X' xs.length cx', .slice Y' ys.length cy', .slice V' vs.length cv'] 25) := by rw [← hW2]; exact blk_new _ _
    obtain ⟨⟨g0, g1, g2⟩, _⟩ := cells3 hnb
    have zg := blk_lt hnb
    replace c0 := cell_b hbx c0
    replace c1 := cell_b hbx c1
    replace c2 := cell_b hbx c2
    replace p0 := cell_b hbx p0
    replace p1 := cell_b hbx p1
    replace q0 := cell_b hbx q0
    replace q1 := cell_b hbx q1
    replace z0 := Nat.lt_of_lt_of_le z0 hbx.size
    replace z1 := Nat.lt_of_lt_of_le z1 hbx.size
    replace z2 := Nat.lt_of_lt_of_le z2 hbx.size
    replace HR := Lib.hid (HR.out.below hbx)
    replace HN := Lib.hid (HN.out.below hbx)
    replace HG := Lib.hid (HG.out.below hbx)
    replace HB := Lib.hid (HB.out.trans (hbx.mono HB.out.size))
    clear hbx
    clear hnb
    have HW2 := Lib.hid hW2
    clear hW2
    rw [HW2.out]
    refine (atFn_any xs ys vs X' Y' V' cx' cy' cv' x y _ HTS.out HS.out HG.out).mono ?_
    rintro e w3 ⟨rfl, hb3⟩
    replace c0 := cell_b hb3 c0
    replace c1 := cell_b hb3 c1
    replace c2 := cell_b hb3 c2
    replace p0 := cell_b hb3 p0
    replace p1 := cell_b hb3 p1
    replace q0 := cell_b hb3 q0
    replace q1 := cell_b hb3 q1
    replace g0 := cell_b hb3 g0
    replace g1 := cell_b hb3 g1
    replace g2 := cell_b hb3 g2
    replace z0 := Nat.lt_of_lt_of_le z0 hb3.size
    replace z1 := Nat.lt_of_lt_of_le z1 hb3.size
    replace z2 := Nat.lt_of_lt_of_le z2 hb3.size
    replace zg := Nat.lt_of_lt_of_le zg hb3.size
    replace HR := Lib.hid (HR.out.below hb3)
    replace HN := Lib.hid (HN.out.below hb3)
    replace HG := Lib.hid (HG.out.below hb3)
    replace HB := Lib.hid (HB.out.trans (hb3.mono HB.out.size))
    clear hb3
    have HAT := Lib.hid (rfl : atR xs ys vs x y = atR xs ys vs x y)
    generalize hr : atR xs ys vs x y = R
    obtain ⟨⟨s, t⟩, er⟩ := R
    have HE := Lib.hid hr
    clear hr HAT
    simp only
    go_wp2_with fail
    obtain ⟨W3, hW3⟩ : ∃ W3, w3.alloc (.cells #[.int .i64 s, .int .i64 t] 27) = W3 := ⟨_, rfl⟩
    have hbx : Below w3.heap.size w3 W3 := by rw [← hW3]; exact (Below.refl _ _).alloc (Nat.le_refl _) _
    have hnb : W3.heap[w3.heap.size]? = some (.cells #[.int .i64 s, .int .i64 t] 27) := by rw [← hW3]; exact blk_new _ _
    obtain ⟨⟨a0, a1⟩, _⟩ := cells2 hnb
    have za := blk_lt hnb
    replace c0 := cell_b hbx c0
    replace c1 := cell_b hbx c1
    replace c2 := cell_b hbx c2
    replace p0 := cell_b hbx p0
    replace p1 := cell_b hbx p1
    replace q0 := cell_b hbx q0
    replace q1 := cell_b hbx q1
    replace g0 := cell_b hbx g0
    replace g1 := cell_b hbx g1
    replace g2 := cell_b hbx g2
    replace z0 := Nat.lt_of_lt_of_le z0 hbx.size
    replace z1 := Nat.lt_of_lt_of_le z1 hbx.size
    replace z2 := Nat.lt_of_lt_of_le z2 hbx.size
    replace zg := Nat.lt_of_lt_of_le zg hbx.size
    replace HR := Lib.hid (HR.out.below hbx)
    replace HN := Lib.hid (HN.out.below hbx)
    replace HG := Lib.hid (HG.out.below hbx)
    replace HB := Lib.hid (HB.out.trans (hbx.mono HB.out.size))
    clear hbx
    clear hnb
    have HW3 := Lib.hid hW3
    clear hW3
    rw [HW3.out]
    refine (ratFn_any xs ys vs X Y V cx cy cv x y _ HTS.out HS.out HR.out).mono ?_
    rw [HE.out]
    rintro e w4 ⟨rfl, hb4⟩
    replace c0 := cell_b hb4 c0
    replace c1 := cell_b hb4 c1
    replace c2 := cell_b hb4 c2
    replace p0 := cell_b hb4 p0
    replace p1 := cell_b hb4 p1
    replace q0 := cell_b hb4 q0
    replace q1 := cell_b hb4 q1
    replace g0 := cell_b hb4 g0
    replace g1 := cell_b hb4 g1
    replace g2 := cell_b hb4 g2
    replace a0 := cell_b hb4 a0
    replace a1 := cell_b hb4 a1
    replace z0 := Nat.lt_of_lt_of_le z0 hb4.size
    replace z1 := Nat.lt_of_lt_of_le z1 hb4.size
    replace z2 := Nat.lt_of_lt_of_le z2 hb4.size
    replace zg := Nat.lt_of_lt_of_le zg hb4.size
    replace za := Nat.lt_of_lt_of_le za hb4.size
    replace HR := Lib.hid (HR.out.below hb4)
    replace HN := Lib.hid (HN.out.below hb4)
    replace HG := Lib.hid (HG.out.below hb4)
    replace HB := Lib.hid (HB.out.trans (hb4.mono HB.out.size))
    clear hb4
    have n1 : (s != s) = false := by simp
    have n2 : (t != t) = false := by simp
    have n3 : (er != er) = false := by simp
    have n4 : (s == s) = true := by simp
    have n5 : (t == t) = true := by simp
    have n6 : (er == er) = true := by simp
    go_wp2_with fail
    obtain ⟨W4, hW4⟩ : ∃ W4, w4.alloc (.cells #[.int .i64 s, .int .i64 t] 27) = W4 := ⟨_, rfl⟩
    have hbx : Below w4.heap.size w4 W4 := by rw [← hW4]; exact (Below.refl _ _).alloc (Nat.le_refl _) _
    have hnb : W4.heap[w4.heap.size]? = some (.cells #[.int .i64 s, .int .i64 t] 27) := by rw [← hW4]; exact blk_new _ _
    obtain ⟨⟨b0, b1⟩, _⟩ := cells2 hnb
    have zb := blk_lt hnb
    replace c0 := cell_b hbx c0
    replace c1 := cell_b hbx c1
    replace c2 := cell_b hbx c2
    replace p0 := cell_b hbx p0
    replace p1 := cell_b hbx p1
    replace q0 := cell_b hbx q0
    replace q1 := cell_b hbx q1
    replace g0 := cell_b hbx g0
    replace g1 := cell_b hbx g1
    replace g2 := cell_b hbx g2
    replace a0 := cell_b hbx a0
    replace a1 := cell_b hbx a1
    replace z0 := Nat.lt_of_lt_of_le z0 hbx.size
    replace z1 := Nat.lt_of_lt_of_le z1 hbx.size
    replace z2 := Nat.lt_of_lt_of_le z2 hbx.size
    replace zg := Nat.lt_of_lt_of_le zg hbx.size
    replace za := Nat.lt_of_lt_of_le za hbx.size
    replace HR := Lib.hid (HR.out.below hbx)
    replace HN := Lib.hid (HN.out.below hbx)
    replace HG := Lib.hid (HG.out.below hbx)
    replace HB := Lib.hid (HB.out.trans (hbx.mono HB.out.size))
    clear hbx
    clear hnb
    have HW4 := Lib.hid hW4
    clear hW4
    rw [HW4.out]
    refine (sameTable_any xs ys vs X' Y' V' X Y V cx' cy' cv' cx cy cv _ HS.out HG.out HR.out).mono ?_
    rintro e w5 ⟨rfl, hb5⟩
    replace c0 := cell_b hb5 c0
    replace c1 := cell_b hb5 c1
    replace c2 := cell_b hb5 c2
    replace p0 := cell_b hb5 p0
    replace p1 := cell_b hb5 p1
    replace q0 := cell_b hb5 q0
    replace q1 := cell_b hb5 q1
    replace g0 := cell_b hb5 g0
    replace g1 := cell_b hb5 g1
    replace g2 := cell_b hb5 g2
    replace a0 := cell_b hb5 a0
    replace a1 := cell_b hb5 a1
    replace b0 := cell_b hb5 b0
    replace b1 := cell_b hb5 b1
    replace z0 := Nat.lt_of_lt_of_le z0 hb5.size
    replace z1 := Nat.lt_of_lt_of_le z1 hb5.size
    replace z2 := Nat.lt_of_lt_of_le z2 hb5.size
    replace zg := Nat.lt_of_lt_of_le zg hb5.size
    replace za := Nat.lt_of_lt_of_le za hb5.size
    replace zb := Nat.lt_of_lt_of_le zb hb5.size
    replace HR := Lib.hid (HR.out.below hb5)
    replace HN := Lib.hid (HN.out.below hb5)
    replace HG := Lib.hid (HG.out.below hb5)
    replace HB := Lib.hid (HB.out.trans (hb5.mono HB.out.size))
    clear hb5
    clear n1 n2 n3 n4 n5 n6 a0 a1 b0 b1 za zb p0 p1
    go_wp2_with fail
    refine (rcheckTable_any xs ys vs X Y V cx cy cv _ HS.out HR.out).mono ?_
    rintro e w6 ⟨rfl, hb6⟩
    replace c0 := cell_b hb6 c0
    replace c1 := cell_b hb6 c1
    replace c2 := cell_b hb6 c2
    replace q0 := cell_b hb6 q0
    replace q1 := cell_b hb6 q1
    replace g0 := cell_b hb6 g0
    replace g1 := cell_b hb6 g1
    replace g2 := cell_b hb6 g2
    replace z0 := Nat.lt_of_lt_of_le z0 hb6.size
    replace z1 := Nat.lt_of_lt_of_le z1 hb6.size
    replace z2 := Nat.lt_of_lt_of_le z2 hb6.size
    replace zg := Nat.lt_of_lt_of_le zg hb6.size
    replace HR := Lib.hid (HR.out.below hb6)
    replace HN := Lib.hid (HN.out.below hb6)
    replace HG := Lib.hid (HG.out.below hb6)
    replace HB := Lib.hid (HB.out.trans (hb6.mono HB.out.size))
    clear hb6
    by_cases ht : tabB xs ys vs = true
    · have HT := Lib.hid ht
      have hte : tabErr xs ys vs = 0 := by unfold tabErr; rw [if_pos ht]
      rw [hte]
      have hx2 := (tbl_of ht).ax.two
      have hx12 := (tbl_of ht).ax.twelve
      have hy2 := (tbl_of ht).ay.two
      have hy12 := (tbl_of ht).ay.twelve
      have hlv1 : vs.length ≤ xs.length := by have := (tbl_of ht).len; omega
      have hlv2 : xs.length ≤ vs.length := by have := (tbl_of ht).len; omega
      clear ht hte
      have u1 : IntKind.i64.wrap ((xs.length : Int) - 1) = (xs.length : Int) - 1 := IntWalk.i64_in _ (by omega)
      have u2 : IntKind.i64.wrap ((ys.length : Int) - 1) = (ys.length : Int) - 1 := IntWalk.i64_in _ (by omega)
      go_wp2_with fail
      refine (from_any k0 0 ((xs.length : Int) - 1) _).mono ?_
      rintro e w' ⟨rfl, rfl⟩
      by_cases f1 : wB k0 0 ((xs.length : Int) - 1) = true
      · rw [f1]
        have b1 := wB_iff.1 f1
        clear f1
        go_wp2_with fail
        refine (from_any k1 0 ((ys.length : Int) - 1) _).mono ?_
        rintro e w' ⟨rfl, rfl⟩
        by_cases f2 : wB k1 0 ((ys.length : Int) - 1) = true
        · rw [f2]
          have b2 := wB_iff.1 f2
          obtain ⟨i, rfl⟩ : ∃ i : Nat, k0 = i := ⟨k0.toNat, by omega⟩
          obtain ⟨k, rfl⟩ : ∃ k : Nat, k1 = k := ⟨k1.toNat, by omega⟩
          clear f2
          have hrow := (tbl_of HT.out).row i (by omega)
          have HRES := Lib.hid (atR_knot HT.out (i := i) (k := k) (by omega) (by omega))
          have HR2 := HR.out
          obtain ⟨bx, ox, ex, hbx, hcx⟩ := HR2.hX (by omega)
          obtain ⟨by_, oy, ey, hby, hcy⟩ := HR2.hY (by omega)
          obtain ⟨bv, ov, ev, hbv, hcv⟩ := HR2.hV (by omega)
          obtain ⟨R0, d0, e0, hR0⟩ := hcv i (by omega)
          obtain ⟨b0, o0, er0, hb0, hc0⟩ := hR0 (by omega)
          have x0 := hcx i (by omega)
          have y0 := hcy k (by omega)
          have v0 := hc0 k (by omega)
          rw [hrow] at e0
          subst er0 ex ey ev
          generalize xs[i]?.getD 0 = xi at x0 HRES
          generalize ys[k]?.getD 0 = yk at y0 HRES
          generalize (vs[i]?.getD [])[k]?.getD 0 = v at v0 HRES
          have t1 : (i : Int) < (xs.length : Int) := by omega
          have t2 : (0 : Int) ≤ (i : Int) := by omega
          have t3 : (k : Int) < (ys.length : Int) := by omega
          have t4 : (0 : Int) ≤ (k : Int) := by omega
          have t5 : (i : Int) < (vs.length : Int) := by omega
          obtain ⟨w8, rfl⟩ : ∃ w8, w8 = w' := ⟨_, rfl⟩
          clear hcx hcy hcv hc0 hR0 hrow HR2
          go_wp2_with fail
          go_quiet (fail)
          go_wp2_with fail
          have hbd : Below w8.heap.size w8 (w8.drewN nq) := Below.drewN' (Below.refl _ _) _
          obtain ⟨w10, hw10⟩ : ∃ w10, w8.drewN nq = w10 := ⟨_, rfl⟩
          rw [hw10] at hbd ⊢
          replace c0 := cell_b hbd c0
          replace c1 := cell_b hbd c1
          replace q0 := cell_b hbd q0
          replace q1 := cell_b hbd q1
          replace g0 := cell_b hbd g0
          replace g1 := cell_b hbd g1
          replace g2 := cell_b hbd g2
          replace x0 := cell_b hbd x0
          replace y0 := cell_b hbd y0
          replace z0 := Nat.lt_of_lt_of_le z0 hbd.size
          replace z1 := Nat.lt_of_lt_of_le z1 hbd.size
          replace z2 := Nat.lt_of_lt_of_le z2 hbd.size
          replace zg := Nat.lt_of_lt_of_le zg hbd.size
          replace HR := Lib.hid (HR.out.below hbd)
          replace HN := Lib.hid (HN.out.below hbd)
          replace HG := Lib.hid (HG.out.below hbd)
          replace HB := Lib.hid (HB.out.trans (hbd.mono HB.out.size))
          clear hbd
          clear hw10 v0 e0 c2
          have HBc := Lib.hid (Below.refl w10.heap.size w10)
          go_region_held3 (fun w' => w'.cell? ⟨w2.heap.size, 0, none⟩ = some (.slice X' xs.length cx') ∧ w'.cell? ⟨w2.heap.size, 1, none⟩ = some (.slice Y' ys.length cy') ∧ w'.cell? ⟨w2.heap.size, 2, none⟩ = some (.slice V' vs.length cv') ∧ w'.cell? ⟨w.heap.size, 0, none⟩ = some (.slice (some ⟨bx, ox, none⟩) xs.length cx) ∧ w'.cell? ⟨w.heap.size, 1, none⟩ = some (.slice (some ⟨by_, oy, none⟩) ys.length cy) ∧ w'.cell? ⟨w.heap.size + 1 + 1, 0, none⟩ = some (.int .i64 (i : Int)) ∧ w'.cell? ⟨w.heap.size + 1 + 1, 1, none⟩ = some (.int .i64 (k : Int)) ∧ w'.cell? ⟨bx, ox + i, none⟩ = some (.int .i64 xi) ∧ w'.cell? ⟨by_, oy + k, none⟩ = some (.int .i64 yk)) (refine ⟨cell_b' (W := w10) ?_ g0, cell_b' (W := w10) ?_ g1, cell_b' (W := w10) ?_ g2, cell_b' (W := w10) ?_ c0, cell_b' (W := w10) ?_ c1, cell_b' (W := w10) ?_ q0, cell_b' (W := w10) ?_ q1, cell_b' (W := w10) ?_ x0, cell_b' (W := w10) ?_ y0⟩ <;> (repeat (first | with_reducible exact HBc.out | with_reducible refine Below.alloc ?_ (by have := HBc.out.size; simp <;> omega) _ | with_reducible refine Below.drew ?_ | with_reducible refine Below.setCell ?_ (by have := HBc.out.size; simp <;> omega) _)))
            (first | (go_at_call 31; refine (atFn_any xs ys vs X' Y' V' cx' cy' cv' xi yk _ HTS.out HS.out (HG.out.below (by (repeat (first | with_reducible exact HBc.out | with_reducible refine Below.alloc ?_ (by have := HBc.out.size; simp <;> omega) _ | with_reducible refine Below.drew ?_ | with_reducible refine Below.setCell ?_ (by have := HBc.out.size; simp <;> omega) _))))).mono ?_; rw [HRES.out]; rintro e w9 ⟨rfl, hb9⟩; obtain ⟨r1, r2⟩ := bcell hb9; have hbw := bel_step (W0 := w10) (by (repeat (first | with_reducible exact HBc.out | with_reducible refine Below.alloc ?_ (by have := HBc.out.size; simp <;> omega) _ | with_reducible refine Below.drew ?_ | with_reducible refine Below.setCell ?_ (by have := HBc.out.size; simp <;> omega) _))) hb9; have hs9 := hb9.size; (try simp at hs9); replace HBc := Lib.hid hbw; clear hb9 hbw))
          all_goals
            have m1 : (v == v) = true := by simp
            go_wp2_with fail
            refine (works_any _).mono ?_
            rintro e w99 ⟨rfl, hb99⟩
            have hfin := bel_step (W0 := w10) (by (repeat (first | with_reducible exact HBc.out | with_reducible refine Below.alloc ?_ (by have := HBc.out.size; simp <;> omega) _ | with_reducible refine Below.drew ?_ | with_reducible refine Below.setCell ?_ (by have := HBc.out.size; simp <;> omega) _))) hb99
            replace HB := Lib.hid (HB.out.trans (hfin.mono HB.out.size))
            clear hfin hb99
            go_wp2_with fail
            go_ret
            exact ⟨rfl, HB.out⟩
        · have f2' : wB k1 0 ((ys.length : Int) - 1) = false := by simpa using f2
          rw [f2']
          clear f2 f2'
          go_wp2_with fail
          refine (works_any _).mono ?_
          rintro e w99 ⟨rfl, hb99⟩
          replace HB := Lib.hid (HB.out.trans (hb99.mono HB.out.size))
          clear hb99
          go_wp2_with fail
          go_ret
          exact ⟨rfl, HB.out⟩
      · have f1' : wB k0 0 ((xs.length : Int) - 1) = false := by simpa using f1
        rw [f1']
        clear f1 f1'
        go_wp2_with fail
        refine (works_any _).mono ?_
        rintro e w99 ⟨rfl, hb99⟩
        replace HB := Lib.hid (HB.out.trans (hb99.mono HB.out.size))
        clear hb99
        go_wp2_with fail
        go_ret
        exact ⟨rfl, HB.out⟩
    · have hte : tabErr xs ys vs = 11 := by unfold tabErr; rw [if_neg ht]
      rw [hte]
      clear ht hte
      go_wp2_with fail
      refine (works_any _).mono ?_
      rintro e w99 ⟨rfl, hb99⟩
      replace HB := Lib.hid (HB.out.trans (hb99.mono HB.out.size))
      clear hb99
      go_wp2_with fail
      go_ret
      exact ⟨rfl, HB.out⟩
end Go.Proofs.Ytfaiogajaaclcaa
