/- The contract of spans.Greatest. -/
import Derived.Test.YtfaiogajaaclcaaBnd
namespace Go.Proofs.Ytfaiogajaaclcaa
open Go.RowKit

/-- two boxes at the head of a call -/
def w2b (w : World) (t1 t2 t3 y1 y2 : Value) : World := (w.alloc (.cells #[t1, t2, t3] 25)).alloc (.cells #[y1, y2] 27)
theorem boxes2 {w w1 : World} {t1 t2 t3 y1 y2 : Value} {N : Nat} (hb : Below N (w2b w t1 t2 t3 y1 y2) w1) (hN : w.heap.size + 2 ≤ N) :
    (w1.cell? ⟨w.heap.size, 0, none⟩ = some t1 ∧ w1.cell? ⟨w.heap.size, 1, none⟩ = some t2 ∧ w1.cell? ⟨w.heap.size, 2, none⟩ = some t3) ∧
    (w1.cell? ⟨w.heap.size + 1, 0, none⟩ = some y1 ∧ w1.cell? ⟨w.heap.size + 1, 1, none⟩ = some y2) ∧ w.heap.size + 1 + 1 ≤ w1.heap.size := by
  have hs := hb.size
  have h0 : w1.heap[w.heap.size]? = some (.cells #[t1, t2, t3] 25) := (hb.block _ (by omega)).trans (by
    simp only [w2b, heap_alloc_at, World.size_alloc]; repeat (first | rw [if_pos trivial] | rw [if_neg (by omega)]))
  have h1 : w1.heap[w.heap.size + 1]? = some (.cells #[y1, y2] 27) := (hb.block _ (by omega)).trans (by
    simp only [w2b, heap_alloc_at, World.size_alloc]; repeat (first | rw [if_pos trivial] | rw [if_neg (by omega)]))
  refine ⟨⟨?_, ?_, ?_⟩, ⟨?_, ?_⟩, by simpa [w2b] using hs⟩
  · rw [cell_of_row w1 _ 0 _ _ _ h0]; rfl
  · rw [cell_of_row w1 _ 1 _ _ _ h0]; rfl
  · rw [cell_of_row w1 _ 2 _ _ _ h0]; rfl
  · rw [cell_of_row w1 _ 0 _ _ _ h1]; rfl
  · rw [cell_of_row w1 _ 1 _ _ _ h1]; rfl
/-- the greatest of so many numbers from a first one on at which something is so -/
def grtS (f : Int → Bool) (first : Int) : Nat → Int × Int
  | 0 => (0, 3)
  | n + 1 => if f (first + n) then (first + n, 0) else grtS f first n
def grtF (xs ys : List Int) (vs : List (List Int)) (y : Int × Int) (limit : Int) (x : Int) : Bool := decide ((bnd xs ys vs (x, x) y).2 ≤ limit)
def grtN (xs : List Int) : Nat := (xs[xs.length - 1]?.getD 0 - xs[0]?.getD 0 + 1).toNat
def grtR (xs ys : List Int) (vs : List (List Int)) (y : Int × Int) (limit : Int) : Int × Int :=
  if tabB xs ys vs then (if cpErr xs ys vs (xs[0]?.getD 0, xs[0]?.getD 0) y != 0 then (0, cpErr xs ys vs (xs[0]?.getD 0, xs[0]?.getD 0) y) else grtS (grtF xs ys vs y limit) (xs[0]?.getD 0) (grtN xs)) else (0, 11)
set_option maxRecDepth 100000 in
set_option maxHeartbeats 2000000 in
theorem greatest_any (xs ys : List Int) (vs : List (List Int)) (X Y V : Option Addr) (cx cy cv : Nat) (y : Int × Int) (limit : Int) (w : World) (hS : TSz xs ys vs) (hR : TabR w X Y V cx cy cv xs ys vs) :
   Calls Try.prog 20 #[.agg #[.slice X xs.length cx, .slice Y ys.length cy, .slice V vs.length cv], .agg #[.int .i64 y.1, .int .i64 y.2], .int .i64 limit] w fun e w' =>
     e = .returned (.tuple #[.int .i64 (grtR xs ys vs y limit).1, .int .i64 (grtR xs ys vs y limit).2]) ∧ Below w.heap.size w w' := by
  obtain ⟨yl, yh⟩ := y
  show Calls Try.prog 20 #[.agg #[.slice X xs.length cx, .slice Y ys.length cy, .slice V vs.length cv], .agg #[.int .i64 yl, .int .i64 yh], .int .i64 limit] w _
  have HRR := Lib.hid hR
  have HS := Lib.hid hS
  obtain ⟨W, hW⟩ : ∃ W, w2b w (.slice X xs.length cx) (.slice Y ys.length cy) (.slice V vs.length cv) (.int .i64 yl) (.int .i64 yh) = W := ⟨_, rfl⟩
  have hWz : W.heap.size = w.heap.size + 2 := by rw [← hW]; simp [w2b]
  have hWb : Below w.heap.size w W := by rw [← hW]; exact ((Below.refl _ w).alloc (Nat.le_refl _) _).alloc (by simp) _
  have hW3 : Below (w.heap.size + 2) (w2b w (.slice X xs.length cx) (.slice Y ys.length cy) (.slice V vs.length cv) (.int .i64 yl) (.int .i64 yh)) W := by rw [← hW]; exact Below.refl _ _
  have HWz := Lib.hid hWz
  have HWb := Lib.hid hWb
  have HW3 := Lib.hid hW3
  have HW := Lib.hid hW
  clear hR hS hWz hWb hW3 hW
  by_cases ht : tabB xs ys vs = true
  · have HTe : Hid (tabErr xs ys vs = 0) := by unfold Hid tabErr; rw [if_pos ht]
    have HG : Hid (grtR xs ys vs (yl, yh) limit = if cpErr xs ys vs (xs[0]?.getD 0, xs[0]?.getD 0) (yl, yh) != 0 then (0, cpErr xs ys vs (xs[0]?.getD 0, xs[0]?.getD 0) (yl, yh)) else grtS (grtF xs ys vs (yl, yh) limit) (xs[0]?.getD 0) (grtN xs)) := by unfold Hid grtR; rw [if_pos ht]
    have hT := tbl_of ht
    have h2 := hT.ax.two
    have h12 := hT.ax.twelve
    have HT := Lib.hid hT
    have hbd0 := hT.ax.bd 0 (by omega)
    have hbd1 := hT.ax.bd (xs.length - 1) (by omega)
    have hmon := hT.ax.mono 0 (xs.length - 1) (by omega) (by omega)
    have HGN : Hid (grtN xs = (xs[xs.length - 1]?.getD 0 - xs[0]?.getD 0 + 1).toNat) := rfl
    obtain ⟨bx, ox, hX, hbx, hcx⟩ := HRR.out.hX (by omega)
    subst hX
    have HCX := Lib.hid hcx
    clear ht hT hcx
    generalize hx0 : xs[0]?.getD 0 = x0 at *
    generalize hxz : xs[xs.length - 1]?.getD 0 = xz at *
    have HX0 := Lib.hid hx0
    have HXZ := Lib.hid hxz
    clear hx0 hxz
    go_enter Try.func20, Try.ntmps20
    go_wp2_with fail
    have hW := HW.out
    unfold w2b at hW
    rw [hW]
    clear hW
    refine (checkTableR xs ys vs _ Y V cx cy cv W HS.out (HRR.out.below HWb.out)).mono ?_
    rintro e w1 ⟨rfl, hb1⟩
    rw [HTe.out]
    obtain ⟨⟨a1, a2, a3⟩, ⟨a4, a5⟩, hz⟩ := boxes2 (N := w.heap.size + 2) (HW3.out.trans (hb1.mono (by have := HWz.out; omega))) (by omega)
    have c0 : w1.cell? ⟨bx, ox, none⟩ = some (.int .i64 x0) := by
      have := (hb1.cell (p := ⟨bx, ox + 0, none⟩) (by show bx < _; have := HWz.out; omega)).trans ((HWb.out.cell (p := ⟨bx, ox + 0, none⟩) hbx).trans (HCX.out 0 (by omega)))
      rw [HX0.out] at this; exact this
    have c1 : w1.cell? ⟨bx, ox + (xs.length - 1), none⟩ = some (.int .i64 xz) := by
      have := (hb1.cell (p := ⟨bx, ox + (xs.length - 1), none⟩) (by show bx < _; have := HWz.out; omega)).trans ((HWb.out.cell (p := ⟨bx, ox + (xs.length - 1), none⟩) hbx).trans (HCX.out (xs.length - 1) (by omega)))
      rw [HXZ.out] at this; exact this
    have t1 : ((xs.length : Int) - 1).toNat = xs.length - 1 := by omega
    have t2 : (0 : Int) ≤ (xs.length : Int) - 1 := by omega
    have t3 : (xs.length : Int) - 1 < (xs.length : Int) := by omega
    have t4 : (0 : Int) < (xs.length : Int) := by omega
    have u1 : IntKind.i64.wrap ((xs.length : Int) - 1) = (xs.length : Int) - 1 := IntWalk.i64_in _ (by omega)
    have HB1 := Lib.hid hb1
    clear hb1
    go_wp2_with fail
    go_quiet (fail)
    clear t1 t2 t3 t4 u1 c0 c1
    go_wp2_with fail
    refine (checkPoints_any xs ys vs _ Y V cx cy cv (x0, x0) (yl, yh) _ HS.out ((HRR.out.below HWb.out).below (Below.drewN' HB1.out _))).mono ?_
    rintro e w2 ⟨rfl, hb2⟩
    have HB2 := Lib.hid ((Below.drewN' HB1.out nq).trans (hb2.mono HB1.out.size))
    clear hb2 a1 a2 a3 a4 a5 hz
    obtain ⟨⟨a1, a2, a3⟩, ⟨a4, a5⟩, hz⟩ := boxes2 (N := w.heap.size + 2) (HW3.out.trans (HB2.out.mono (by have := HWz.out; omega))) (by omega)
    by_cases he : (cpErr xs ys vs (x0, x0) (yl, yh) != 0) = true
    · have R : Hid (grtR xs ys vs (yl, yh) limit = (0, cpErr xs ys vs (x0, x0) (yl, yh))) := by unfold Hid; rw [HG.out, if_pos he]
      generalize cpErr xs ys vs (x0, x0) (yl, yh) = ce at *
      go_wp2_with fail
      go_ret2
      exact ⟨by rw [R.out]; rfl, HWb.out.trans (HB2.out.mono HWb.out.size)⟩
    · have he' : (cpErr xs ys vs (x0, x0) (yl, yh) != 0) = false := by simpa using he
      have h0 : cpErr xs ys vs (x0, x0) (yl, yh) = 0 := by simpa using he'
      have HO := Lib.hid (cp_zero h0)
      have R : Hid (grtR xs ys vs (yl, yh) limit = grtS (grtF xs ys vs (yl, yh) limit) x0 (grtN xs)) := by unfold Hid; rw [HG.out, if_neg he]
      rw [h0]
      clear he he' h0 HG
      go_wp2_with fail
      clear a1 a2 a3 a4 a5
      go_loopw [12] (fun v wr => ∃ (x : Int) (n : Nat), v = .int .i64 x ∧ x + 1 = x0 + n ∧ x ≤ xz ∧ grtS (grtF xs ys vs (yl, yh) limit) x0 n = grtS (grtF xs ys vs (yl, yh) limit) x0 (grtN xs) ∧ Below W.heap.size W wr) (fun v _ => (intOf v + 1 - x0).toNat)
      case atStart => exact ⟨xz, grtN xs, rfl, by rw [HGN.out]; omega, by omega, rfl, HB2.out⟩
      case round =>
        obtain ⟨x, n, rfl, hxn, hxz, hg, hbr⟩ := hrel
        have hxn1 : x + 1 ≤ x0 + n := by omega
        have hxn2 : x0 + n ≤ x + 1 := by omega
        have HGS := Lib.hid hg
        have HBR := Lib.hid hbr
        clear hxn hg hbr
        obtain ⟨⟨a1, a2, a3⟩, ⟨a4, a5⟩, hzr⟩ := boxes2 (N := w.heap.size + 2) (HW3.out.trans (HBR.out.mono (by have := HWz.out; omega))) (by omega)
        by_cases hge : x0 ≤ x
        · obtain ⟨m, rfl⟩ : ∃ m, n = m + 1 := ⟨n - 1, by omega⟩
          have HGS2 : Hid (grtS (grtF xs ys vs (yl, yh) limit) x0 (grtN xs) = if grtF xs ys vs (yl, yh) limit x then (x, 0) else grtS (grtF xs ys vs (yl, yh) limit) x0 m) := by
            unfold Hid; rw [← HGS.out]
            have : x0 + (m : Int) = x := by omega
            simp only [grtS, this]
          have hO : OnT xs ys vs (x, x) (yl, yh) := ⟨HO.out.t, by rw [HX0.out]; exact hge, by rw [HXZ.out]; exact hxz, Int.le_refl _, HO.out.y1, HO.out.y2, HO.out.y3⟩
          have HO2 := Lib.hid hO
          clear hO
          go_wp2_with fail
          refine (extremesR HO2.out ((HRR.out.below HWb.out).below HBR.out)).mono ?_
          rintro e w4 ⟨lo, mo, hlm, rfl, hb4⟩
          have HLM := Lib.hid hlm
          have HB4 := Lib.hid (HBR.out.trans (hb4.mono HBR.out.size))
          obtain ⟨hm1, hm2, hm3, hm4⟩ := mo.ok
          clear hlm hb4 a1 a2 a3 a4 a5
          unfold vP
          go_wp2_with fail
          refine (up_any mo.n mo.d _ (by omega) (by omega) (by omega) (by omega)).mono ?_
          rintro e w5 ⟨rfl, hb5⟩
          have HB5 := Lib.hid (((HB4.out.alloc HB4.out.size _).alloc (by have := HB4.out.size; simp; omega) _).trans (hb5.mono (by have := HB4.out.size; simp; omega)))
          have hF : grtF xs ys vs (yl, yh) limit x = decide (-(-mo.n / mo.d) ≤ limit) := by unfold grtF; rw [bnd_eq HLM.out]
          rw [hF] at HGS2
          clear hb5 hF
          generalize -(-mo.n / mo.d) = u at *
          by_cases hu : u ≤ limit
          · go_wp2_with fail
            go_ret2
            exact ⟨by rw [R.out, HGS2.out, decide_eq_true hu]; rfl, HWb.out.trans (HB5.out.mono HWb.out.size)⟩
          · have hu' : decide (u ≤ limit) = false := decide_eq_false hu
            go_wp2_with fail
            go_roundw
            case rel => exact ⟨x - 1, m, rfl, by omega, by omega, by rw [HGS2.out, hu']; rfl, HB5.out⟩
            case measure => simp [intOf]; omega
        · obtain rfl : n = 0 := by omega
          go_wp2_with fail
          go_ret2
          exact ⟨by rw [R.out, ← HGS.out]; rfl, HWb.out.trans (HBR.out.mono HWb.out.size)⟩
  · have HTe : Hid (tabErr xs ys vs = 11) := by unfold Hid tabErr; rw [if_neg ht]
    have HG : Hid (grtR xs ys vs (yl, yh) limit = (0, 11)) := by unfold Hid grtR; rw [if_neg ht]
    clear ht
    go_enter Try.func20, Try.ntmps20
    go_wp2_with fail
    have hW := HW.out
    unfold w2b at hW
    rw [hW]
    clear hW
    refine (checkTableR xs ys vs X Y V cx cy cv W HS.out (HRR.out.below HWb.out)).mono ?_
    rintro e w1 ⟨rfl, hb1⟩
    rw [HTe.out]
    have HB1 := Lib.hid (HWb.out.trans (hb1.mono HWb.out.size))
    clear hb1
    go_wp2_with fail
    go_ret2
    exact ⟨by rw [HG.out]; rfl, HB1.out⟩
end Go.Proofs.Ytfaiogajaaclcaa
