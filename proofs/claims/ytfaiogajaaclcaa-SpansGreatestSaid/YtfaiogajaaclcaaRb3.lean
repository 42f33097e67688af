/- The walks of the reference's Bound and Worst. -/
import Derived.Test.YtfaiogajaaclcaaRb2
namespace Go.Proofs.Ytfaiogajaaclcaa
open Go.RowKit

set_option maxRecDepth 100000 in
set_option maxHeartbeats 2000000 in
theorem rboundF_any (xs ys : List Int) (vs : List (List Int)) (X Y V : Option Addr) (cx cy cv : Nat) (x y : Int × Int) (w : World) (hS : TSm xs ys vs) (hR : TabR w X Y V cx cy cv xs ys vs) :
   Calls Try.prog 28 #[.agg #[.slice X xs.length cx, .slice Y ys.length cy, .slice V vs.length cv], .agg #[.int .i64 x.1, .int .i64 x.2], .agg #[.int .i64 y.1, .int .i64 y.2]] w fun e w' =>
     e = .returned (.tuple #[.agg #[.int .i64 (boundR xs ys vs x y).1.1, .int .i64 (boundR xs ys vs x y).1.2], .int .i64 (boundR xs ys vs x y).2]) ∧ Below w.heap.size w w' := by
  obtain ⟨xl, xh⟩ := x
  obtain ⟨yl, yh⟩ := y
  show Calls Try.prog 28 #[.agg #[.slice X xs.length cx, .slice Y ys.length cy, .slice V vs.length cv], .agg #[.int .i64 xl, .int .i64 xh], .agg #[.int .i64 yl, .int .i64 yh]] w _
  have HS := Lib.hid hS
  obtain ⟨W0, hW0⟩ : ∃ W0, ((((w.alloc (.cells #[.slice X xs.length cx, .slice Y ys.length cy, .slice V vs.length cv] 25)).alloc (.cells #[.int .i64 xl, .int .i64 xh] 27)).alloc (.cells #[.int .i64 yl, .int .i64 yh] 27)).alloc (.cells #[.int .i64 0, .int .i64 0] 27)) = W0 := ⟨_, rfl⟩
  have HB : Hid (Below w.heap.size w W0) := by
    unfold Hid; rw [← hW0]
    repeat (first | exact Below.refl _ _ | refine Below.alloc ?_ (by simp <;> omega) _)
  have ha : W0.heap[w.heap.size]? = some (.cells #[.slice X xs.length cx, .slice Y ys.length cy, .slice V vs.length cv] 25) := by
    rw [← hW0]; simp only [heap_alloc_at, World.size_alloc]; repeat (first | rw [if_pos trivial] | rw [if_neg (by omega)])
  have hb : W0.heap[w.heap.size + 1]? = some (.cells #[.int .i64 xl, .int .i64 xh] 27) := by
    rw [← hW0]; simp only [heap_alloc_at, World.size_alloc]; repeat (first | rw [if_pos trivial] | rw [if_neg (by omega)])
  have hc : W0.heap[w.heap.size + 1 + 1]? = some (.cells #[.int .i64 yl, .int .i64 yh] 27) := by
    rw [← hW0]; simp only [heap_alloc_at, World.size_alloc]; repeat (first | rw [if_pos trivial] | rw [if_neg (by omega)])
  have hd : W0.heap[w.heap.size + 1 + 1 + 1]? = some (.cells #[.int .i64 0, .int .i64 0] 27) := by
    rw [← hW0]; simp only [heap_alloc_at, World.size_alloc]; repeat (first | rw [if_pos trivial] | rw [if_neg (by omega)])
  obtain ⟨⟨c0, c1, c2⟩, _⟩ := cells3 ha
  obtain ⟨⟨p0, p1⟩, _⟩ := cells2 hb
  obtain ⟨⟨q0, q1⟩, _⟩ := cells2 hc
  obtain ⟨⟨r0, r1⟩, f0, f1⟩ := cells2 hd
  have HR := Lib.hid (hR.below HB.out)
  have HW0 := Lib.hid hW0
  clear hW0 ha hb hc hd hR hS
  go_enter Try.func28, Try.ntmps28
  go_wp2_with fail
  rw [HW0.out]
  refine (rcb_any xs ys vs X Y V cx cy cv (xl, xh) (yl, yh) _ HS.out HR.out).mono ?_
  rintro e w1 ⟨rfl, hb1⟩
  replace c0 := cell_b hb1 c0
  replace c1 := cell_b hb1 c1
  replace c2 := cell_b hb1 c2
  replace p0 := cell_b hb1 p0
  replace p1 := cell_b hb1 p1
  replace q0 := cell_b hb1 q0
  replace q1 := cell_b hb1 q1
  replace f0 := froz_b hb1 r0 f0
  replace f1 := froz_b hb1 r1 f1
  replace r0 := cell_b hb1 r0
  replace r1 := cell_b hb1 r1
  replace HR := Lib.hid (HR.out.below hb1)
  replace HB := Lib.hid (HB.out.trans (hb1.mono HB.out.size))
  clear hb1
  by_cases he : (cpErr xs ys vs (xl, xh) (yl, yh) != 0) = true
  · have R : Hid (boundR xs ys vs (xl, xh) (yl, yh) = ((0, 0), cpErr xs ys vs (xl, xh) (yl, yh))) := by unfold Hid boundR; rw [if_pos he]
    generalize cpErr xs ys vs (xl, xh) (yl, yh) = ce at *
    go_wp2_with fail
    refine bodyPost_ret (v := .tuple #[.agg #[.int .i64 0, .int .i64 0], .int .i64 ce]) (by simp [results, Try.results28, go_sem, r0, r1]) rfl ⟨by rw [R.out], ?_⟩
    exact (HB.out.setCell (p := ⟨w.heap.size + 1 + 1 + 1, 0, none⟩) (by show _ ≤ _ + 1 + 1 + 1; omega) _).setCell (p := ⟨w.heap.size + 1 + 1 + 1, 1, none⟩) (by show _ ≤ _ + 1 + 1 + 1; omega) _
  · have he' : (cpErr xs ys vs (xl, xh) (yl, yh) != 0) = false := by simpa using he
    have h0 : cpErr xs ys vs (xl, xh) (yl, yh) = 0 := by simpa using he'
    have HO := Lib.hid (cp_zero h0)
    have R : Hid (boundR xs ys vs (xl, xh) (yl, yh) = (bnd xs ys vs (xl, xh) (yl, yh), 0)) := by unfold Hid boundR; rw [if_neg he]
    rw [h0]
    clear he he' h0
    go_wp2_with fail
    refine (rbnd_any xs ys vs X Y V cx cy cv (xl, xh) (yl, yh) _ HO.out HR.out).mono ?_
    rintro e w2 ⟨rfl, hb2⟩
    replace f0 := froz_b hb2 r0 f0
    replace f1 := froz_b hb2 r1 f1
    replace r0 := cell_b hb2 r0
    replace r1 := cell_b hb2 r1
    replace HB := Lib.hid (HB.out.trans (hb2.mono HB.out.size))
    clear hb2 c0 c1 c2 p0 p1 q0 q1
    generalize bnd xs ys vs (xl, xh) (yl, yh) = bd at *
    go_wp2_with fail
    refine bodyPost_ret (v := .tuple #[.agg #[.int .i64 bd.1, .int .i64 bd.2], .int .i64 0]) (by simp [results, Try.results28, go_sem, r0, r1]) rfl ⟨by rw [R.out], ?_⟩
    exact (HB.out.setCell (p := ⟨w.heap.size + 1 + 1 + 1, 0, none⟩) (by show _ ≤ _ + 1 + 1 + 1; omega) _).setCell (p := ⟨w.heap.size + 1 + 1 + 1, 1, none⟩) (by show _ ≤ _ + 1 + 1 + 1; omega) _
/-- what Worst holds behind some points -/
def WsSt (xs ys : List Int) (vs : List (List Int)) (p0 : Pt) (ps : List Pt) (sX sY sn sd : Value) : Prop := ∃ l m, extrE (p0 :: ps) = some (l, m) ∧ OnAx xs m.x ∧ OnAx ys m.y ∧ m.n = atN xs ys vs m.x m.y ∧ m.d = atD xs ys m.x m.y ∧
  sX = .int .i64 m.x ∧ sY = .int .i64 m.y ∧ sn = .int .i64 (valN xs ys vs m.x m.y) ∧ sd = .int .i64 (valD xs ys m.x m.y)
theorem less_top {xs ys : List Int} {vs : List (List Int)} (hT : Tbl xs ys vs) {m p : Pt} (mx : OnAx xs m.x) (my : OnAx ys m.y) (mn : m.n = atN xs ys vs m.x m.y) (md : m.d = atD xs ys m.x m.y)
    (px : OnAx xs p.x) (py : OnAx ys p.y) (pn : p.n = atN xs ys vs p.x p.y) (pd : p.d = atD xs ys p.x p.y) :
    (valN xs ys vs m.x m.y * valD xs ys p.x p.y < valN xs ys vs p.x p.y * valD xs ys m.x m.y) ↔ 0 < cmpV p.n p.d m.n m.d := by
  rw [(cmpV_sign (n := p.n) (m := m.n) p.ok.1 m.ok.1).2]
  have e1 := frac_eq (x := m.x) (y := m.y) hT
  have e2 := frac_eq (x := p.x) (y := p.y) hT
  rw [← mn, ← md] at e1
  rw [← pn, ← pd] at e2
  have b1 := m.ok.1
  have b2 := p.ok.1
  have b3 := (val_bd (vs := vs) hT mx my).1
  have b4 := (val_bd (vs := vs) hT px py).1
  clear mn md pn pd
  generalize valN xs ys vs m.x m.y = a at *
  generalize valD xs ys m.x m.y = b at *
  generalize valN xs ys vs p.x p.y = c at *
  generalize valD xs ys p.x p.y = d at *
  have k1 : (a * d) * (m.d * p.d) = (m.n * p.d) * (b * d) := by grind
  have k2 : (c * b) * (m.d * p.d) = (p.n * m.d) * (b * d) := by grind
  have q1 : 0 < m.d * p.d := Int.mul_pos (by omega) (by omega)
  have q2 : 0 < b * d := Int.mul_pos (by omega) (by omega)
  constructor
  · intro h
    have := Int.mul_lt_mul_of_pos_right h q1
    rw [k1, k2] at this
    exact Int.lt_of_mul_lt_mul_right this (by omega)
  · intro h
    have := Int.mul_lt_mul_of_pos_right h q2
    rw [← k1, ← k2] at this
    exact Int.lt_of_mul_lt_mul_right this (by omega)
end Go.Proofs.Ytfaiogajaaclcaa
