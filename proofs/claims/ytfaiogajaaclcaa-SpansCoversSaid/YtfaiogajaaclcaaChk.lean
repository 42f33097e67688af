/- The contracts of spans.lies and spans.checkPoints. -/
import Derived.Test.YtfaiogajaaclcaaExt
namespace Go.Proofs.Ytfaiogajaaclcaa
open Go.RowKit

def liesB (l : List Int) (x : Int × Int) : Bool := decide (l[0]?.getD 0 ≤ x.1) && decide (x.2 ≤ l[l.length - 1]?.getD 0)
set_option maxHeartbeats 400000 in
theorem lies_any (A : Option Addr) (l : List Int) (c : Nat) (lo hi : Int) (w : World) (h1 : 1 ≤ l.length) (hl : l.length ≤ 1000000) (hA : Ints w A l) :
    Calls Try.prog 82 #[.slice A l.length c, .agg #[.int .i64 lo, .int .i64 hi]] w fun e w' => e = .returned (.bool (liesB l (lo, hi))) ∧ Below w.heap.size w w' := by
  obtain ⟨b, off, rfl, hbl, hc⟩ := hA (by omega)
  have c0 := hc 0 (by omega)
  have c1 := hc (l.length - 1) (by omega)
  simp only [Nat.add_zero] at c0
  have hR : liesB l (lo, hi) = (decide (l[0]?.getD 0 ≤ lo) && decide (hi ≤ l[l.length - 1]?.getD 0)) := rfl
  generalize l[0]?.getD 0 = a at *
  generalize l[l.length - 1]?.getD 0 = z at *
  have t1 : ((l.length : Int) - 1).toNat = l.length - 1 := by omega
  have t2 : (0 : Int) ≤ (l.length : Int) - 1 := by omega
  have t3 : (l.length : Int) - 1 < (l.length : Int) := by omega
  have t4 : (0 : Int) < (l.length : Int) := by omega
  have u1 : IntKind.i64.wrap ((l.length : Int) - 1) = (l.length : Int) - 1 := IntWalk.i64_in _ (by omega)
  have HR := Lib.hid hR
  have hB : ∀ (o : Obj) (n : Nat), Below w.heap.size w ((w.alloc o).drewN n) := fun o n => Below.drewN' ((Below.refl _ w).alloc (Nat.le_refl _) _) n
  have HB := Lib.hid hB
  clear hR hc hA hB
  by_cases g1 : a ≤ lo
  · have g1' : decide (a ≤ lo) = true := by simpa using g1
    by_cases g2 : hi ≤ z
    · have g2' : decide (hi ≤ z) = true := by simpa using g2
      go_enter Try.func82, Try.ntmps82
      go_wp2_with fail
      go_quiet (fail)
      go_wp2_with fail
      go_ret
      exact ⟨by rw [HR.out, g1', g2']; rfl, HB.out _ _⟩
    · have g2' : decide (hi ≤ z) = false := by simpa using g2
      go_enter Try.func82, Try.ntmps82
      go_wp2_with fail
      go_quiet (fail)
      go_wp2_with fail
      go_ret
      exact ⟨by rw [HR.out, g1', g2']; rfl, HB.out _ _⟩
  · have g1' : decide (a ≤ lo) = false := by simpa using g1
    go_enter Try.func82, Try.ntmps82
    go_wp2_with fail
    go_quiet (fail)
    go_wp2_with fail
    go_ret
    exact ⟨by rw [HR.out, g1']; rfl, HB.out _ _⟩

/-- sizes of a table, whatever it is -/
structure TSz (xs ys : List Int) (vs : List (List Int)) : Prop where
  x : xs.length ≤ 4611686018427387904
  y : ys.length ≤ 4611686018427387904
  v : vs.length ≤ 4611686018427387904
  r : RowsLe vs
theorem checkTableR (xs ys : List Int) (vs : List (List Int)) (X Y V : Option Addr) (cx cy cv : Nat) (w : World) (hS : TSz xs ys vs) (hR : TabR w X Y V cx cy cv xs ys vs) :
   Calls Try.prog 26 #[.agg #[.slice X xs.length cx, .slice Y ys.length cy, .slice V vs.length cv]] w fun e w' => e = .returned (.int .i64 (tabErr xs ys vs)) ∧ Below w.heap.size w w' :=
  checkTable_any xs ys vs X Y V cx cy cv w hS.x hS.y hS.v hS.r hR.hX hR.hY hR.hV
theorem sps_new2 (w : World) (a b c d : Int) (t : TypeId) (B : Nat) (hB : B = w.heap.size) : Sps (w.alloc (.cells #[.int .i64 a, .int .i64 b, .int .i64 c, .int .i64 d] t)) (some ⟨B, 0, none⟩) [(a, b), (c, d)] := fun _ => by
  subst hB
  refine ⟨_, 0, rfl, by simp, fun k hk => ?_⟩
  match k, hk with
  | 0, _ => simp
  | 1, _ => simp
/-- three boxes at the head of a call -/
def w3 (w : World) (t1 t2 t3 x1 x2 y1 y2 : Value) : World := ((w.alloc (.cells #[t1, t2, t3] 25)).alloc (.cells #[x1, x2] 27)).alloc (.cells #[y1, y2] 27)
theorem boxes3 {w w1 : World} {t1 t2 t3 x1 x2 y1 y2 : Value} {N : Nat} (hb : Below N (w3 w t1 t2 t3 x1 x2 y1 y2) w1) (hN : w.heap.size + 3 ≤ N) :
    (w1.cell? ⟨w.heap.size, 0, none⟩ = some t1 ∧ w1.cell? ⟨w.heap.size, 1, none⟩ = some t2 ∧ w1.cell? ⟨w.heap.size, 2, none⟩ = some t3) ∧
    (w1.cell? ⟨w.heap.size + 1, 0, none⟩ = some x1 ∧ w1.cell? ⟨w.heap.size + 1, 1, none⟩ = some x2) ∧ (w1.cell? ⟨w.heap.size + 1 + 1, 0, none⟩ = some y1 ∧ w1.cell? ⟨w.heap.size + 1 + 1, 1, none⟩ = some y2) ∧ w.heap.size + 1 + 1 + 1 ≤ w1.heap.size := by
  have hs := hb.size
  have h0 : w1.heap[w.heap.size]? = some (.cells #[t1, t2, t3] 25) := (hb.block _ (by omega)).trans (by
    simp only [w3, heap_alloc_at, World.size_alloc]; repeat (first | rw [if_pos trivial] | rw [if_neg (by omega)]))
  have h1 : w1.heap[w.heap.size + 1]? = some (.cells #[x1, x2] 27) := (hb.block _ (by omega)).trans (by
    simp only [w3, heap_alloc_at, World.size_alloc]; repeat (first | rw [if_pos trivial] | rw [if_neg (by omega)]))
  have h2 : w1.heap[w.heap.size + 1 + 1]? = some (.cells #[y1, y2] 27) := (hb.block _ (by omega)).trans (by
    simp only [w3, heap_alloc_at, World.size_alloc]; repeat (first | rw [if_pos trivial] | rw [if_neg (by omega)]))
  refine ⟨⟨?_, ?_, ?_⟩, ⟨?_, ?_⟩, ⟨?_, ?_⟩, by simpa [w3] using hs⟩
  · rw [cell_of_row w1 _ 0 _ _ _ h0]; rfl
  · rw [cell_of_row w1 _ 1 _ _ _ h0]; rfl
  · rw [cell_of_row w1 _ 2 _ _ _ h0]; rfl
  · rw [cell_of_row w1 _ 0 _ _ _ h1]; rfl
  · rw [cell_of_row w1 _ 1 _ _ _ h1]; rfl
  · rw [cell_of_row w1 _ 0 _ _ _ h2]; rfl
  · rw [cell_of_row w1 _ 1 _ _ _ h2]; rfl
theorem w3_below (w : World) (t1 t2 t3 x1 x2 y1 y2 : Value) : Below w.heap.size w (w3 w t1 t2 t3 x1 x2 y1 y2) := (((Below.refl _ w).alloc (Nat.le_refl _) _).alloc (by simp) _).alloc (by simp; omega) _
theorem w3_size (w : World) (t1 t2 t3 x1 x2 y1 y2 : Value) : (w3 w t1 t2 t3 x1 x2 y1 y2).heap.size = w.heap.size + 3 := by simp [w3]
theorem w3_le {w : World} {t1 t2 t3 x1 x2 y1 y2 : Value} : w.heap.size ≤ (w3 w t1 t2 t3 x1 x2 y1 y2).heap.size := by rw [w3_size]; omega
theorem w3_le3 {w : World} {t1 t2 t3 x1 x2 y1 y2 : Value} : w.heap.size + 3 ≤ (w3 w t1 t2 t3 x1 x2 y1 y2).heap.size := by rw [w3_size]; omega
def cpErr (xs ys : List Int) (vs : List (List Int)) (x y : Int × Int) : Int :=
  if tabB xs ys vs then (if spErr [x, y] != 0 then spErr [x, y] else if liesB xs x && liesB ys y then 0 else 1) else 11
theorem spErr_or (l : List (Int × Int)) : spErr l = 0 ∨ spErr l = 10 := by unfold spErr; split <;> simp
set_option maxHeartbeats 1000000 in
theorem checkPoints_any (xs ys : List Int) (vs : List (List Int)) (X Y V : Option Addr) (cx cy cv : Nat) (x y : Int × Int) (w : World) (hS : TSz xs ys vs) (hR : TabR w X Y V cx cy cv xs ys vs) :
   Calls Try.prog 66 #[.agg #[.slice X xs.length cx, .slice Y ys.length cy, .slice V vs.length cv], .agg #[.int .i64 x.1, .int .i64 x.2], .agg #[.int .i64 y.1, .int .i64 y.2]] w fun e w' => e = .returned (.int .i64 (cpErr xs ys vs x y)) ∧ Below w.heap.size w w' := by
  obtain ⟨xl, xh⟩ := x
  obtain ⟨yl, yh⟩ := y
  have HRR := Lib.hid hR
  have HS := Lib.hid hS
  have HB0 := Lib.hid (w3_below w (.slice X xs.length cx) (.slice Y ys.length cy) (.slice V vs.length cv) (.int .i64 xl) (.int .i64 xh) (.int .i64 yl) (.int .i64 yh))
  clear hR hS
  show Calls Try.prog 66 #[.agg #[.slice X xs.length cx, .slice Y ys.length cy, .slice V vs.length cv], .agg #[.int .i64 xl, .int .i64 xh], .agg #[.int .i64 yl, .int .i64 yh]] w _
  by_cases ht : tabB xs ys vs = true
  · have HT := Lib.hid ht
    have HTe : Hid (tabErr xs ys vs = 0) := by unfold Hid tabErr; rw [if_pos ht]
    have hC : cpErr xs ys vs (xl, xh) (yl, yh) = if spErr [(xl, xh), (yl, yh)] != 0 then spErr [(xl, xh), (yl, yh)] else if liesB xs (xl, xh) && liesB ys (yl, yh) then 0 else 1 := by unfold cpErr; rw [if_pos ht]
    have HC := Lib.hid hC
    have hx2 := (tbl_of ht).ax.two
    have hx12 := (tbl_of ht).ax.twelve
    have hy2 := (tbl_of ht).ay.two
    have hy12 := (tbl_of ht).ay.twelve
    clear ht hC
    go_enter Try.func66, Try.ntmps66
    go_wp2_with fail
    refine (checkTableR xs ys vs X Y V cx cy cv _ HS.out (HRR.out.below HB0.out)).mono ?_
    rintro e w1 ⟨rfl, hb1⟩
    rw [HTe.out]
    have HB1 := Lib.hid hb1
    obtain ⟨⟨a1, a2, a3⟩, ⟨a4, a5⟩, ⟨a6, a7⟩, hz⟩ := boxes3 (N := w.heap.size + 3) (hb1.mono w3_le3) (by omega)
    clear hb1
    go_wp2_with fail
    refine (spanned_any _ [(xl, xh), (yl, yh)] 2 _ (by simp) (sps_new2 _ _ _ _ _ _ _ rfl)).mono ?_
    rintro e w2 ⟨rfl, hb2⟩
    have hb3 : Below w1.heap.size w1 w2 := ((Below.refl _ w1).alloc (Nat.le_refl _) _).trans (hb2.mono (by simp))
    have HB2 := Lib.hid (HB1.out.trans (hb3.mono HB1.out.size))
    clear a1 a2 a3 a4 a5 a6 a7 hz hb2 hb3
    obtain ⟨⟨a1, a2, a3⟩, ⟨a4, a5⟩, ⟨a6, a7⟩, hz⟩ := boxes3 (N := w.heap.size + 3) (HB2.out.mono w3_le3) (by omega)
    by_cases hs : (spErr [(xl, xh), (yl, yh)] != 0) = true
    · have R : Hid (cpErr xs ys vs (xl, xh) (yl, yh) = spErr [(xl, xh), (yl, yh)]) := by unfold Hid; rw [HC.out, if_pos hs]
      generalize spErr [(xl, xh), (yl, yh)] = sp at *
      go_wp2_with fail
      go_ret
      exact ⟨by rw [R.out]; rfl, HB0.out.trans (HB2.out.mono w3_le)⟩
    · have hs0 : (spErr [(xl, xh), (yl, yh)] != 0) = false := by simpa using hs
      have R : Hid (cpErr xs ys vs (xl, xh) (yl, yh) = if liesB xs (xl, xh) && liesB ys (yl, yh) then 0 else 1) := by unfold Hid; rw [HC.out, if_neg hs]
      have hs1 : spErr [(xl, xh), (yl, yh)] = 0 := by simpa using hs0
      rw [hs1]
      clear hs hs0 hs1 HC
      go_wp2_with fail
      refine (lies_any X xs cx xl xh _ (by omega) (by omega) ((HRR.out.hX.below HB0.out).below HB2.out)).mono ?_
      rintro e w4 ⟨rfl, hb3⟩
      have HB4 := Lib.hid (HB2.out.trans (hb3.mono HB2.out.size))
      clear a1 a2 a3 a4 a5 a6 a7 hz hb3
      obtain ⟨⟨a1, a2, a3⟩, ⟨a4, a5⟩, ⟨a6, a7⟩, hz⟩ := boxes3 (N := w.heap.size + 3) (HB4.out.mono w3_le3) (by omega)
      by_cases h1 : liesB xs (xl, xh) = true
      · rw [h1]
        have H1 := Lib.hid h1
        clear h1
        go_wp2_with fail
        refine (lies_any Y ys cy yl yh _ (by omega) (by omega) ((HRR.out.hY.below HB0.out).below HB4.out)).mono ?_
        rintro e w5 ⟨rfl, hb4⟩
        have HB5 := Lib.hid (HB4.out.trans (hb4.mono HB4.out.size))
        clear hb4
        by_cases h2 : liesB ys (yl, yh) = true
        · rw [h2]
          have H2 := Lib.hid h2
          clear h2
          go_wp2_with fail
          go_ret
          exact ⟨by rw [R.out, H1.out, H2.out]; rfl, HB0.out.trans (HB5.out.mono w3_le)⟩
        · have h2' : liesB ys (yl, yh) = false := by simpa using h2
          rw [h2']
          have H2 := Lib.hid h2'
          clear h2 h2'
          go_wp2_with fail
          go_ret
          exact ⟨by rw [R.out, H1.out, H2.out]; rfl, HB0.out.trans (HB5.out.mono w3_le)⟩
      · have h1' : liesB xs (xl, xh) = false := by simpa using h1
        rw [h1']
        have H1 := Lib.hid h1'
        clear h1 h1'
        go_wp2_with fail
        go_ret
        exact ⟨by rw [R.out, H1.out]; rfl, HB0.out.trans (HB4.out.mono w3_le)⟩
  · have ht' : tabB xs ys vs = false := by simpa using ht
    have HTe : Hid (tabErr xs ys vs = 11) := by unfold Hid tabErr; rw [if_neg ht]
    have HC : Hid (cpErr xs ys vs (xl, xh) (yl, yh) = 11) := by unfold Hid cpErr; rw [if_neg ht]
    clear ht ht'
    go_enter Try.func66, Try.ntmps66
    go_wp2_with fail
    refine (checkTableR xs ys vs X Y V cx cy cv _ HS.out (HRR.out.below HB0.out)).mono ?_
    rintro e w1 ⟨rfl, hb1⟩
    rw [HTe.out]
    have HB1 := Lib.hid (HB0.out.trans (hb1.mono w3_le))
    clear hb1
    go_wp2_with fail
    go_ret
    exact ⟨by rw [HC.out]; rfl, HB1.out⟩
end Go.Proofs.Ytfaiogajaaclcaa
