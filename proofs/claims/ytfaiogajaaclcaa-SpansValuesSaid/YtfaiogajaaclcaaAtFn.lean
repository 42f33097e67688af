/- The contracts of spans.At and of the reference's At. -/
import Derived.Test.YtfaiogajaaclcaaFrac
import Derived.Test.YtfaiogajaaclcaaTref2
import Derived.Test.YtfaiogajaaclcaaSp2
namespace Go.Proofs.Ytfaiogajaaclcaa
open Go.RowKit

def atR (xs ys : List Int) (vs : List (List Int)) (x y : Int) : (Int × Int) × Int :=
  if tabB xs ys vs then (if liesB xs (x, x) && liesB ys (y, y) then ((atN xs ys vs x y / atD xs ys x y, -(-atN xs ys vs x y / atD xs ys x y)), 0) else ((0, 0), 1)) else ((0, 0), 11)
set_option maxRecDepth 100000 in
set_option maxHeartbeats 2000000 in
theorem atFn_any (xs ys : List Int) (vs : List (List Int)) (X Y V : Option Addr) (cx cy cv : Nat) (x y : Int) (w : World) (hS : TSz xs ys vs) (hSM : TSm xs ys vs) (hR : TabR w X Y V cx cy cv xs ys vs) :
   Calls Try.prog 31 #[.agg #[.slice X xs.length cx, .slice Y ys.length cy, .slice V vs.length cv], .int .i64 x, .int .i64 y] w fun e w' =>
     e = .returned (.tuple #[.agg #[.int .i64 (atR xs ys vs x y).1.1, .int .i64 (atR xs ys vs x y).1.2], .int .i64 (atR xs ys vs x y).2]) ∧ Below w.heap.size w w' := by
  have HS := Lib.hid hS
  have HSM := Lib.hid hSM
  have HE : Hid (atR xs ys vs x y = if tabB xs ys vs then (if liesB xs (x, x) && liesB ys (y, y) then ((atN xs ys vs x y / atD xs ys x y, -(-atN xs ys vs x y / atD xs ys x y)), 0) else ((0, 0), 1)) else ((0, 0), 11)) := rfl
  obtain ⟨W0, hW0⟩ : ∃ W0, ((w.alloc (.cells #[.slice X xs.length cx, .slice Y ys.length cy, .slice V vs.length cv] 25)).alloc (.cells #[.int .i64 0, .int .i64 0] 27)) = W0 := ⟨_, rfl⟩
  have HB : Hid (Below w.heap.size w W0) := by
    unfold Hid; rw [← hW0]
    repeat (first | exact Below.refl _ _ | refine Below.alloc ?_ (by simp <;> omega) _)
  have ha : W0.heap[w.heap.size]? = some (.cells #[.slice X xs.length cx, .slice Y ys.length cy, .slice V vs.length cv] 25) := by
    rw [← hW0]; simp only [heap_alloc_at, World.size_alloc]; repeat (first | rw [if_pos trivial] | rw [if_neg (by omega)])
  have hb : W0.heap[w.heap.size + 1]? = some (.cells #[.int .i64 0, .int .i64 0] 27) := by
    rw [← hW0]; simp only [heap_alloc_at, World.size_alloc]; repeat (first | rw [if_pos trivial] | rw [if_neg (by omega)])
  have HR := Lib.hid (hR.below HB.out)
  have HW0 := Lib.hid hW0
  obtain ⟨⟨c0, c1, c2⟩, _⟩ := cells3 ha
  obtain ⟨⟨d0, d1⟩, f0, f1⟩ := cells2 hb
  have zb := blk_lt hb
  clear hW0 ha hb hS hSM hR
  go_enter Try.func31, Try.ntmps31
  go_wp2_with fail
  rw [HW0.out]
  refine (checkTableR xs ys vs X Y V cx cy cv _ HS.out HR.out).mono ?_
  rintro e w1 ⟨rfl, hb1⟩
  replace c0 := cell_b hb1 c0
  replace c1 := cell_b hb1 c1
  replace c2 := cell_b hb1 c2
  replace f0 := froz_b hb1 d0 f0
  replace f1 := froz_b hb1 d1 f1
  replace d0 := cell_b hb1 d0
  replace d1 := cell_b hb1 d1
  replace zb := Nat.lt_of_lt_of_le zb hb1.size
  replace HR := Lib.hid (HR.out.below hb1)
  replace HB := Lib.hid (HB.out.trans (hb1.mono HB.out.size))
  clear hb1
  by_cases ht : tabB xs ys vs = true
  · have HT := Lib.hid (tbl_of ht)
    have hte : tabErr xs ys vs = 0 := by unfold tabErr; rw [if_pos ht]
    rw [hte]
    rw [if_pos ht] at HE
    have hx2 := (tbl_of ht).ax.two
    have hx12 := (tbl_of ht).ax.twelve
    have hy2 := (tbl_of ht).ay.two
    have hy12 := (tbl_of ht).ay.twelve
    clear ht hte
    go_wp2_with fail
    refine (lies_any X xs cx x x _ (by omega) (by omega) HR.out.hX).mono ?_
    rintro e w2 ⟨rfl, hb2⟩
    replace c0 := cell_b hb2 c0
    replace c1 := cell_b hb2 c1
    replace c2 := cell_b hb2 c2
    replace f0 := froz_b hb2 d0 f0
    replace f1 := froz_b hb2 d1 f1
    replace d0 := cell_b hb2 d0
    replace d1 := cell_b hb2 d1
    replace zb := Nat.lt_of_lt_of_le zb hb2.size
    replace HR := Lib.hid (HR.out.below hb2)
    replace HB := Lib.hid (HB.out.trans (hb2.mono HB.out.size))
    clear hb2
    by_cases l1 : liesB xs (x, x) = true
    · rw [l1]
      have L1 := Lib.hid l1
      clear l1
      go_wp2_with fail
      refine (lies_any Y ys cy y y _ (by omega) (by omega) HR.out.hY).mono ?_
      rintro e w3 ⟨rfl, hb3⟩
      replace c0 := cell_b hb3 c0
      replace c1 := cell_b hb3 c1
      replace c2 := cell_b hb3 c2
      replace f0 := froz_b hb3 d0 f0
      replace f1 := froz_b hb3 d1 f1
      replace d0 := cell_b hb3 d0
      replace d1 := cell_b hb3 d1
      replace zb := Nat.lt_of_lt_of_le zb hb3.size
      replace HR := Lib.hid (HR.out.below hb3)
      replace HB := Lib.hid (HB.out.trans (hb3.mono HB.out.size))
      clear hb3
      by_cases l2 : liesB ys (y, y) = true
      · rw [l2]
        have hox : OnAx xs x := liesB_iff.1 L1.out
        have hoy : OnAx ys y := liesB_iff.1 l2
        have HOX := Lib.hid hox
        have HOY := Lib.hid hoy
        rw [L1.out, l2] at HE
        replace HE : Hid (atR xs ys vs x y = ((atN xs ys vs x y / atD xs ys x y, -(-atN xs ys vs x y / atD xs ys x y)), 0)) := HE.out
        clear l2 hox hoy
        have vb := at_bd HT.out HOX.out HOY.out
        go_wp2_with fail
        refine (at_any xs ys vs X Y V cx cy cv x y _ HT.out HR.out HOX.out HOY.out).mono ?_
        rintro e w4 ⟨rfl, hb4⟩
        generalize atN xs ys vs x y = n at *
        generalize atD xs ys x y = d at *
        replace c0 := cell_b hb4 c0
        replace c1 := cell_b hb4 c1
        replace c2 := cell_b hb4 c2
        replace f0 := froz_b hb4 d0 f0
        replace f1 := froz_b hb4 d1 f1
        replace d0 := cell_b hb4 d0
        replace d1 := cell_b hb4 d1
        replace zb := Nat.lt_of_lt_of_le zb hb4.size
        replace HR := Lib.hid (HR.out.below hb4)
        replace HB := Lib.hid (HB.out.trans (hb4.mono HB.out.size))
        clear hb4
        go_wp2_with fail
        refine wp_region_tail 11 (by kernel_rfl) (by kernel_rfl) ?_
        simp only [List.take_succ_cons, List.take_zero, List.drop_succ_cons, List.drop_zero]
        iterate 4 still_step
        still_call (floor_any _ _ _ (by omega) (by omega) (by omega) (by omega))
        iterate 4 still_step
        still_call (ceil_any _ _ _ (by omega) (by omega) (by omega) (by omega))
        still_step
        refine wpStill_nil ?_
        go_wp2_with fail
        refine bodyPost_ret (v := .tuple #[.agg #[.int .i64 (n / d), .int .i64 (-(-n / d))], .int .i64 0]) (by simp [results, Try.results31, go_sem, d0, d1, zb]) rfl ⟨by rw [HE.out], ?_⟩
        exact (below_alloc (set2_below HB.out (by omega) _ _) _).drew
      · have l2' : liesB ys (y, y) = false := by simpa using l2
        rw [l2']
        rw [L1.out, l2'] at HE
        replace HE : Hid (atR xs ys vs x y = ((0, 0), 1)) := HE.out
        clear l2 l2'
        go_wp2_with fail
        refine bodyPost_ret (v := .tuple #[.agg #[.int .i64 0, .int .i64 0], .int .i64 1]) (by simp [results, Try.results31, go_sem, d0, d1]) rfl ⟨by rw [HE.out], set2_below HB.out (by omega) _ _⟩
    · have l1' : liesB xs (x, x) = false := by simpa using l1
      rw [l1']
      rw [l1'] at HE
      replace HE : Hid (atR xs ys vs x y = ((0, 0), 1)) := HE.out
      clear l1 l1'
      go_wp2_with fail
      refine bodyPost_ret (v := .tuple #[.agg #[.int .i64 0, .int .i64 0], .int .i64 1]) (by simp [results, Try.results31, go_sem, d0, d1]) rfl ⟨by rw [HE.out], set2_below HB.out (by omega) _ _⟩
  · have hte : tabErr xs ys vs = 11 := by unfold tabErr; rw [if_neg ht]
    rw [hte]
    rw [if_neg ht] at HE
    clear ht hte
    go_wp2_with fail
    refine bodyPost_ret (v := .tuple #[.agg #[.int .i64 0, .int .i64 0], .int .i64 11]) (by simp [results, Try.results31, go_sem, d0, d1]) rfl ⟨by rw [HE.out], set2_below HB.out (by omega) _ _⟩
set_option maxRecDepth 100000 in
set_option maxHeartbeats 2000000 in
theorem ratFn_any (xs ys : List Int) (vs : List (List Int)) (X Y V : Option Addr) (cx cy cv : Nat) (x y : Int) (w : World) (hS : TSz xs ys vs) (hSM : TSm xs ys vs) (hR : TabR w X Y V cx cy cv xs ys vs) :
   Calls Try.prog 32 #[.agg #[.slice X xs.length cx, .slice Y ys.length cy, .slice V vs.length cv], .int .i64 x, .int .i64 y] w fun e w' =>
     e = .returned (.tuple #[.agg #[.int .i64 (atR xs ys vs x y).1.1, .int .i64 (atR xs ys vs x y).1.2], .int .i64 (atR xs ys vs x y).2]) ∧ Below w.heap.size w w' := by
  have HS := Lib.hid hS
  have HSM := Lib.hid hSM
  have HE : Hid (atR xs ys vs x y = if tabB xs ys vs then (if liesB xs (x, x) && liesB ys (y, y) then ((atN xs ys vs x y / atD xs ys x y, -(-atN xs ys vs x y / atD xs ys x y)), 0) else ((0, 0), 1)) else ((0, 0), 11)) := rfl
  obtain ⟨W0, hW0⟩ : ∃ W0, ((w.alloc (.cells #[.slice X xs.length cx, .slice Y ys.length cy, .slice V vs.length cv] 25)).alloc (.cells #[.int .i64 0, .int .i64 0] 27)) = W0 := ⟨_, rfl⟩
  have HB : Hid (Below w.heap.size w W0) := by
    unfold Hid; rw [← hW0]
    repeat (first | exact Below.refl _ _ | refine Below.alloc ?_ (by simp <;> omega) _)
  have ha : W0.heap[w.heap.size]? = some (.cells #[.slice X xs.length cx, .slice Y ys.length cy, .slice V vs.length cv] 25) := by
    rw [← hW0]; simp only [heap_alloc_at, World.size_alloc]; repeat (first | rw [if_pos trivial] | rw [if_neg (by omega)])
  have hb : W0.heap[w.heap.size + 1]? = some (.cells #[.int .i64 0, .int .i64 0] 27) := by
    rw [← hW0]; simp only [heap_alloc_at, World.size_alloc]; repeat (first | rw [if_pos trivial] | rw [if_neg (by omega)])
  have HR := Lib.hid (hR.below HB.out)
  have HW0 := Lib.hid hW0
  obtain ⟨⟨c0, c1, c2⟩, _⟩ := cells3 ha
  obtain ⟨⟨d0, d1⟩, f0, f1⟩ := cells2 hb
  have zb := blk_lt hb
  clear hW0 ha hb hS hSM hR
  go_enter Try.func32, Try.ntmps32
  go_wp2_with fail
  rw [HW0.out]
  refine (rcheckTable_any xs ys vs X Y V cx cy cv _ HSM.out HR.out).mono ?_
  rintro e w1 ⟨rfl, hb1⟩
  replace c0 := cell_b hb1 c0
  replace c1 := cell_b hb1 c1
  replace c2 := cell_b hb1 c2
  replace f0 := froz_b hb1 d0 f0
  replace f1 := froz_b hb1 d1 f1
  replace d0 := cell_b hb1 d0
  replace d1 := cell_b hb1 d1
  replace zb := Nat.lt_of_lt_of_le zb hb1.size
  replace HR := Lib.hid (HR.out.below hb1)
  replace HB := Lib.hid (HB.out.trans (hb1.mono HB.out.size))
  clear hb1
  by_cases ht : tabB xs ys vs = true
  · have HT := Lib.hid (tbl_of ht)
    have hte : tabErr xs ys vs = 0 := by unfold tabErr; rw [if_pos ht]
    rw [hte]
    rw [if_pos ht] at HE
    have hx2 := (tbl_of ht).ax.two
    have hx12 := (tbl_of ht).ax.twelve
    have hy2 := (tbl_of ht).ay.two
    have hy12 := (tbl_of ht).ay.twelve
    clear ht hte
    go_wp2_with fail
    refine (between_any X xs cx x x _ (by omega) (by omega) HR.out.hX).mono ?_
    rintro e w2 ⟨rfl, hb2⟩
    replace c0 := cell_b hb2 c0
    replace c1 := cell_b hb2 c1
    replace c2 := cell_b hb2 c2
    replace f0 := froz_b hb2 d0 f0
    replace f1 := froz_b hb2 d1 f1
    replace d0 := cell_b hb2 d0
    replace d1 := cell_b hb2 d1
    replace zb := Nat.lt_of_lt_of_le zb hb2.size
    replace HR := Lib.hid (HR.out.below hb2)
    replace HB := Lib.hid (HB.out.trans (hb2.mono HB.out.size))
    clear hb2
    by_cases l1 : liesB xs (x, x) = true
    · rw [l1]
      have L1 := Lib.hid l1
      clear l1
      go_wp2_with fail
      refine (between_any Y ys cy y y _ (by omega) (by omega) HR.out.hY).mono ?_
      rintro e w3 ⟨rfl, hb3⟩
      replace c0 := cell_b hb3 c0
      replace c1 := cell_b hb3 c1
      replace c2 := cell_b hb3 c2
      replace f0 := froz_b hb3 d0 f0
      replace f1 := froz_b hb3 d1 f1
      replace d0 := cell_b hb3 d0
      replace d1 := cell_b hb3 d1
      replace zb := Nat.lt_of_lt_of_le zb hb3.size
      replace HR := Lib.hid (HR.out.below hb3)
      replace HB := Lib.hid (HB.out.trans (hb3.mono HB.out.size))
      clear hb3
      by_cases l2 : liesB ys (y, y) = true
      · rw [l2]
        have hox : OnAx xs x := liesB_iff.1 L1.out
        have hoy : OnAx ys y := liesB_iff.1 l2
        have HOX := Lib.hid hox
        have HOY := Lib.hid hoy
        rw [L1.out, l2] at HE
        replace HE : Hid (atR xs ys vs x y = ((atN xs ys vs x y / atD xs ys x y, -(-atN xs ys vs x y / atD xs ys x y)), 0)) := HE.out
        clear l2 hox hoy
        rw [floor_cross (at_bd HT.out HOX.out HOY.out).1 (val_bd HT.out HOX.out HOY.out).1 (frac_eq HT.out), ceil_cross (at_bd HT.out HOX.out HOY.out).1 (val_bd HT.out HOX.out HOY.out).1 (frac_eq HT.out)] at HE
        have vb := val_bd HT.out HOX.out HOY.out
        go_wp2_with fail
        refine (value_any xs ys vs X Y V cx cy cv x y _ HT.out HR.out HOX.out HOY.out).mono ?_
        rintro e w4 ⟨rfl, hb4⟩
        generalize valN xs ys vs x y = n at *
        generalize valD xs ys x y = d at *
        replace c0 := cell_b hb4 c0
        replace c1 := cell_b hb4 c1
        replace c2 := cell_b hb4 c2
        replace f0 := froz_b hb4 d0 f0
        replace f1 := froz_b hb4 d1 f1
        replace d0 := cell_b hb4 d0
        replace d1 := cell_b hb4 d1
        replace zb := Nat.lt_of_lt_of_le zb hb4.size
        replace HR := Lib.hid (HR.out.below hb4)
        replace HB := Lib.hid (HB.out.trans (hb4.mono HB.out.size))
        clear hb4
        go_wp2_with fail
        refine (rfloor_any n d _ (by omega) (by omega) (by omega) (by omega)).mono ?_
        rintro e w' ⟨rfl, rfl⟩
        go_wp2_with fail
        refine (rceil_any n d _ (by omega) (by omega) (by omega) (by omega)).mono ?_
        rintro e w' ⟨rfl, rfl⟩
        go_wp2_with fail
        refine bodyPost_ret (v := .tuple #[.agg #[.int .i64 (n / d), .int .i64 (-(-n / d))], .int .i64 0]) (by simp [results, Try.results32, go_sem, d0, d1]) rfl ⟨by rw [HE.out], set2_below HB.out (by omega) _ _⟩
      · have l2' : liesB ys (y, y) = false := by simpa using l2
        rw [l2']
        rw [L1.out, l2'] at HE
        replace HE : Hid (atR xs ys vs x y = ((0, 0), 1)) := HE.out
        clear l2 l2'
        go_wp2_with fail
        refine bodyPost_ret (v := .tuple #[.agg #[.int .i64 0, .int .i64 0], .int .i64 1]) (by simp [results, Try.results32, go_sem, d0, d1]) rfl ⟨by rw [HE.out], set2_below HB.out (by omega) _ _⟩
    · have l1' : liesB xs (x, x) = false := by simpa using l1
      rw [l1']
      rw [l1'] at HE
      replace HE : Hid (atR xs ys vs x y = ((0, 0), 1)) := HE.out
      clear l1 l1'
      go_wp2_with fail
      refine bodyPost_ret (v := .tuple #[.agg #[.int .i64 0, .int .i64 0], .int .i64 1]) (by simp [results, Try.results32, go_sem, d0, d1]) rfl ⟨by rw [HE.out], set2_below HB.out (by omega) _ _⟩
  · have hte : tabErr xs ys vs = 11 := by unfold tabErr; rw [if_neg ht]
    rw [hte]
    rw [if_neg ht] at HE
    clear ht hte
    go_wp2_with fail
    refine bodyPost_ret (v := .tuple #[.agg #[.int .i64 0, .int .i64 0], .int .i64 11]) (by simp [results, Try.results32, go_sem, d0, d1]) rfl ⟨by rw [HE.out], set2_below HB.out (by omega) _ _⟩
end Go.Proofs.Ytfaiogajaaclcaa
