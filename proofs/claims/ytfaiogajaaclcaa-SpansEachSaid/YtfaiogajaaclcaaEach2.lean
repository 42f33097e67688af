/- The law SpansEach: it returns true; old memory stays. -/
import Derived.Test.YtfaiogajaaclcaaEach
namespace Go.Proofs.Ytfaiogajaaclcaa
open Go.RowKit

set_option maxRecDepth 100000 in
set_option maxHeartbeats 4000000 in
theorem each_any (a1 a2 b1 b2 n0 n1 n2 n3 : Int) (w : World) :
    Calls Try.prog 11 #[.agg #[.int .i64 a1, .int .i64 a2], .agg #[.int .i64 b1, .int .i64 b2], .agg #[.int .i64 n0, .int .i64 n1, .int .i64 n2, .int .i64 n3]] w fun e w' => e = .returned (.bool true) ∧ Below w.heap.size w w' := by
  obtain ⟨W0, hW0⟩ : ∃ W0, (((w.alloc (.cells #[.int .i64 a1, .int .i64 a2] 27)).alloc (.cells #[.int .i64 b1, .int .i64 b2] 27)).alloc (.cells #[.int .i64 n0, .int .i64 n1, .int .i64 n2, .int .i64 n3] 68)) = W0 := ⟨_, rfl⟩
  have HB : Hid (Below w.heap.size w W0) := by
    unfold Hid; rw [← hW0]
    repeat (first | exact Below.refl _ _ | refine Below.alloc ?_ (by simp <;> omega) _)
  have ha : W0.heap[w.heap.size]? = some (.cells #[.int .i64 a1, .int .i64 a2] 27) := by
    rw [← hW0]; simp only [heap_alloc_at, World.size_alloc]; repeat (first | rw [if_pos trivial] | rw [if_neg (by omega)])
  have hb : W0.heap[w.heap.size + 1]? = some (.cells #[.int .i64 b1, .int .i64 b2] 27) := by
    rw [← hW0]; simp only [heap_alloc_at, World.size_alloc]; repeat (first | rw [if_pos trivial] | rw [if_neg (by omega)])
  have hn : W0.heap[w.heap.size + 1 + 1]? = some (.cells #[.int .i64 n0, .int .i64 n1, .int .i64 n2, .int .i64 n3] 68) := by
    rw [← hW0]; simp only [heap_alloc_at, World.size_alloc]; repeat (first | rw [if_pos trivial] | rw [if_neg (by omega)])
  obtain ⟨⟨ca1, ca2⟩, _⟩ := cells2 ha
  obtain ⟨⟨cb1, cb2⟩, _⟩ := cells2 hb
  obtain ⟨⟨cn0, cn1, cn2, cn3⟩, _⟩ := cells4 hn
  have zn := blk_lt hn
  have za := blk_lt ha
  have zb := blk_lt hb
  have HW0 := Lib.hid hW0
  clear hW0 ha hb hn
  go_enter Try.func11, Try.ntmps11
  go_wp2_with fail
  rw [HW0.out]
  refine (rvalid_any (a1, a2) _).mono ?_
  rintro e w1 ⟨rfl, hb1⟩
  replace ca1 := cell_b hb1 ca1
  replace ca2 := cell_b hb1 ca2
  replace cb1 := cell_b hb1 cb1
  replace cb2 := cell_b hb1 cb2
  replace cn0 := cell_b hb1 cn0
  replace cn1 := cell_b hb1 cn1
  replace cn2 := cell_b hb1 cn2
  replace cn3 := cell_b hb1 cn3
  replace HB := Lib.hid (HB.out.trans (hb1.mono HB.out.size))
  replace zn := Nat.lt_of_lt_of_le zn hb1.size; replace za := Nat.lt_of_lt_of_le za hb1.size; replace zb := Nat.lt_of_lt_of_le zb hb1.size
  clear hb1
  by_cases hva : vB (a1, a2) = true
  · rw [hva]
    go_wp2_with fail
    refine (rvalid_any (b1, b2) _).mono ?_
    rintro e w2 ⟨rfl, hb2⟩
    replace ca1 := cell_b hb2 ca1
    replace ca2 := cell_b hb2 ca2
    replace cb1 := cell_b hb2 cb1
    replace cb2 := cell_b hb2 cb2
    replace cn0 := cell_b hb2 cn0
    replace cn1 := cell_b hb2 cn1
    replace cn2 := cell_b hb2 cn2
    replace cn3 := cell_b hb2 cn3
    replace HB := Lib.hid (HB.out.trans (hb2.mono HB.out.size))
    replace zn := Nat.lt_of_lt_of_le zn hb2.size; replace za := Nat.lt_of_lt_of_le za hb2.size; replace zb := Nat.lt_of_lt_of_le zb hb2.size
    clear hb2
    by_cases hvb : vB (b1, b2) = true
    · rw [hvb]
      have HVA := Lib.hid hva
      have HVB := Lib.hid hvb
      obtain ⟨g1, g2, g3⟩ := vB_iff.1 hva
      obtain ⟨g4, g5, g6⟩ := vB_iff.1 hvb
      simp only at g1 g2 g3 g4 g5 g6
      obtain ⟨x1, x2⟩ := inSp_bd n0 a1 a2 g2
      obtain ⟨y1, y2⟩ := inSp_bd n1 b1 b2 g5
      clear hva hvb
      go_wp2_with fail
      replace HB := Lib.hid (HB.out.drew)
      go_region_held3 (fun w' => (w'.cell? ⟨w.heap.size, 0, none⟩ = some (.int .i64 a1) ∧ w'.cell? ⟨w.heap.size, 1, none⟩ = some (.int .i64 a2)) ∧ (w'.cell? ⟨w.heap.size + 1, 0, none⟩ = some (.int .i64 b1) ∧ w'.cell? ⟨w.heap.size + 1, 1, none⟩ = some (.int .i64 b2)) ∧ w'.cell? ⟨w.heap.size + 1 + 1, 0, none⟩ = some (.int .i64 n0) ∧ w'.cell? ⟨w.heap.size + 1 + 1, 1, none⟩ = some (.int .i64 n1)) (exact ⟨⟨ca1, ca2⟩, ⟨cb1, cb2⟩, cn0, cn1⟩)
        (first | (go_at_call 42; refine (lwithin_any _ _ _ _ (by omega) (by omega) (by omega)).mono ?_; rintro e w5 ⟨rfl, hb5⟩; replace ca1 := cell_b hb5 ca1; replace ca2 := cell_b hb5 ca2; replace cb1 := cell_b hb5 cb1; replace cb2 := cell_b hb5 cb2; replace cn0 := cell_b hb5 cn0; replace cn1 := cell_b hb5 cn1; replace cn2 := cell_b hb5 cn2; replace cn3 := cell_b hb5 cn3; replace HB := Lib.hid (HB.out.trans (hb5.mono HB.out.size)); replace zn := Nat.lt_of_lt_of_le zn hb5.size; replace za := Nat.lt_of_lt_of_le za hb5.size; replace zb := Nat.lt_of_lt_of_le zb hb5.size; clear hb5))
      generalize inSp n0 a1 a2 = x at *
      generalize inSp n1 b1 b2 = y at *
      have mxy := mul_abs (a := x) (b := y) (M := 1000000) (N := 1000000) (by omega) (by omega) (by omega) (by omega) (by omega) (by omega)
      go_wp2_with fail
      refine (add_any (a1, a2) (b1, b2) _).mono ?_
      rintro e w6 ⟨rfl, hb6⟩
      generalize hS : addR (a1, a2) (b1, b2) = S
      obtain ⟨⟨s1, s2⟩, se⟩ := S
      have hadd := add_cases HVA.out HVB.out hS
      simp only at hadd
      replace ca1 := cell_b hb6 ca1
      replace ca2 := cell_b hb6 ca2
      replace cb1 := cell_b hb6 cb1
      replace cb2 := cell_b hb6 cb2
      replace cn2 := cell_b hb6 cn2
      replace cn3 := cell_b hb6 cn3
      replace HB := Lib.hid (HB.out.trans (hb6.mono HB.out.size))
      replace zn := Nat.lt_of_lt_of_le zn hb6.size; replace za := Nat.lt_of_lt_of_le za hb6.size; replace zb := Nat.lt_of_lt_of_le zb hb6.size
      have HS0 := Lib.hid (blk_new w6 (.cells #[.int .i64 s1, .int .i64 s2] 27))
      have HADD := Lib.hid hadd
      clear hb6 hS hadd cn0 cn1
      go_wp2_with fail
      refine (times_any (a1, a2) (b1, b2) _).mono ?_
      rintro e w7 ⟨rfl, hb7⟩
      generalize hP : timesR (a1, a2) (b1, b2) = P
      obtain ⟨⟨p1, p2⟩, pe⟩ := P
      have htim := times_cases HVA.out HVB.out hP x1 x2 y1 y2
      simp only at htim
      have hb7' := ((Below.refl _ w6).alloc (Nat.le_refl _) (.cells #[.int .i64 s1, .int .i64 s2] 27)).trans (hb7.mono (by simp))
      replace ca1 := cell_b hb7' ca1
      replace ca2 := cell_b hb7' ca2
      replace cb1 := cell_b hb7' cb1
      replace cb2 := cell_b hb7' cb2
      replace cn2 := cell_b hb7' cn2
      replace cn3 := cell_b hb7' cn3
      replace HB := Lib.hid (HB.out.trans (hb7'.mono HB.out.size))
      replace zn := Nat.lt_of_lt_of_le zn hb7'.size; replace za := Nat.lt_of_lt_of_le za hb7'.size; replace zb := Nat.lt_of_lt_of_le zb hb7'.size
      replace HS0 := Lib.hid (blk hb7 HS0.out)
      obtain ⟨⟨cs1, cs2⟩, _⟩ := cells2 HS0.out
      have zs := blk_lt HS0.out
      have HP0 := Lib.hid (blk_new w7 (.cells #[.int .i64 p1, .int .i64 p2] 27))
      have HTIM := Lib.hid htim
      clear hb7 hb7' hP htim
      have hadd := HADD.out
      rcases hadd with ⟨rfl, rfl, rfl⟩ | rfl
      all_goals
        have htim := HTIM.out
        rcases htim with ⟨rfl, t1, t2, t3, t4⟩ | rfl
        · have T3 := Lib.hid t3
          have T4 := Lib.hid t4
          clear t3 t4
          go_wp2_with fail
          refine (product_any p1 a1 a2 b1 b2 _ g1 g2 g3 g4 g5 g6 T3.out).mono ?_
          rintro e w8 ⟨rfl, hb8⟩
          have hb8' := ((Below.refl _ w7).alloc (Nat.le_refl _) (.cells #[.int .i64 p1, .int .i64 p2] 27)).trans (hb8.mono (by simp))
          replace ca1 := cell_b hb8' ca1
          replace ca2 := cell_b hb8' ca2
          replace cb1 := cell_b hb8' cb1
          replace cb2 := cell_b hb8' cb2
          replace cn2 := cell_b hb8' cn2
          replace cn3 := cell_b hb8' cn3
          replace HB := Lib.hid (HB.out.trans (hb8'.mono HB.out.size)); replace zn := Nat.lt_of_lt_of_le zn hb8'.size; replace za := Nat.lt_of_lt_of_le za hb8'.size; replace zb := Nat.lt_of_lt_of_le zb hb8'.size
          replace HP0 := Lib.hid (blk hb8 HP0.out)
          obtain ⟨⟨cp1, cp2⟩, _⟩ := cells2 HP0.out
          clear hb8 hb8' cs1 cs2
          go_wp2_with fail
          refine (product_any p2 a1 a2 b1 b2 _ g1 g2 g3 g4 g5 g6 T4.out).mono ?_
          rintro e w9 ⟨rfl, hb9⟩
          replace ca1 := cell_b hb9 ca1
          replace ca2 := cell_b hb9 ca2
          replace cb1 := cell_b hb9 cb1
          replace cb2 := cell_b hb9 cb2
          replace cn2 := cell_b hb9 cn2
          replace cn3 := cell_b hb9 cn3
          replace HB := Lib.hid (HB.out.trans (hb9.mono HB.out.size)); replace zn := Nat.lt_of_lt_of_le zn hb9.size; replace za := Nat.lt_of_lt_of_le za hb9.size; replace zb := Nat.lt_of_lt_of_le zb hb9.size
          clear hb9 cp1 cp2
          go_wp2_with fail
          replace HB := Lib.hid (HB.out.drew)
          go_region_held3 (fun w' => w'.cell? ⟨w.heap.size + 1 + 1, 2, none⟩ = some (.int .i64 n2) ∧ w'.cell? ⟨w.heap.size + 1 + 1, 3, none⟩ = some (.int .i64 n3)) (exact ⟨cn2, cn3⟩)
            (first | (go_at_call 42; refine (lwithin_any _ _ _ _ (by omega) (by omega) (by omega)).mono ?_; rintro e w5 ⟨rfl, hb5⟩; replace ca1 := cell_b hb5 ca1; replace ca2 := cell_b hb5 ca2; replace cb1 := cell_b hb5 cb1; replace cb2 := cell_b hb5 cb2; replace cn2 := cell_b hb5 cn2; replace cn3 := cell_b hb5 cn3; replace HB := Lib.hid (HB.out.trans (hb5.mono HB.out.size)); replace za := Nat.lt_of_lt_of_le za hb5.size; clear hb5))
          obtain ⟨nu1, nu2⟩ := inSp_bd n2 0 1000 (by omega)
          obtain ⟨de1, de2⟩ := inSp_bd n3 1 1000 (by omega)
          generalize inSp n2 0 1000 = num at *
          generalize inSp n3 1 1000 = den at *
          go_wp2_with fail
          refine (part_any (a1, a2) num den _).mono ?_
          rintro e w8 ⟨rfl, hb8⟩
          generalize hQ : partR (a1, a2) num den = Q
          obtain ⟨⟨q1, q2⟩, qe⟩ := Q
          have hpart := part_cases HVA.out hQ nu1 nu2 de1 de2 x1 x2
          simp only at hpart
          replace HB := Lib.hid (HB.out.trans (hb8.mono HB.out.size))
          clear hb8 hQ ca1 ca2 cb1 cb2 cn2 cn3
          rcases hpart with ⟨rfl, u1, u2, u3, u4, u5, u6⟩ | rfl
          · have mq1 := mul_abs (a := q1) (b := den) (M := 1000000) (N := 1000) (by omega) (by omega) (by omega) (by omega) (by omega) (by omega)
            have mq2 := mul_abs (a := q2) (b := den) (M := 1000000) (N := 1000) (by omega) (by omega) (by omega) (by omega) (by omega) (by omega)
            have mx1 := mul_abs (a := x) (b := num) (M := 1000000) (N := 1000) (by omega) (by omega) (by omega) (by omega) (by omega) (by omega)
            go_wp2_with fail
            refine (works_any _).mono ?_
            rintro e wz ⟨rfl, hbz⟩
            replace HB := Lib.hid ((below_alloc HB.out _).trans (hbz.mono (below_alloc HB.out _).size))
            clear hbz
            go_wp2_with fail
            go_ret
            exact ⟨rfl, HB.out⟩
          · go_wp2_with fail
            refine (works_any _).mono ?_
            rintro e wz ⟨rfl, hbz⟩
            replace HB := Lib.hid ((below_alloc HB.out _).trans (hbz.mono (below_alloc HB.out _).size))
            clear hbz
            go_wp2_with fail
            go_ret
            exact ⟨rfl, HB.out⟩
        · have hal := (Below.refl _ w7).alloc (Nat.le_refl _) (.cells #[.int .i64 p1, .int .i64 p2] 27)
          go_wp2_with fail
          replace ca1 := cell_b hal ca1
          replace ca2 := cell_b hal ca2
          replace cb1 := cell_b hal cb1
          replace cb2 := cell_b hal cb2
          replace cn2 := cell_b hal cn2
          replace cn3 := cell_b hal cn3
          replace HB := Lib.hid (HB.out.trans (hal.mono HB.out.size)); replace zn := Nat.lt_of_lt_of_le zn hal.size; replace za := Nat.lt_of_lt_of_le za hal.size; replace zb := Nat.lt_of_lt_of_le zb hal.size
          clear hal cs1 cs2
          go_wp2_with fail
          replace HB := Lib.hid (HB.out.drew)
          go_region_held3 (fun w' => w'.cell? ⟨w.heap.size + 1 + 1, 2, none⟩ = some (.int .i64 n2) ∧ w'.cell? ⟨w.heap.size + 1 + 1, 3, none⟩ = some (.int .i64 n3)) (exact ⟨cn2, cn3⟩)
            (first | (go_at_call 42; refine (lwithin_any _ _ _ _ (by omega) (by omega) (by omega)).mono ?_; rintro e w5 ⟨rfl, hb5⟩; replace ca1 := cell_b hb5 ca1; replace ca2 := cell_b hb5 ca2; replace cb1 := cell_b hb5 cb1; replace cb2 := cell_b hb5 cb2; replace cn2 := cell_b hb5 cn2; replace cn3 := cell_b hb5 cn3; replace HB := Lib.hid (HB.out.trans (hb5.mono HB.out.size)); replace za := Nat.lt_of_lt_of_le za hb5.size; clear hb5))
          obtain ⟨nu1, nu2⟩ := inSp_bd n2 0 1000 (by omega)
          obtain ⟨de1, de2⟩ := inSp_bd n3 1 1000 (by omega)
          generalize inSp n2 0 1000 = num at *
          generalize inSp n3 1 1000 = den at *
          go_wp2_with fail
          refine (part_any (a1, a2) num den _).mono ?_
          rintro e w8 ⟨rfl, hb8⟩
          generalize hQ : partR (a1, a2) num den = Q
          obtain ⟨⟨q1, q2⟩, qe⟩ := Q
          have hpart := part_cases HVA.out hQ nu1 nu2 de1 de2 x1 x2
          simp only at hpart
          replace HB := Lib.hid (HB.out.trans (hb8.mono HB.out.size))
          clear hb8 hQ ca1 ca2 cb1 cb2 cn2 cn3
          rcases hpart with ⟨rfl, u1, u2, u3, u4, u5, u6⟩ | rfl
          · have mq1 := mul_abs (a := q1) (b := den) (M := 1000000) (N := 1000) (by omega) (by omega) (by omega) (by omega) (by omega) (by omega)
            have mq2 := mul_abs (a := q2) (b := den) (M := 1000000) (N := 1000) (by omega) (by omega) (by omega) (by omega) (by omega) (by omega)
            have mx1 := mul_abs (a := x) (b := num) (M := 1000000) (N := 1000) (by omega) (by omega) (by omega) (by omega) (by omega) (by omega)
            go_wp2_with fail
            refine (works_any _).mono ?_
            rintro e wz ⟨rfl, hbz⟩
            replace HB := Lib.hid ((below_alloc HB.out _).trans (hbz.mono (below_alloc HB.out _).size))
            clear hbz
            go_wp2_with fail
            go_ret
            exact ⟨rfl, HB.out⟩
          · go_wp2_with fail
            refine (works_any _).mono ?_
            rintro e wz ⟨rfl, hbz⟩
            replace HB := Lib.hid ((below_alloc HB.out _).trans (hbz.mono (below_alloc HB.out _).size))
            clear hbz
            go_wp2_with fail
            go_ret
            exact ⟨rfl, HB.out⟩
    · have hvb' : vB (b1, b2) = false := by simpa using hvb
      rw [hvb']
      clear hvb hvb' hva
      go_wp2_with fail
      refine (works_any _).mono ?_
      rintro e w9 ⟨rfl, hb9⟩
      replace HB := Lib.hid (HB.out.trans (hb9.mono HB.out.size))
      clear hb9
      go_wp2_with fail
      go_ret
      exact ⟨rfl, HB.out⟩
  · have hva' : vB (a1, a2) = false := by simpa using hva
    rw [hva']
    clear hva hva'
    go_wp2_with fail
    refine (works_any _).mono ?_
    rintro e w9 ⟨rfl, hb9⟩
    replace HB := Lib.hid (HB.out.trans (hb9.mono HB.out.size))
    clear hb9
    go_wp2_with fail
    go_ret
    exact ⟨rfl, HB.out⟩
end Go.Proofs.Ytfaiogajaaclcaa
