/- The law SpansBounds: it returns true; old memory stays. -/
import Derived.Test.YtfaiogajaaclcaaRb4
import Derived.Test.YtfaiogajaaclcaaChecks
namespace Go.Proofs.Ytfaiogajaaclcaa
open Go.RowKit

def BnMid (r : (Int × Int) × Int) (W1 : World) (s5 s6 : Value) (wx : World) : Prop := ∃ ob, s5 = .pointer (some ⟨ob, 0, none⟩) ∧ s6 = .int .i64 r.2 ∧ wx.cell? ⟨ob, 0, none⟩ = some (.int .i64 r.1.1) ∧ wx.cell? ⟨ob, 1, none⟩ = some (.int .i64 r.1.2) ∧ Below W1.heap.size W1 wx
set_option maxRecDepth 100000 in
set_option maxHeartbeats 4000000 in
theorem bounds_any (xs ys : List Int) (vs : List (List Int)) (X Y V : Option Addr) (cx cy cv : Nat) (xl xh yl yh : Int) (w : World)
   (hS : TSm xs ys vs) (hR : TabR w X Y V cx cy cv xs ys vs) (hN : TabN w X Y V cx cy cv xs ys vs) :
   Calls Try.prog 5 #[.agg #[.slice X xs.length cx, .slice Y ys.length cy, .slice V vs.length cv], .agg #[.int .i64 xl, .int .i64 xh, .int .i64 yl, .int .i64 yh]] w fun e w' => e = .returned (.bool true) ∧ Below w.heap.size w w' := by
  obtain ⟨W0, hW0⟩ : ∃ W0, ((w.alloc (.cells #[.slice X xs.length cx, .slice Y ys.length cy, .slice V vs.length cv] 25)).alloc (.cells #[.int .i64 xl, .int .i64 xh, .int .i64 yl, .int .i64 yh] 43)) = W0 := ⟨_, rfl⟩
  have HB : Hid (Below w.heap.size w W0) := by
    unfold Hid; rw [← hW0]
    repeat (first | exact Below.refl _ _ | refine Below.alloc ?_ (by simp <;> omega) _)
  have ha : W0.heap[w.heap.size]? = some (.cells #[.slice X xs.length cx, .slice Y ys.length cy, .slice V vs.length cv] 25) := by
    rw [← hW0]; simp only [heap_alloc_at, World.size_alloc]; repeat (first | rw [if_pos trivial] | rw [if_neg (by omega)])
  have hb : W0.heap[w.heap.size + 1]? = some (.cells #[.int .i64 xl, .int .i64 xh, .int .i64 yl, .int .i64 yh] 43) := by
    rw [← hW0]; simp only [heap_alloc_at, World.size_alloc]; repeat (first | rw [if_pos trivial] | rw [if_neg (by omega)])
  obtain ⟨⟨c0, c1, c2⟩, _⟩ := cells3 ha
  have p0 : W0.cell? ⟨w.heap.size + 1, 0, none⟩ = some (.int .i64 xl) := by rw [cell_of_row W0 _ 0 _ _ _ hb]; rfl
  have p1 : W0.cell? ⟨w.heap.size + 1, 1, none⟩ = some (.int .i64 xh) := by rw [cell_of_row W0 _ 1 _ _ _ hb]; rfl
  have p2 : W0.cell? ⟨w.heap.size + 1, 2, none⟩ = some (.int .i64 yl) := by rw [cell_of_row W0 _ 2 _ _ _ hb]; rfl
  have p3 : W0.cell? ⟨w.heap.size + 1, 3, none⟩ = some (.int .i64 yh) := by rw [cell_of_row W0 _ 3 _ _ _ hb]; rfl
  have HR := Lib.hid (hR.below HB.out)
  have HN := Lib.hid (hN.below HB.out)
  have HS := Lib.hid hS
  have HW0 := Lib.hid hW0
  clear hW0 ha hb hS hR hN
  go_enter Try.func5, Try.ntmps5
  go_wp2_with fail
  rw [HW0.out]
  refine (far_any xs ys vs X Y V cx cy cv _ HS.out HR.out).mono ?_
  rintro e w1 ⟨rfl, hb1⟩
  replace c0 := cell_b hb1 c0
  replace c1 := cell_b hb1 c1
  replace c2 := cell_b hb1 c2
  replace p0 := cell_b hb1 p0
  replace p1 := cell_b hb1 p1
  replace p2 := cell_b hb1 p2
  replace p3 := cell_b hb1 p3
  replace HR := Lib.hid (HR.out.below hb1)
  replace HN := Lib.hid (HN.out.below hb1)
  replace HB := Lib.hid (HB.out.trans (hb1.mono HB.out.size))
  clear hb1
  by_cases hf : farB xs ys vs = true
  · rw [hf]
    clear hf
    go_wp2_with fail
    refine (works_any _).mono ?_
    rintro e w99 ⟨rfl, hb99⟩
    replace HB := Lib.hid (HB.out.trans (hb99.mono HB.out.size))
    clear hb99
    go_wp2_with fail
    go_ret
    exact ⟨rfl, HB.out⟩
  · have hf' : farB xs ys vs = false := by simpa using hf
    rw [hf']
    obtain ⟨⟨s1, s2, s3⟩, s4⟩ := farB_not hf'
    have HTS := Lib.hid (tsz_of hf')
    have HS4 : Hid (∀ r ∈ vs, r.length ≤ 1000000) := fun r hr => by have := s4 r hr; omega
    clear hf hf' s4
    go_upto_region 3 with fail
    go_cut [5, 6] (fun s5 s6 wx => BnMid (boundR xs ys vs (xl, xh) (yl, yh)) w1 s5 s6 wx)
    case first =>
      have HBc := Lib.hid (Below.refl w1.heap.size w1)
      go_region_held3 (fun w' => w'.cell? ⟨w.heap.size, 0, none⟩ = some (.slice X xs.length cx) ∧ w'.cell? ⟨w.heap.size, 1, none⟩ = some (.slice Y ys.length cy) ∧ w'.cell? ⟨w.heap.size, 2, none⟩ = some (.slice V vs.length cv) ∧ w'.cell? ⟨w.heap.size + 1, 0, none⟩ = some (.int .i64 xl) ∧ w'.cell? ⟨w.heap.size + 1, 1, none⟩ = some (.int .i64 xh) ∧ w'.cell? ⟨w.heap.size + 1, 2, none⟩ = some (.int .i64 yl) ∧ w'.cell? ⟨w.heap.size + 1, 3, none⟩ = some (.int .i64 yh)) (refine ⟨cell_b' (W := w1) ?_ c0, cell_b' (W := w1) ?_ c1, cell_b' (W := w1) ?_ c2, cell_b' (W := w1) ?_ p0, cell_b' (W := w1) ?_ p1, cell_b' (W := w1) ?_ p2, cell_b' (W := w1) ?_ p3⟩ <;> (repeat (first | with_reducible exact HBc.out | with_reducible refine Below.alloc ?_ (by have := HBc.out.size; simp <;> omega) _ | with_reducible refine Below.drew ?_ | with_reducible refine Below.setCell ?_ (by have := HBc.out.size; simp <;> omega) _)))
        (first | (go_at_call 21; refine (copy_any xs ys vs X Y V cx cy cv _ (by omega) (by omega) (by omega) HS4.out (HR.out.below (by (repeat (first | with_reducible exact HBc.out | with_reducible refine Below.alloc ?_ (by have := HBc.out.size; simp <;> omega) _ | with_reducible refine Below.drew ?_ | with_reducible refine Below.setCell ?_ (by have := HBc.out.size; simp <;> omega) _)))) (HN.out.below (by (repeat (first | with_reducible exact HBc.out | with_reducible refine Below.alloc ?_ (by have := HBc.out.size; simp <;> omega) _ | with_reducible refine Below.drew ?_ | with_reducible refine Below.setCell ?_ (by have := HBc.out.size; simp <;> omega) _))))).mono ?_; rintro e w5 ⟨X', Y', V', cx', cy', cv', rfl, hR5, hb5⟩; have HG := Lib.hid hR5; obtain ⟨ra1, ra2⟩ := bcell hb5; have hs5 := hb5.size; (try simp at hs5); (try (have z15 : w1.heap.size < w5.heap.size := (by omega))); have hbw := bel_step (W0 := w1) (by (repeat (first | with_reducible exact HBc.out | with_reducible refine Below.alloc ?_ (by have := HBc.out.size; simp <;> omega) _ | with_reducible refine Below.drew ?_ | with_reducible refine Below.setCell ?_ (by have := HBc.out.size; simp <;> omega) _))) hb5; replace HBc := Lib.hid hbw; have HBg := Lib.hid (Below.refl w5.heap.size w5); clear hb5 hbw hR5) | (go_at_call 27; refine (bound_any xs ys vs X' Y' V' cx' cy' cv' (xl, xh) (yl, yh) _ HTS.out (HG.out.below (by (repeat (first | with_reducible exact HBg.out | with_reducible refine Below.alloc ?_ (by have := HBg.out.size; simp <;> omega) _ | with_reducible refine Below.drew ?_ | with_reducible refine Below.setCell ?_ (by have := HBg.out.size; simp <;> omega) _))))).mono ?_; rintro e w6 ⟨rfl, hb6⟩; obtain ⟨rb1, rb2⟩ := bcell hb6; have hs6 := hb6.size; (try simp at hs6); (try (have z16 : w1.heap.size < w6.heap.size := (by omega))); (try (have z56 : w5.heap.size < w6.heap.size := (by omega))); have hbw := bel_step (W0 := w1) (by (repeat (first | with_reducible exact HBc.out | with_reducible refine Below.alloc ?_ (by have := HBc.out.size; simp <;> omega) _ | with_reducible refine Below.drew ?_ | with_reducible refine Below.setCell ?_ (by have := HBc.out.size; simp <;> omega) _))) hb6; replace HBc := Lib.hid hbw; clear hb6 hbw))
      all_goals
        generalize boundR xs ys vs (xl, xh) (yl, yh) = br at *
        go_wp2_with fail
        go_meet
        refine ⟨_, rfl, rfl, ?_, ?_, by (repeat (first | with_reducible exact HBc.out | with_reducible refine Below.alloc ?_ (by have := HBc.out.size; simp <;> omega) _ | with_reducible refine Below.drew ?_ | with_reducible refine Below.setCell ?_ (by have := HBc.out.size; simp <;> omega) _))⟩
        · first | (simp; done) | (go_simp; done) | (simp [go_sem, *]; done) | trace_state
        · first | (simp; done) | (go_simp; done) | (simp [go_sem, *]; done) | trace_state
    case rest =>
      obtain ⟨ob, rfl, rfl, o0, o1, hbx⟩ := hcut
      obtain ⟨w2, rfl⟩ : ∃ w2 : World, w2 = wc := ⟨_, rfl⟩
      replace c0 := cell_b hbx c0
      replace c1 := cell_b hbx c1
      replace c2 := cell_b hbx c2
      replace p0 := cell_b hbx p0
      replace p1 := cell_b hbx p1
      replace p2 := cell_b hbx p2
      replace p3 := cell_b hbx p3
      replace HR := Lib.hid (HR.out.below hbx)
      replace HN := Lib.hid (HN.out.below hbx)
      replace HB := Lib.hid (HB.out.trans (hbx.mono HB.out.size))
      clear hbx
      go_wp2_with fail
      refine (rboundF_any xs ys vs X Y V cx cy cv (xl, xh) (yl, yh) _ HS.out HR.out).mono ?_
      rintro e w3 ⟨rfl, hb3⟩
      replace c0 := cell_b hb3 c0
      replace c1 := cell_b hb3 c1
      replace c2 := cell_b hb3 c2
      replace p0 := cell_b hb3 p0
      replace p1 := cell_b hb3 p1
      replace p2 := cell_b hb3 p2
      replace p3 := cell_b hb3 p3
      replace o0 := cell_b hb3 o0
      replace o1 := cell_b hb3 o1
      replace HR := Lib.hid (HR.out.below hb3)
      replace HN := Lib.hid (HN.out.below hb3)
      replace HB := Lib.hid (HB.out.trans (hb3.mono HB.out.size))
      clear hb3
      generalize boundR xs ys vs (xl, xh) (yl, yh) = br at *
      go_upto_region 5 with fail
      obtain ⟨w4, hw4⟩ : ∃ w4, w3.alloc (.cells #[.int .i64 br.1.1, .int .i64 br.1.2] 27) = w4 := ⟨_, rfl⟩
      have hbx : Below w3.heap.size w3 w4 := by rw [← hw4]; exact (Below.refl _ _).alloc (Nat.le_refl _) _
      have hnb : w4.heap[w3.heap.size]? = some (.cells #[.int .i64 br.1.1, .int .i64 br.1.2] 27) := by rw [← hw4]; exact blk_new _ _
      rw [hw4]
      replace c0 := cell_b hbx c0
      replace c1 := cell_b hbx c1
      replace c2 := cell_b hbx c2
      replace p0 := cell_b hbx p0
      replace p1 := cell_b hbx p1
      replace p2 := cell_b hbx p2
      replace p3 := cell_b hbx p3
      replace o0 := cell_b hbx o0
      replace o1 := cell_b hbx o1
      replace HR := Lib.hid (HR.out.below hbx)
      replace HN := Lib.hid (HN.out.below hbx)
      replace HB := Lib.hid (HB.out.trans (hbx.mono HB.out.size))
      clear hbx
      obtain ⟨⟨n0, n1⟩, _⟩ := cells2 hnb
      clear hnb hw4
      go_cut [9, 10, 11] (fun s9 s10 s11 wx => s9 = .int .i64 (worstR xs ys vs (xl, xh) (yl, yh)).1.1 ∧ s10 = .int .i64 (worstR xs ys vs (xl, xh) (yl, yh)).1.2 ∧ s11 = .int .i64 (worstR xs ys vs (xl, xh) (yl, yh)).2 ∧ Below w4.heap.size w4 wx)
      case first =>
        have HBc := Lib.hid (Below.refl w4.heap.size w4)
        go_region_held3 (fun w' => w'.cell? ⟨w.heap.size, 0, none⟩ = some (.slice X xs.length cx) ∧ w'.cell? ⟨w.heap.size, 1, none⟩ = some (.slice Y ys.length cy) ∧ w'.cell? ⟨w.heap.size, 2, none⟩ = some (.slice V vs.length cv) ∧ w'.cell? ⟨w.heap.size + 1, 0, none⟩ = some (.int .i64 xl) ∧ w'.cell? ⟨w.heap.size + 1, 1, none⟩ = some (.int .i64 xh) ∧ w'.cell? ⟨w.heap.size + 1, 2, none⟩ = some (.int .i64 yl) ∧ w'.cell? ⟨w.heap.size + 1, 3, none⟩ = some (.int .i64 yh)) (refine ⟨cell_b' (W := w4) ?_ c0, cell_b' (W := w4) ?_ c1, cell_b' (W := w4) ?_ c2, cell_b' (W := w4) ?_ p0, cell_b' (W := w4) ?_ p1, cell_b' (W := w4) ?_ p2, cell_b' (W := w4) ?_ p3⟩ <;> (repeat (first | with_reducible exact HBc.out | with_reducible refine Below.alloc ?_ (by have := HBc.out.size; simp <;> omega) _ | with_reducible refine Below.drew ?_ | with_reducible refine Below.setCell ?_ (by have := HBc.out.size; simp <;> omega) _)))
          (first | (go_at_call 21; refine (copy_any xs ys vs X Y V cx cy cv _ (by omega) (by omega) (by omega) HS4.out (HR.out.below (by (repeat (first | with_reducible exact HBc.out | with_reducible refine Below.alloc ?_ (by have := HBc.out.size; simp <;> omega) _ | with_reducible refine Below.drew ?_ | with_reducible refine Below.setCell ?_ (by have := HBc.out.size; simp <;> omega) _)))) (HN.out.below (by (repeat (first | with_reducible exact HBc.out | with_reducible refine Below.alloc ?_ (by have := HBc.out.size; simp <;> omega) _ | with_reducible refine Below.drew ?_ | with_reducible refine Below.setCell ?_ (by have := HBc.out.size; simp <;> omega) _))))).mono ?_; rintro e w5 ⟨X', Y', V', cx', cy', cv', rfl, hR5, hb5⟩; have HG := Lib.hid hR5; obtain ⟨ra1, ra2⟩ := bcell hb5; have hs5 := hb5.size; (try simp at hs5); (try (have z15 : w1.heap.size < w5.heap.size := (by omega))); have hbw := bel_step (W0 := w4) (by (repeat (first | with_reducible exact HBc.out | with_reducible refine Below.alloc ?_ (by have := HBc.out.size; simp <;> omega) _ | with_reducible refine Below.drew ?_ | with_reducible refine Below.setCell ?_ (by have := HBc.out.size; simp <;> omega) _))) hb5; replace HBc := Lib.hid hbw; have HBg := Lib.hid (Below.refl w5.heap.size w5); clear hb5 hbw hR5) | (go_at_call 29; refine (worst_any xs ys vs X' Y' V' cx' cy' cv' (xl, xh) (yl, yh) _ HTS.out (HG.out.below (by (repeat (first | with_reducible exact HBg.out | with_reducible refine Below.alloc ?_ (by have := HBg.out.size; simp <;> omega) _ | with_reducible refine Below.drew ?_ | with_reducible refine Below.setCell ?_ (by have := HBg.out.size; simp <;> omega) _))))).mono ?_; rintro e w6 ⟨rfl, hb6⟩; obtain ⟨rb1, rb2⟩ := bcell hb6; have hs6 := hb6.size; (try simp at hs6); (try (have z16 : w1.heap.size < w6.heap.size := (by omega))); (try (have z56 : w5.heap.size < w6.heap.size := (by omega))); have hbw := bel_step (W0 := w4) (by (repeat (first | with_reducible exact HBc.out | with_reducible refine Below.alloc ?_ (by have := HBc.out.size; simp <;> omega) _ | with_reducible refine Below.drew ?_ | with_reducible refine Below.setCell ?_ (by have := HBc.out.size; simp <;> omega) _))) hb6; replace HBc := Lib.hid hbw; clear hb6 hbw))
        all_goals
          generalize worstR xs ys vs (xl, xh) (yl, yh) = wr at *
          go_wp2_with fail
          go_meet
          exact ⟨rfl, rfl, rfl, HBc.out⟩
      case rest =>
        obtain ⟨rfl, rfl, rfl, hbx⟩ := hcut
        obtain ⟨w7, rfl⟩ : ∃ w7 : World, w7 = wc := ⟨_, rfl⟩
        replace c0 := cell_b hbx c0
        replace c1 := cell_b hbx c1
        replace c2 := cell_b hbx c2
        replace p0 := cell_b hbx p0
        replace p1 := cell_b hbx p1
        replace p2 := cell_b hbx p2
        replace p3 := cell_b hbx p3
        replace o0 := cell_b hbx o0
        replace o1 := cell_b hbx o1
        replace n0 := cell_b hbx n0
        replace n1 := cell_b hbx n1
        replace HR := Lib.hid (HR.out.below hbx)
        replace HN := Lib.hid (HN.out.below hbx)
        replace HB := Lib.hid (HB.out.trans (hbx.mono HB.out.size))
        clear hbx
        go_wp2_with fail
        refine (rworst_any xs ys vs X Y V cx cy cv (xl, xh) (yl, yh) _ HS.out HR.out).mono ?_
        rintro e w8 ⟨rfl, hb8⟩
        replace c0 := cell_b hb8 c0
        replace c1 := cell_b hb8 c1
        replace c2 := cell_b hb8 c2
        replace p0 := cell_b hb8 p0
        replace p1 := cell_b hb8 p1
        replace p2 := cell_b hb8 p2
        replace p3 := cell_b hb8 p3
        replace o0 := cell_b hb8 o0
        replace o1 := cell_b hb8 o1
        replace n0 := cell_b hb8 n0
        replace n1 := cell_b hb8 n1
        replace HR := Lib.hid (HR.out.below hb8)
        replace HN := Lib.hid (HN.out.below hb8)
        replace HB := Lib.hid (HB.out.trans (hb8.mono HB.out.size))
        clear hb8
        generalize worstR xs ys vs (xl, xh) (yl, yh) = ws at *
        obtain ⟨⟨b1, b2⟩, b3⟩ := br
        obtain ⟨⟨d1, d2⟩, d3⟩ := ws
        simp only at o0 o1 n0 n1 ⊢
        have e_b1 : (b1 == b1) = true := by simp
        have e_b2 : (b2 == b2) = true := by simp
        have e_b3 : (b3 == b3) = true := by simp
        have e_d1 : (d1 == d1) = true := by simp
        have e_d2 : (d2 == d2) = true := by simp
        have e_d3 : (d3 == d3) = true := by simp
        go_wp2_with fail
        refine (works_any _).mono ?_
        rintro e w99 ⟨rfl, hb99⟩
        replace HB := Lib.hid (HB.out.trans (hb99.mono HB.out.size))
        clear hb99
        go_wp2_with fail
        go_ret
        exact ⟨rfl, HB.out⟩
end Go.Proofs.Ytfaiogajaaclcaa
