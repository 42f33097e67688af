/- The walk of the reference's bound. -/
import Derived.Test.YtfaiogajaaclcaaRb
import Derived.Deep.DeepCutAuto
namespace Go.Proofs.Ytfaiogajaaclcaa
open Go.RowKit

def BdMid (sx sy : List Int) (W0 : World) (s7 s8 : Value) (wx : World) : Prop := ∃ A B ca cb, s7 = .slice A sx.length ca ∧ s8 = .slice B sy.length cb ∧ Ints wx A sx ∧ Ints wx B sy ∧ Below W0.heap.size W0 wx
/-- what bound holds behind some points -/
def BdSt (p0 : Pt) (ps : List Pt) (B : Nat) (W3 wr : World) : Prop := ∃ l m, extrE (p0 :: ps) = some (l, m) ∧ wr.heap[B]? = some (.cells #[.int .i64 (l.n / l.d), .int .i64 (-(-m.n / m.d))] 27) ∧ Below W3.heap.size W3 wr
theorem run_min2 {P : Program} (w : World) (ts : Array TypeId) (t : TypeId) (a b : Int) : (Builtin.min_ ts t #[.int .i64 a, .int .i64 b]).run P w = .ok (.int .i64 (mn a b)) w := by
  simp [Builtin.min_, Builtin.min2, mn]
  try (split <;> rfl)
theorem run_max2 {P : Program} (w : World) (ts : Array TypeId) (t : TypeId) (a b : Int) : (Builtin.max_ ts t #[.int .i64 a, .int .i64 b]).run P w = .ok (.int .i64 (mx a b)) w := by
  simp [Builtin.max_, Builtin.max2, mx]
  try (split <;> rfl)
set_option maxRecDepth 100000 in
set_option maxHeartbeats 4000000 in
theorem rbnd_any (xs ys : List Int) (vs : List (List Int)) (X Y V : Option Addr) (cx cy cv : Nat) (x y : Int × Int) (w : World) (hO : OnT xs ys vs x y) (hR : TabR w X Y V cx cy cv xs ys vs) :
   Calls Try.prog 70 #[.agg #[.slice X xs.length cx, .slice Y ys.length cy, .slice V vs.length cv], .agg #[.int .i64 x.1, .int .i64 x.2], .agg #[.int .i64 y.1, .int .i64 y.2]] w fun e w' => e = .returned (.agg #[.int .i64 (bnd xs ys vs x y).1, .int .i64 (bnd xs ys vs x y).2]) ∧ Below w.heap.size w w' := by
  obtain ⟨xl, xh⟩ := x
  obtain ⟨yl, yh⟩ := y
  show Calls Try.prog 70 #[.agg #[.slice X xs.length cx, .slice Y ys.length cy, .slice V vs.length cv], .agg #[.int .i64 xl, .int .i64 xh], .agg #[.int .i64 yl, .int .i64 yh]] w _
  have HT := Lib.hid hO.t
  have hx12 := hO.t.ax.twelve
  have hy12 := hO.t.ay.twelve
  have HOX : Hid (∀ a ∈ stopsL xs xl xh, OnAx xs a) := fun a ha => OnAx_stops hO.x1 hO.x2 hO.x3 ha
  have HOY : Hid (∀ a ∈ stopsL ys yl yh, OnAx ys a) := fun a ha => OnAx_stops hO.y1 hO.y2 hO.y3 ha
  have lx := stopsL_len xs xl xh
  have ly := stopsL_len ys yl yh
  have HX0 : Hid ((stopsL xs xl xh)[0]?.getD 0 = xl ∧ 1 ≤ (stopsL xs xl xh).length) := by unfold Hid stopsL; simp
  have HY0 : Hid ((stopsL ys yl yh)[0]?.getD 0 = yl ∧ 1 ≤ (stopsL ys yl yh).length) := by unfold Hid stopsL; simp
  have HPT : Hid (pts xs ys vs (xl, xh) (yl, yh) = allPts xs ys vs (stopsL xs xl xh) (stopsL ys yl yh)) := rfl
  have HBE : Hid (∀ l m, extrE (ptAt xs ys vs xl yl :: pts xs ys vs (xl, xh) (yl, yh)) = some (l, m) → bnd xs ys vs (xl, xh) (yl, yh) = (l.n / l.d, -(-m.n / m.d))) := fun l m h => bnd_eq ((extrE_first xs ys vs (xl, xh) (yl, yh)).symm.trans h)
  obtain ⟨W0, hW0⟩ : ∃ W0, ((((w.alloc (.cells #[.slice X xs.length cx, .slice Y ys.length cy, .slice V vs.length cv] 25)).alloc (.cells #[.int .i64 xl, .int .i64 xh] 27)).alloc (.cells #[.int .i64 yl, .int .i64 yh] 27)).alloc (.cells #[.int .i64 0, .int .i64 0] 27)) = W0 := ⟨_, rfl⟩
  have HB : Hid (Below w.heap.size w W0) := by
    unfold Hid; rw [← hW0]
    repeat (first | exact Below.refl _ _ | refine Below.alloc ?_ (by simp <;> omega) _)
  have ha : W0.heap[w.heap.size]? = some (.cells #[.slice X xs.length cx, .slice Y ys.length cy, .slice V vs.length cv] 25) := by
    rw [← hW0]; simp only [heap_alloc_at, World.size_alloc]; repeat (first | rw [if_pos trivial] | rw [if_neg (by omega)])
  have hb : W0.heap[w.heap.size + 1]? = some (.cells #[.int .i64 xl, .int .i64 xh] 27) := by
    rw [← hW0]; simp only [heap_alloc_at, World.size_alloc]; repeat (first | rw [if_pos trivial] | rw [if_neg (by omega)])
  have hc : W0.heap[w.heap.size + 1 + 1]? = some (.cells #[.int .i64 yl, .int .i64 yh] 27) := by
    rw [← hW0]; simp only [heap_alloc_at, World.size_alloc]; repeat (first | rw [if_pos trivial] | rw [if_neg (by omega)])
  have hd : W0.heap[w.heap.size + 1 + 1 + 1]? = some (.cells #[.int .i64 0, .int .i64 0] 27) := by
    rw [← hW0]; simp only [heap_alloc_at, World.size_alloc]; repeat (first | rw [if_pos trivial] | rw [if_neg (by omega)])
  obtain ⟨⟨c0, c1, c2⟩, _⟩ := cells3 ha
  obtain ⟨⟨p0, p1⟩, _⟩ := cells2 hb
  obtain ⟨⟨q0, q1⟩, _⟩ := cells2 hc
  obtain ⟨⟨r0, r1⟩, f0, f1⟩ := cells2 hd
  have z3 := blk_lt hd
  have HR := Lib.hid (hR.below HB.out)
  have HW0 := Lib.hid hW0
  clear hW0 ha hb hc hd hR hO
  generalize hsx : stopsL xs xl xh = sx at *
  generalize hsy : stopsL ys yl yh = sy at *
  have HSX := Lib.hid hsx
  have HSY := Lib.hid hsy
  clear hsx hsy
  go_enter Try.func70, Try.ntmps70
  go_upto_region 1 with fail
  rw [HW0.out]
  go_cut [7, 8] (fun s7 s8 wx => BdMid sx sy W0 s7 s8 wx)
  case first =>
    have HBc := Lib.hid (Below.refl W0.heap.size W0)
    go_region_held3 (fun w' => w'.cell? ⟨w.heap.size, 0, none⟩ = some (.slice X xs.length cx) ∧ w'.cell? ⟨w.heap.size, 1, none⟩ = some (.slice Y ys.length cy) ∧ w'.cell? ⟨w.heap.size + 1, 0, none⟩ = some (.int .i64 xl) ∧ w'.cell? ⟨w.heap.size + 1, 1, none⟩ = some (.int .i64 xh) ∧ w'.cell? ⟨w.heap.size + 1 + 1, 0, none⟩ = some (.int .i64 yl) ∧ w'.cell? ⟨w.heap.size + 1 + 1, 1, none⟩ = some (.int .i64 yh)) (refine ⟨cell_b' (W := W0) ?_ c0, cell_b' (W := W0) ?_ c1, cell_b' (W := W0) ?_ p0, cell_b' (W := W0) ?_ p1, cell_b' (W := W0) ?_ q0, cell_b' (W := W0) ?_ q1⟩ <;> (repeat (first | with_reducible exact HBc.out | with_reducible refine Below.alloc ?_ (by have := HBc.out.size; simp <;> omega) _ | with_reducible refine Below.drew ?_ | with_reducible refine Below.setCell ?_ (by have := HBc.out.size; simp <;> omega) _)))
      (first | (go_at_call 79; have hia := HIA.out; refine (rcorners_any Y ys cy yl yh _ (by omega) (HR.out.hY.below (by (repeat (first | with_reducible exact HBc.out | with_reducible refine Below.alloc ?_ (by have := HBc.out.size; simp <;> omega) _ | with_reducible refine Below.drew ?_ | with_reducible refine Below.setCell ?_ (by have := HBc.out.size; simp <;> omega) _))))).mono ?_; rw [HSY.out]; rintro e w5 ⟨B, cb, rfl, hI, _, _, hb5⟩; have HIB := Lib.hid hI; replace HIA := Lib.hid (hia.below hb5); have hbw := bel_step (W0 := W0) (by (repeat (first | with_reducible exact HBc.out | with_reducible refine Below.alloc ?_ (by have := HBc.out.size; simp <;> omega) _ | with_reducible refine Below.drew ?_ | with_reducible refine Below.setCell ?_ (by have := HBc.out.size; simp <;> omega) _))) hb5; replace HBc := Lib.hid hbw; clear hb5 hbw hI hia) | (go_at_call 79; refine (rcorners_any X xs cx xl xh _ (by omega) (HR.out.hX.below (by (repeat (first | with_reducible exact HBc.out | with_reducible refine Below.alloc ?_ (by have := HBc.out.size; simp <;> omega) _ | with_reducible refine Below.drew ?_ | with_reducible refine Below.setCell ?_ (by have := HBc.out.size; simp <;> omega) _))))).mono ?_; rw [HSX.out]; rintro e w5 ⟨A, ca, rfl, hI, _, _, hb5⟩; have HIA := Lib.hid hI; have hbw := bel_step (W0 := W0) (by (repeat (first | with_reducible exact HBc.out | with_reducible refine Below.alloc ?_ (by have := HBc.out.size; simp <;> omega) _ | with_reducible refine Below.drew ?_ | with_reducible refine Below.setCell ?_ (by have := HBc.out.size; simp <;> omega) _))) hb5; replace HBc := Lib.hid hbw; clear hb5 hbw hI))
    all_goals
      go_wp2_with fail
      go_meet
      exact ⟨A, B, ca, cb, rfl, rfl, HIA.out, HIB.out, HBc.out⟩
  case rest =>
    obtain ⟨A, B, ca, cb, rfl, rfl, hIA, hIB, hbx⟩ := hcut
    obtain ⟨w1, rfl⟩ : ∃ w1 : World, w1 = wc := ⟨_, rfl⟩
    replace c0 := cell_b' hbx c0
    replace c1 := cell_b' hbx c1
    replace c2 := cell_b' hbx c2
    replace f0 := froz_b hbx r0 f0
    replace f1 := froz_b hbx r1 f1
    replace r0 := cell_b' hbx r0
    replace r1 := cell_b' hbx r1
    replace z3 := Nat.lt_of_lt_of_le z3 hbx.size
    replace HR := Lib.hid (HR.out.below hbx)
    replace HB := Lib.hid (HB.out.trans (hbx.mono HB.out.size))
    have HIA := Lib.hid hIA
    have HIB := Lib.hid hIB
    have lx1 := HX0.out.2
    have ly1 := HY0.out.2
    obtain ⟨ba, oa, ea, hba, hca⟩ := hIA (by omega)
    obtain ⟨bb, ob, eb, hbb, hcb⟩ := hIB (by omega)
    have a0 := hca 0 (by omega)
    have b0 := hcb 0 (by omega)
    simp only [Nat.add_zero] at a0 b0
    rw [HX0.out.1] at a0
    rw [HY0.out.1] at b0
    subst ea eb
    have hox := HOX.out xl (by rw [← HX0.out.1]; have := HX0.out.2; simp [show 0 < sx.length by omega])
    have hoy := HOY.out yl (by rw [← HY0.out.1]; have := HY0.out.2; simp [show 0 < sy.length by omega])
    have t1 : (0 : Int) < (sx.length : Int) := by omega
    have t2 : (0 : Int) < (sy.length : Int) := by omega
    have t3 : 0 < sx.length := by omega
    have t4 : 0 < sy.length := by omega
    clear hbx hca hcb p0 p1 q0 q1 hIA hIB
    have HP0 := Lib.hid (ptAt_val HT.out hox hoy)
    obtain ⟨vd1, vd2, vn1, vn2⟩ := val_bd HT.out hox hoy
    have HOn := Lib.hid (And.intro hox hoy)
    have HBc := Lib.hid (Below.refl w1.heap.size w1)
    clear hox hoy
    go_wp2_with fail
    go_region_held3 (fun w' => w'.cell? ⟨w.heap.size, 0, none⟩ = some (.slice X xs.length cx) ∧ w'.cell? ⟨w.heap.size, 1, none⟩ = some (.slice Y ys.length cy) ∧ w'.cell? ⟨w.heap.size, 2, none⟩ = some (.slice V vs.length cv) ∧ w'.cell? ⟨ba, oa, none⟩ = some (.int .i64 xl) ∧ w'.cell? ⟨bb, ob, none⟩ = some (.int .i64 yl)) (refine ⟨cell_b' (W := w1) ?_ c0, cell_b' (W := w1) ?_ c1, cell_b' (W := w1) ?_ c2, cell_b' (W := w1) ?_ a0, cell_b' (W := w1) ?_ b0⟩ <;> (repeat (first | with_reducible exact HBc.out | with_reducible refine Below.alloc ?_ (by have := HBc.out.size; simp <;> omega) _ | with_reducible refine Below.drew ?_ | with_reducible refine Below.setCell ?_ (by have := HBc.out.size; simp <;> omega) _)))
      (first | (go_at_call 80; refine (value_any xs ys vs X Y V cx cy cv xl yl _ HT.out (HR.out.below (by (repeat (first | with_reducible exact HBc.out | with_reducible refine Below.alloc ?_ (by have := HBc.out.size; simp <;> omega) _ | with_reducible refine Below.drew ?_ | with_reducible refine Below.setCell ?_ (by have := HBc.out.size; simp <;> omega) _)))) HOn.out.1 HOn.out.2).mono ?_; rintro e w2 ⟨rfl, hb2⟩; have hbw := bel_step (W0 := w1) (by (repeat (first | with_reducible exact HBc.out | with_reducible refine Below.alloc ?_ (by have := HBc.out.size; simp <;> omega) _ | with_reducible refine Below.drew ?_ | with_reducible refine Below.setCell ?_ (by have := HBc.out.size; simp <;> omega) _))) hb2; replace HBc := Lib.hid hbw; clear hb2 hbw))
    generalize valN xs ys vs xl yl = nn at *
    generalize valD xs ys xl yl = dd at *
    have hb2 := HBc.out
    replace c0 := cell_b' hb2 c0
    replace c1 := cell_b' hb2 c1
    replace c2 := cell_b' hb2 c2
    replace f0 := froz_b hb2 r0 f0
    replace f1 := froz_b hb2 r1 f1
    replace r0 := cell_b' hb2 r0
    replace r1 := cell_b' hb2 r1
    replace z3 := Nat.lt_of_lt_of_le z3 hb2.size
    replace HR := Lib.hid (HR.out.below hb2)
    replace HIA := Lib.hid (HIA.out.below hb2)
    replace HIB := Lib.hid (HIB.out.below hb2)
    replace HB := Lib.hid (HB.out.trans (hb2.mono HB.out.size))
    clear hb2 HBc a0 b0
    go_wp2_with fail
    refine (rfloor_any nn dd _ (by omega) (by omega) (by omega) (by omega)).mono ?_
    rintro e w' ⟨rfl, rfl⟩
    go_wp2_with fail
    refine (rceil_any nn dd _ (by omega) (by omega) (by omega) (by omega)).mono ?_
    rintro e w' ⟨rfl, rfl⟩
    rw [HP0.out.1, HP0.out.2]
    generalize hpp : ptAt xs ys vs xl yl = pp at *
    have HPP := Lib.hid hpp
    obtain ⟨w3, rfl⟩ : ∃ w3 : World, w3 = w' := ⟨_, rfl⟩
    clear hpp HP0 HOn vd1 vd2 vn1 vn2
    go_wp2_with fail
    go_loopw [9, 10, 12, 13] (fun _ _ i _ wr => ∃ a : Nat, a ≤ sx.length ∧ i = .int .i64 a ∧ BdSt pp (donePts xs ys vs sx sy a 0) w3.heap.size w3 wr) (fun _ _ i _ _ => sx.length - (intOf i).toNat)
    case atStart => exact ⟨0, by omega, rfl, pp, pp, by rw [done_zero]; rfl, blk_new _ _, (Below.refl _ _).alloc (Nat.le_refl _) _⟩
    case round =>
      obtain ⟨a, ha, rfl, l, m, hE, hbk, hbr⟩ := hrel
      obtain ⟨wo, rfl⟩ : ∃ wo : World, wo = wr := ⟨_, rfl⟩
      have HE := Lib.hid hE
      have HBR := Lib.hid hbr
      have HBK := Lib.hid hbk
      clear hE hbk hbr
      by_cases hlt : a < sx.length
      · go_wp2_with fail
        go_loopw [9, 10, 13] (fun _ _ k wq => ∃ b : Nat, b ≤ sy.length ∧ k = .int .i64 b ∧ BdSt pp (donePts xs ys vs sx sy a b) w3.heap.size w3 wq) (fun _ _ k _ => sy.length - (intOf k).toNat)
        case atStart => exact ⟨0, by omega, rfl, l, m, HE.out, HBK.out, HBR.out⟩
        case round =>
          obtain ⟨b, hb, rfl, l2, m2, hE2, hbk2, hbq⟩ := hrel
          obtain ⟨wp, rfl⟩ : ∃ wp : World, wp = wr := ⟨_, rfl⟩
          have HE2 := Lib.hid hE2
          have HBQ := Lib.hid hbq
          have HBK2 := Lib.hid hbk2
          by_cases hlt2 : b < sy.length
          · replace c0 := cell_b' hbq c0
            replace c1 := cell_b' hbq c1
            replace c2 := cell_b' hbq c2
            obtain ⟨ba2, oa2, ea, hba2, hca⟩ := (HIA.out.below hbq) (by omega)
            obtain ⟨bb2, ob2, eb, hbb2, hcb⟩ := (HIB.out.below hbq) (by omega)
            cases ea
            cases eb
            have a0 := hca a (by omega)
            have b0 := hcb b (by omega)
            have hox := HOX.out (sx[a]?.getD 0) (by simp [hlt])
            have hoy := HOY.out (sy[b]?.getD 0) (by simp [hlt2])
            have HD := Lib.hid (done_succ xs ys vs sx sy a b hlt2)
            have HPV := Lib.hid (ptAt_val HT.out hox hoy)
            obtain ⟨vd1, vd2, vn1, vn2⟩ := val_bd HT.out hox hoy
            generalize hxa : sx[a]?.getD 0 = xa at a0 hox vd1 vd2 vn1 vn2 HD HPV
            generalize hyb : sy[b]?.getD 0 = yb at b0 hoy vd1 vd2 vn1 vn2 HD HPV
            have HOn := Lib.hid (And.intro hox hoy)
            have HRq := Lib.hid (HR.out.below hbq)
            have t5 : (a : Int) < (sx.length : Int) := by omega
            have t6 : (b : Int) < (sy.length : Int) := by omega
            have t7 : (0 : Int) ≤ (a : Int) := by omega
            have t8 : (0 : Int) ≤ (b : Int) := by omega
            have HBc := Lib.hid (Below.refl wp.heap.size wp)
            clear hxa hyb hox hoy hca hcb hbq hbk2 hE2 r0 r1 f0 f1
            go_wp2_with fail
            go_region_held3 (fun w' => w'.cell? ⟨w.heap.size, 0, none⟩ = some (.slice X xs.length cx) ∧ w'.cell? ⟨w.heap.size, 1, none⟩ = some (.slice Y ys.length cy) ∧ w'.cell? ⟨w.heap.size, 2, none⟩ = some (.slice V vs.length cv) ∧ w'.cell? ⟨ba, oa + a, none⟩ = some (.int .i64 xa) ∧ w'.cell? ⟨bb, ob + b, none⟩ = some (.int .i64 yb)) (refine ⟨cell_b' (W := wp) ?_ c0, cell_b' (W := wp) ?_ c1, cell_b' (W := wp) ?_ c2, cell_b' (W := wp) ?_ a0, cell_b' (W := wp) ?_ b0⟩ <;> (repeat (first | with_reducible exact HBc.out | with_reducible refine Below.alloc ?_ (by have := HBc.out.size; simp <;> omega) _ | with_reducible refine Below.drew ?_ | with_reducible refine Below.setCell ?_ (by have := HBc.out.size; simp <;> omega) _)))
              (first | (go_at_call 80; refine (value_any xs ys vs X Y V cx cy cv xa yb _ HT.out (HRq.out.below (by (repeat (first | with_reducible exact HBc.out | with_reducible refine Below.alloc ?_ (by have := HBc.out.size; simp <;> omega) _ | with_reducible refine Below.drew ?_ | with_reducible refine Below.setCell ?_ (by have := HBc.out.size; simp <;> omega) _)))) HOn.out.1 HOn.out.2).mono ?_; rintro e w5 ⟨rfl, hb5⟩; have hbw := bel_step (W0 := wp) (by (repeat (first | with_reducible exact HBc.out | with_reducible refine Below.alloc ?_ (by have := HBc.out.size; simp <;> omega) _ | with_reducible refine Below.drew ?_ | with_reducible refine Below.setCell ?_ (by have := HBc.out.size; simp <;> omega) _))) hb5; replace HBc := Lib.hid hbw; clear hb5 hbw))
            generalize valN xs ys vs xa yb = nn at *
            generalize valD xs ys xa yb = dd at *
            generalize ptAt xs ys vs xa yb = pn at *
            have hbk5 := blk HBc.out HBK2.out
            have HB5 := Lib.hid (HBQ.out.trans (HBc.out.mono HBQ.out.size))
            obtain ⟨⟨o0, o1⟩, g0, g1⟩ := cells2 hbk5
            have HBK5 := Lib.hid hbk5
            have HML := Lib.hid (run_min2 (P := Try.prog))
            have hmin := fun (w : World) => run_min2 (P := Try.prog) w #[3, 3] 3 (l2.n / l2.d) (nn / dd)
            have hmax := fun (w : World) => run_max2 (P := Try.prog) w #[3, 3] 3 (-(-m2.n / m2.d)) (-(-nn / dd))
            clear hbk5 c0 c1 c2 a0 b0 HBc HBQ HBK2 HML
            go_wp2_with fail
            refine wp_region_tail 7 (by kernel_rfl) (by kernel_rfl) ?_
            simp only [List.take_succ_cons, List.take_zero, List.drop_succ_cons, List.drop_zero]
            iterate 4 still_step
            still_call (rfloor_any _ _ _ (by omega) (by omega) (by omega) (by omega))
            iterate 2 still_step
            refine wpStill_nil ?_
            go_wp2_with fail
            refine wp_region_tail 7 (by kernel_rfl) (by kernel_rfl) ?_
            simp only [List.take_succ_cons, List.take_zero, List.drop_succ_cons, List.drop_zero]
            iterate 4 still_step
            still_call (rceil_any _ _ _ (by omega) (by omega) (by omega) (by omega))
            iterate 2 still_step
            refine wpStill_nil ?_
            go_wp2_with fail
            have e1 := step_low l2 pn
            rw [← HPV.out.1] at e1
            have e2 := step_top m2 pn
            rw [← HPV.out.2] at e2
            go_roundw
            case rel =>
              refine ⟨b + 1, by omega, by go_num, (if cmpV pn.n pn.d l2.n l2.d < 0 then pn else l2), (if 0 < cmpV pn.n pn.d m2.n m2.d then pn else m2), by rw [HD.out, ← List.cons_append, extrE_snoc, HE2.out, stepE_some], ?_, ?_⟩
              · rw [← e1, ← e2]; exact heap_set_same 1 _ (heap_set_same 0 _ HBK5.out)
              · exact ((HB5.out.setCell (p := ⟨w3.heap.size, 0, none⟩) (Nat.le_refl _) _).setCell (p := ⟨w3.heap.size, 1, none⟩) (Nat.le_refl _) _).drew.drew
            case measure => simp [intOf]; omega
          · obtain rfl : b = sy.length := by omega
            have HDR := Lib.hid (done_row xs ys vs sx sy a hlt)
            go_wp2_with fail
            go_roundw
            case rel => exact ⟨a + 1, by omega, by go_num, l2, m2, by rw [← HDR.out]; exact HE2.out, HBK2.out, HBQ.out⟩
            case measure => simp [intOf]; omega
      · obtain rfl : a = sx.length := by omega
        have hbr := HBR.out
        obtain ⟨⟨o0, o1⟩, g0, g1⟩ := cells2 HBK.out
        replace f0 := froz_b hbr r0 f0
        replace f1 := froz_b hbr r1 f1
        replace r0 := cell_b' hbr r0
        replace r1 := cell_b' hbr r1
        have HRES : Hid (bnd xs ys vs (xl, xh) (yl, yh) = (l.n / l.d, -(-m.n / m.d))) := HBE.out l m (by rw [HPT.out, ← done_all]; exact HE.out)
        clear hbr c0 c1 c2
        go_wp2_with fail
        refine bodyPost_ret (v := .agg #[.int .i64 (l.n / l.d), .int .i64 (-(-m.n / m.d))]) (by simp [results, Try.results70, go_sem, r0, r1]) rfl ⟨by rw [HRES.out], ?_⟩
        exact ((HB.out.trans (HBR.out.mono HB.out.size)).setCell (p := ⟨w.heap.size + 1 + 1 + 1, 0, none⟩) (by show _ ≤ _ + 1 + 1 + 1; omega) _).setCell (p := ⟨w.heap.size + 1 + 1 + 1, 1, none⟩) (by show _ ≤ _ + 1 + 1 + 1; omega) _
end Go.Proofs.Ytfaiogajaaclcaa
