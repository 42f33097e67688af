/- The walk of the reference's Worst. -/
import Derived.Test.YtfaiogajaaclcaaRb3
namespace Go.Proofs.Ytfaiogajaaclcaa
open Go.RowKit

set_option maxRecDepth 100000 in
set_option maxHeartbeats 4000000 in
theorem rworst_any (xs ys : List Int) (vs : List (List Int)) (X Y V : Option Addr) (cx cy cv : Nat) (x y : Int × Int) (w : World) (hS : TSm xs ys vs) (hR : TabR w X Y V cx cy cv xs ys vs) :
   Calls Try.prog 30 #[.agg #[.slice X xs.length cx, .slice Y ys.length cy, .slice V vs.length cv], .agg #[.int .i64 x.1, .int .i64 x.2], .agg #[.int .i64 y.1, .int .i64 y.2]] w fun e w' =>
     e = .returned (.tuple #[.int .i64 (worstR xs ys vs x y).1.1, .int .i64 (worstR xs ys vs x y).1.2, .int .i64 (worstR xs ys vs x y).2]) ∧ Below w.heap.size w w' := by
  obtain ⟨xl, xh⟩ := x
  obtain ⟨yl, yh⟩ := y
  show Calls Try.prog 30 #[.agg #[.slice X xs.length cx, .slice Y ys.length cy, .slice V vs.length cv], .agg #[.int .i64 xl, .int .i64 xh], .agg #[.int .i64 yl, .int .i64 yh]] w _
  have HS := Lib.hid hS
  obtain ⟨W0, hW0⟩ : ∃ W0, (((w.alloc (.cells #[.slice X xs.length cx, .slice Y ys.length cy, .slice V vs.length cv] 25)).alloc (.cells #[.int .i64 xl, .int .i64 xh] 27)).alloc (.cells #[.int .i64 yl, .int .i64 yh] 27)) = W0 := ⟨_, rfl⟩
  have HB : Hid (Below w.heap.size w W0) := by
    unfold Hid; rw [← hW0]
    repeat (first | exact Below.refl _ _ | refine Below.alloc ?_ (by simp <;> omega) _)
  have ha : W0.heap[w.heap.size]? = some (.cells #[.slice X xs.length cx, .slice Y ys.length cy, .slice V vs.length cv] 25) := by
    rw [← hW0]; simp only [heap_alloc_at, World.size_alloc]; repeat (first | rw [if_pos trivial] | rw [if_neg (by omega)])
  have hb : W0.heap[w.heap.size + 1]? = some (.cells #[.int .i64 xl, .int .i64 xh] 27) := by
    rw [← hW0]; simp only [heap_alloc_at, World.size_alloc]; repeat (first | rw [if_pos trivial] | rw [if_neg (by omega)])
  have hc : W0.heap[w.heap.size + 1 + 1]? = some (.cells #[.int .i64 yl, .int .i64 yh] 27) := by
    rw [← hW0]; simp only [heap_alloc_at, World.size_alloc]; repeat (first | rw [if_pos trivial] | rw [if_neg (by omega)])
  obtain ⟨⟨c0, c1, c2⟩, _⟩ := cells3 ha
  obtain ⟨⟨p0, p1⟩, _⟩ := cells2 hb
  obtain ⟨⟨q0, q1⟩, _⟩ := cells2 hc
  have HR := Lib.hid (hR.below HB.out)
  have HW0 := Lib.hid hW0
  clear hW0 ha hb hc hR hS
  go_enter Try.func30, Try.ntmps30
  go_wp2_with fail
  rw [HW0.out]
  refine (rcb_any xs ys vs X Y V cx cy cv (xl, xh) (yl, yh) _ HS.out HR.out).mono ?_
  rintro e w1 ⟨rfl, hb1⟩
  replace c0 := cell_b hb1 c0
  replace c1 := cell_b hb1 c1
  replace c2 := cell_b hb1 c2
  replace p0 := cell_b hb1 p0
  replace p1 := cell_b hb1 p1
  replace q0 := cell_b hb1 q0
  replace q1 := cell_b hb1 q1
  replace HR := Lib.hid (HR.out.below hb1)
  replace HB := Lib.hid (HB.out.trans (hb1.mono HB.out.size))
  clear hb1
  by_cases he : (cpErr xs ys vs (xl, xh) (yl, yh) != 0) = true
  · have R : Hid (worstR xs ys vs (xl, xh) (yl, yh) = ((0, 0), cpErr xs ys vs (xl, xh) (yl, yh))) := by unfold Hid worstR; rw [if_pos he]
    generalize cpErr xs ys vs (xl, xh) (yl, yh) = ce at *
    go_wp2_with fail
    go_ret3
    exact ⟨by rw [R.out]; rfl, HB.out⟩
  · have he' : (cpErr xs ys vs (xl, xh) (yl, yh) != 0) = false := by simpa using he
    have h0 : cpErr xs ys vs (xl, xh) (yl, yh) = 0 := by simpa using he'
    have hO := cp_zero h0
    have R : Hid (worstR xs ys vs (xl, xh) (yl, yh) = (wst xs ys vs (xl, xh) (yl, yh), 0)) := by unfold Hid worstR; rw [if_neg he]
    rw [h0]
    have HT := Lib.hid hO.t
    have hx12 := hO.t.ax.twelve
    have hy12 := hO.t.ay.twelve
    have HOX : Hid (∀ a ∈ stopsL xs xl xh, OnAx xs a) := fun a ha => OnAx_stops hO.x1 hO.x2 hO.x3 ha
    have HOY : Hid (∀ a ∈ stopsL ys yl yh, OnAx ys a) := fun a ha => OnAx_stops hO.y1 hO.y2 hO.y3 ha
    have lx := stopsL_len xs xl xh
    have ly := stopsL_len ys yl yh
    have HX0 : Hid ((stopsL xs xl xh)[0]?.getD 0 = xl ∧ 1 ≤ (stopsL xs xl xh).length) := by unfold Hid stopsL; simp
    have HY0 : Hid ((stopsL ys yl yh)[0]?.getD 0 = yl ∧ 1 ≤ (stopsL ys yl yh).length) := by unfold Hid stopsL; simp
    have HPT : Hid (pts xs ys vs (xl, xh) (yl, yh) = allPts xs ys vs (stopsL xs xl xh) (stopsL ys yl yh)) := rfl
    have HBE : Hid (∀ l m, extrE (ptAt xs ys vs xl yl :: pts xs ys vs (xl, xh) (yl, yh)) = some (l, m) → wst xs ys vs (xl, xh) (yl, yh) = (m.x, m.y)) := fun l m h => wst_eq ((extrE_first xs ys vs (xl, xh) (yl, yh)).symm.trans h)
    clear he he' h0 hO
    generalize hsx : stopsL xs xl xh = sx at *
    generalize hsy : stopsL ys yl yh = sy at *
    have HSX := Lib.hid hsx
    have HSY := Lib.hid hsy
    clear hsx hsy
    go_upto_region 4 with fail
    go_cut [10, 11] (fun s7 s8 wx => BdMid sx sy w1 s7 s8 wx)
    case first =>
      have HBc := Lib.hid (Below.refl w1.heap.size w1)
      go_region_held3 (fun w' => w'.cell? ⟨w.heap.size, 0, none⟩ = some (.slice X xs.length cx) ∧ w'.cell? ⟨w.heap.size, 1, none⟩ = some (.slice Y ys.length cy) ∧ w'.cell? ⟨w.heap.size + 1, 0, none⟩ = some (.int .i64 xl) ∧ w'.cell? ⟨w.heap.size + 1, 1, none⟩ = some (.int .i64 xh) ∧ w'.cell? ⟨w.heap.size + 1 + 1, 0, none⟩ = some (.int .i64 yl) ∧ w'.cell? ⟨w.heap.size + 1 + 1, 1, none⟩ = some (.int .i64 yh)) (refine ⟨cell_b' (W := w1) ?_ c0, cell_b' (W := w1) ?_ c1, cell_b' (W := w1) ?_ p0, cell_b' (W := w1) ?_ p1, cell_b' (W := w1) ?_ q0, cell_b' (W := w1) ?_ q1⟩ <;> (repeat (first | with_reducible exact HBc.out | with_reducible refine Below.alloc ?_ (by have := HBc.out.size; simp <;> omega) _ | with_reducible refine Below.drew ?_ | with_reducible refine Below.setCell ?_ (by have := HBc.out.size; simp <;> omega) _)))
        (first | (go_at_call 79; have hia := HIA.out; refine (rcorners_any Y ys cy yl yh _ (by omega) (HR.out.hY.below (by (repeat (first | with_reducible exact HBc.out | with_reducible refine Below.alloc ?_ (by have := HBc.out.size; simp <;> omega) _ | with_reducible refine Below.drew ?_ | with_reducible refine Below.setCell ?_ (by have := HBc.out.size; simp <;> omega) _))))).mono ?_; rw [HSY.out]; rintro e w5 ⟨B, cb, rfl, hI, _, _, hb5⟩; have HIB := Lib.hid hI; replace HIA := Lib.hid (hia.below hb5); have hbw := bel_step (W0 := w1) (by (repeat (first | with_reducible exact HBc.out | with_reducible refine Below.alloc ?_ (by have := HBc.out.size; simp <;> omega) _ | with_reducible refine Below.drew ?_ | with_reducible refine Below.setCell ?_ (by have := HBc.out.size; simp <;> omega) _))) hb5; replace HBc := Lib.hid hbw; clear hb5 hbw hI hia) | (go_at_call 79; refine (rcorners_any X xs cx xl xh _ (by omega) (HR.out.hX.below (by (repeat (first | with_reducible exact HBc.out | with_reducible refine Below.alloc ?_ (by have := HBc.out.size; simp <;> omega) _ | with_reducible refine Below.drew ?_ | with_reducible refine Below.setCell ?_ (by have := HBc.out.size; simp <;> omega) _))))).mono ?_; rw [HSX.out]; rintro e w5 ⟨A, ca, rfl, hI, _, _, hb5⟩; have HIA := Lib.hid hI; have hbw := bel_step (W0 := w1) (by (repeat (first | with_reducible exact HBc.out | with_reducible refine Below.alloc ?_ (by have := HBc.out.size; simp <;> omega) _ | with_reducible refine Below.drew ?_ | with_reducible refine Below.setCell ?_ (by have := HBc.out.size; simp <;> omega) _))) hb5; replace HBc := Lib.hid hbw; clear hb5 hbw hI))
      all_goals
        go_wp2_with fail
        go_meet
        exact ⟨A, B, ca, cb, rfl, rfl, HIA.out, HIB.out, HBc.out⟩
    case rest =>
      obtain ⟨A, B, ca, cb, rfl, rfl, hIA, hIB, hbx⟩ := hcut
      obtain ⟨w2, rfl⟩ : ∃ w2 : World, w2 = wc := ⟨_, rfl⟩
      replace c0 := cell_b' hbx c0
      replace c1 := cell_b' hbx c1
      replace c2 := cell_b' hbx c2
      replace HR := Lib.hid (HR.out.below hbx)
      replace HB := Lib.hid (HB.out.trans (hbx.mono HB.out.size))
      have HIA := Lib.hid hIA
      have HIB := Lib.hid hIB
      have lx1 := HX0.out.2
      have ly1 := HY0.out.2
      obtain ⟨ba, oa, ea, hba, hca⟩ := hIA (by omega)
      obtain ⟨bb, ob, eb, hbb, hcb⟩ := hIB (by omega)
      have a0 := hca 0 (by omega)
      have b0 := hcb 0 (by omega)
      simp only [Nat.add_zero] at a0 b0
      rw [HX0.out.1] at a0
      rw [HY0.out.1] at b0
      subst ea eb
      have hox := HOX.out xl (by rw [← HX0.out.1]; have := HX0.out.2; simp [show 0 < sx.length by omega])
      have hoy := HOY.out yl (by rw [← HY0.out.1]; have := HY0.out.2; simp [show 0 < sy.length by omega])
      have t1 : (0 : Int) < (sx.length : Int) := by omega
      have t2 : (0 : Int) < (sy.length : Int) := by omega
      have t3 : 0 < sx.length := by omega
      have t4 : 0 < sy.length := by omega
      have HOn := Lib.hid (And.intro hox hoy)
      clear hbx hca hcb p0 p1 q0 q1 hIA hIB hox hoy
      go_wp2_with fail
      go_quiet (fail)
      go_wp2_with fail
      refine (value_any xs ys vs X Y V cx cy cv xl yl _ HT.out (HR.out.below (Below.drewN' (Below.refl _ _) _)) HOn.out.1 HOn.out.2).mono ?_
      rintro e w3 ⟨rfl, hb3⟩
      replace hb3 : Below w2.heap.size w2 w3 := bel_step (Below.drewN' (Below.refl _ _) _) hb3
      replace c0 := cell_b' hb3 c0
      replace c1 := cell_b' hb3 c1
      replace c2 := cell_b' hb3 c2
      replace HR := Lib.hid (HR.out.below hb3)
      replace HIA := Lib.hid (HIA.out.below hb3)
      replace HIB := Lib.hid (HIB.out.below hb3)
      replace HB := Lib.hid (HB.out.trans (hb3.mono HB.out.size))
      obtain ⟨i1, i2, i3, i4⟩ := ptAt_is HT.out HOn.out.1 HOn.out.2
      generalize hpp : ptAt xs ys vs xl yl = pp at *
      have HST0 : Hid (WsSt xs ys vs pp [] (.int .i64 xl) (.int .i64 yl) (.int .i64 (valN xs ys vs xl yl)) (.int .i64 (valD xs ys xl yl))) := by
        refine ⟨pp, pp, rfl, ?_, ?_, ?_, ?_, ?_, ?_, ?_, ?_⟩ <;> (try rw [i3]) <;> (try rw [i4]) <;> first | exact HOn.out.1 | exact HOn.out.2 | exact i1 | exact i2 | rfl
      clear hpp hb3 a0 b0 i1 i2 i3 i4 HOn
      generalize valN xs ys vs xl yl = nn at *
      generalize valD xs ys xl yl = dd at *
      go_wp2_with fail
      go_loopw [12, 13, 14, 15, 16, 17, 18, 19] (fun sX sY sn sd i _ _ _ wr => ∃ a : Nat, a ≤ sx.length ∧ i = .int .i64 a ∧ WsSt xs ys vs pp (donePts xs ys vs sx sy a 0) sX sY sn sd ∧ Below w3.heap.size w3 wr) (fun _ _ _ _ i _ _ _ _ => sx.length - (intOf i).toNat)
      case atStart => exact ⟨0, by omega, rfl, by rw [done_zero]; exact HST0.out, Below.refl _ _⟩
      case round =>
        obtain ⟨a, ha, rfl, hst, hbr⟩ := hrel
        have HST := Lib.hid hst
        have HBR := Lib.hid hbr
        clear HST0
        by_cases hlt : a < sx.length
        · clear hst hbr
          go_wp2_with fail
          go_loopw [12, 13, 14, 15, 17, 18, 19] (fun sX sY sn sd k _ _ wq => ∃ b : Nat, b ≤ sy.length ∧ k = .int .i64 b ∧ WsSt xs ys vs pp (donePts xs ys vs sx sy a b) sX sY sn sd ∧ Below w3.heap.size w3 wq) (fun _ _ _ _ k _ _ _ => sy.length - (intOf k).toNat)
          case atStart => exact ⟨0, by omega, rfl, HST.out, HBR.out⟩
          case round =>
            obtain ⟨b, hb, rfl, ⟨l2, m2, hE2, mx1, my1, mn1, md1, rfl, rfl, rfl, rfl⟩, hbq⟩ := hrel
            obtain ⟨wp, rfl⟩ : ∃ wp : World, wp = wr := ⟨_, rfl⟩
            have HE2 := Lib.hid hE2
            have HBQ := Lib.hid hbq
            by_cases hlt2 : b < sy.length
            · replace c0 := cell_b' hbq c0
              replace c1 := cell_b' hbq c1
              replace c2 := cell_b' hbq c2
              obtain ⟨ba2, oa2, ea, hba2, hca⟩ := (HIA.out.below hbq) (by omega)
              obtain ⟨bb2, ob2, eb, hbb2, hcb⟩ := (HIB.out.below hbq) (by omega)
              cases ea
              cases eb
              have a0 := hca a (by omega)
              have b0 := hcb b (by omega)
              have hox := HOX.out (sx[a]?.getD 0) (by simp [hlt])
              have hoy := HOY.out (sy[b]?.getD 0) (by simp [hlt2])
              have HD := Lib.hid (done_succ xs ys vs sx sy a b hlt2)
              have hpi := ptAt_is HT.out hox hoy
              obtain ⟨vd1, vd2, vn1, vn2⟩ := val_bd HT.out hox hoy
              obtain ⟨ud1, ud2, un1, un2⟩ := val_bd HT.out mx1 my1
              generalize hxa : sx[a]?.getD 0 = xa at a0 hox vd1 vd2 vn1 vn2 HD hpi
              generalize hyb : sy[b]?.getD 0 = yb at b0 hoy vd1 vd2 vn1 vn2 HD hpi
              generalize ptAt xs ys vs xa yb = pn at HD hpi
              obtain ⟨i1, i2, i3, i4⟩ := hpi
              rw [← i3, ← i4] at i1
              rw [← i3, ← i4] at i2
              have hpx : OnAx xs pn.x := by rw [i3]; exact hox
              have hpy : OnAx ys pn.y := by rw [i4]; exact hoy
              have hless := less_top HT.out mx1 my1 mn1 md1 hpx hpy i1 i2
              rw [i3, i4] at hless
              have HLS := Lib.hid hless
              have HPN := Lib.hid (And.intro i1 (And.intro i2 (And.intro i3 i4)))
              have HPO := Lib.hid (And.intro hpx hpy)
              have HMM := Lib.hid (And.intro mx1 (And.intro my1 (And.intro mn1 md1)))
              have HOn := Lib.hid (And.intro hox hoy)
              have HRq := Lib.hid (HR.out.below hbq)
              have t5 : (a : Int) < (sx.length : Int) := by omega
              have t6 : (b : Int) < (sy.length : Int) := by omega
              have t7 : (0 : Int) ≤ (a : Int) := by omega
              have t8 : (0 : Int) ≤ (b : Int) := by omega
              have HBc := Lib.hid (Below.refl wp.heap.size wp)
              clear hxa hyb hox hoy hca hcb hbq hE2 mx1 my1 mn1 md1 i1 i2 i3 i4 hpx hpy hless HST HBR
              generalize hN : valN xs ys vs m2.x m2.y = mN at *
              generalize hD : valD xs ys m2.x m2.y = mD at *
              have HMN := Lib.hid (And.intro hN hD)
              clear hN hD
              go_wp2_with fail
              go_region_held3 (fun w' => w'.cell? ⟨w.heap.size, 0, none⟩ = some (.slice X xs.length cx) ∧ w'.cell? ⟨w.heap.size, 1, none⟩ = some (.slice Y ys.length cy) ∧ w'.cell? ⟨w.heap.size, 2, none⟩ = some (.slice V vs.length cv) ∧ w'.cell? ⟨ba, oa + a, none⟩ = some (.int .i64 xa) ∧ w'.cell? ⟨bb, ob + b, none⟩ = some (.int .i64 yb)) (refine ⟨cell_b' (W := wp) ?_ c0, cell_b' (W := wp) ?_ c1, cell_b' (W := wp) ?_ c2, cell_b' (W := wp) ?_ a0, cell_b' (W := wp) ?_ b0⟩ <;> (repeat (first | with_reducible exact HBc.out | with_reducible refine Below.alloc ?_ (by have := HBc.out.size; simp <;> omega) _ | with_reducible refine Below.drew ?_ | with_reducible refine Below.setCell ?_ (by have := HBc.out.size; simp <;> omega) _)))
                (first | (go_at_call 80; refine (value_any xs ys vs X Y V cx cy cv xa yb _ HT.out (HRq.out.below (by (repeat (first | with_reducible exact HBc.out | with_reducible refine Below.alloc ?_ (by have := HBc.out.size; simp <;> omega) _ | with_reducible refine Below.drew ?_ | with_reducible refine Below.setCell ?_ (by have := HBc.out.size; simp <;> omega) _)))) HOn.out.1 HOn.out.2).mono ?_; rintro e w5 ⟨rfl, hb5⟩; have hbw := bel_step (W0 := wp) (by (repeat (first | with_reducible exact HBc.out | with_reducible refine Below.alloc ?_ (by have := HBc.out.size; simp <;> omega) _ | with_reducible refine Below.drew ?_ | with_reducible refine Below.setCell ?_ (by have := HBc.out.size; simp <;> omega) _))) hb5; replace HBc := Lib.hid hbw; clear hb5 hbw))
              have hb5 := HBc.out
              replace a0 := cell_b' hb5 a0
              replace b0 := cell_b' hb5 b0
              have HB5 := Lib.hid (HBQ.out.trans (HBc.out.mono HBQ.out.size))
              generalize hN : valN xs ys vs xa yb = nn2 at *
              generalize hD : valD xs ys xa yb = dd2 at *
              have HND := Lib.hid (And.intro hN hD)
              clear hb5 c0 c1 c2 HBc HBQ hN hD
              go_wp2_with fail
              refine (rless_any mN mD nn2 dd2 _ (by omega) (by omega) (by omega) (by omega) (by omega) (by omega) (by omega) (by omega)).mono ?_
              rintro e w6 ⟨rfl, rfl⟩
              by_cases hl : mN * dd2 < nn2 * mD
              · rw [decide_eq_true hl]
                have hcm := HLS.out.1 hl
                have HC := Lib.hid hcm
                clear hl hcm
                go_wp2_with fail
                go_roundw
                case rel =>
                  refine ⟨b + 1, by omega, by go_num, ⟨(if cmpV pn.n pn.d l2.n l2.d < 0 then pn else l2), pn, by rw [HD.out, ← List.cons_append, extrE_snoc, HE2.out, stepE_some, if_pos HC.out], HPO.out.1, HPO.out.2, HPN.out.1, HPN.out.2.1, ?_, ?_, ?_, ?_⟩, HB5.out⟩ <;> (try rw [HPN.out.2.2.1]) <;> (try rw [HPN.out.2.2.2]) <;> first | rfl | rw [HND.out.1] | rw [HND.out.2]
                case measure => simp [intOf]; omega
              · rw [decide_eq_false hl]
                have HC : Hid (¬ 0 < cmpV pn.n pn.d m2.n m2.d) := fun q => hl (HLS.out.2 q)
                clear hl
                go_wp2_with fail
                go_roundw
                case rel =>
                  exact ⟨b + 1, by omega, by go_num, ⟨(if cmpV pn.n pn.d l2.n l2.d < 0 then pn else l2), m2, by rw [HD.out, ← List.cons_append, extrE_snoc, HE2.out, stepE_some, if_neg (c := 0 < cmpV pn.n pn.d m2.n m2.d) (by have := HC.out; omega)], HMM.out.1, HMM.out.2.1, HMM.out.2.2.1, HMM.out.2.2.2, rfl, rfl, by rw [HMN.out.1], by rw [HMN.out.2]⟩, HB5.out⟩
                case measure => simp [intOf]; omega
            · obtain rfl : b = sy.length := by omega
              have HDR := Lib.hid (done_row xs ys vs sx sy a hlt)
              have HM2 := Lib.hid (And.intro mx1 (And.intro my1 (And.intro mn1 md1)))
              clear mx1 my1 mn1 md1 hbq
              go_wp2_with fail
              go_roundw
              case rel => exact ⟨a + 1, by omega, by go_num, ⟨l2, m2, by rw [← HDR.out]; exact HE2.out, HM2.out.1, HM2.out.2.1, HM2.out.2.2.1, HM2.out.2.2.2, rfl, rfl, rfl, rfl⟩, HBQ.out⟩
              case measure => simp [intOf]; omega
        · obtain rfl : a = sx.length := by omega
          obtain ⟨l, m, hE, _, _, _, _, rfl, rfl, rfl, rfl⟩ := hst
          have HRES : Hid (wst xs ys vs (xl, xh) (yl, yh) = (m.x, m.y)) := HBE.out l m (by rw [HPT.out, ← done_all]; exact hE)
          clear hE hbr c0 c1 c2
          go_wp2_with fail
          go_ret3
          exact ⟨by rw [R.out, HRES.out]; rfl, HB.out.trans (HBR.out.mono HB.out.size)⟩
end Go.Proofs.Ytfaiogajaaclcaa
