/- The walk of the iterator spans.corners$1. -/
import Derived.Test.YtfaiogajaaclcaaIter
namespace Go.Proofs.Ytfaiogajaaclcaa
open Go.RowKit Go.Shelf
attribute [local go_sem] Oper.semAt_some

theorem OnAx_stops {l : List Int} {lo hi x : Int} (h1 : l[0]?.getD 0 ≤ lo) (h2 : hi ≤ l[l.length-1]?.getD 0) (h : lo ≤ hi) (hx : x ∈ stopsL l lo hi) : OnAx l x := by
  unfold stopsL midL at hx
  simp only [List.cons_append, List.mem_cons, List.mem_append, List.mem_filter, Bool.and_eq_true, decide_eq_true_eq] at hx
  rcases hx with rfl | ⟨_, h3, h4⟩ | h5
  · exact ⟨h1, by omega⟩
  · exact ⟨by omega, by omega⟩
  · split at h5
    · simp at h5; subst h5; exact ⟨by omega, h2⟩
    · simp at h5
theorem stopsL_len (l : List Int) (lo hi : Int) : (stopsL l lo hi).length ≤ l.length + 2 := by
  have h1 := midL_len l lo hi
  unfold stopsL
  split <;> simp <;> omega
theorem enc_at {xs ys : List Int} {vs : List (List Int)} {x y : Int} (hT : Tbl xs ys vs) (hx : OnAx xs x) (hy : OnAx ys y) :
    encP (ptAt xs ys vs x y) = #[.agg #[.int .i64 x, .int .i64 y, .int .i64 (atN xs ys vs x y), .int .i64 (atD xs ys x y)]] := by
  obtain ⟨h1, h2, h3, h4⟩ := mkPt_at hT hx hy
  unfold encP ptAt
  rw [h1, h2, h3, h4]
set_option maxRecDepth 100000 in
set_option maxHeartbeats 1000000 in
theorem corners1_in (n : Nat) (hn : 3 ≤ n) (l bt bx bY n1 n2 : Nat) (xs ys : List Int) (vs : List (List Int)) (X Y V : Option Addr) (cx cy cv : Nat) (xl xh yl yh : Int)
    (hT : Tbl xs ys vs) (hx1 : xs[0]?.getD 0 ≤ xl) (hx2 : xh ≤ xs[xs.length-1]?.getD 0) (hx : xl ≤ xh) (hy1 : ys[0]?.getD 0 ≤ yl) (hy2 : yh ≤ ys[ys.length-1]?.getD 0) (hy : yl ≤ yh)
    (w0 W : World) (hR : TabR w0 X Y V cx cy cv xs ys vs) (hw0 : w0.heap.size ≤ n1) (hn2 : n2 ≤ bt) (_hbx : n2 ≤ bx) (hbY : n2 ≤ bY) (hKW : KB n1 n2 w0 W) (hn2W : n2 ≤ W.heap.size)
    (ht0 : W.cell? ⟨bt, 0, none⟩ = some (.slice X xs.length cx)) (ht1 : W.cell? ⟨bt, 1, none⟩ = some (.slice Y ys.length cy)) (ht2 : W.cell? ⟨bt, 2, none⟩ = some (.slice V vs.length cv))
    (hbx0 : W.cell? ⟨bx, 0, none⟩ = some (.int .i64 xl)) (hbx1 : W.cell? ⟨bx, 1, none⟩ = some (.int .i64 xh)) (hby0 : W.cell? ⟨bY, 0, none⟩ = some (.int .i64 yl)) (hby1 : W.cell? ⟨bY, 1, none⟩ = some (.int .i64 yh))
    (J Jx : List Pt → World → Prop) (hJ : AbidesFrom W.heap.size J) (_hJx : AbidesFrom W.heap.size Jx)
    (hYd : ∀ pre x W1, J pre W1 → pre.length < (allPts xs ys vs (stopsL xs xl xh) (stopsL ys yl yh)).length → YieldAt Fence.wide (n - 1) Try.prog l (encP x) W1 fun e W' =>
      (e = .returned (.bool true) ∧ J (pre ++ [x]) W' ∧ KB n1 n2 W1 W') ∨ (e = .returned (.bool false) ∧ Jx (pre ++ [x]) W')) (h0 : J [] W) :
    CallsIn Fence.wide n Try.prog 109 #[.func (.yield l) #[] #[], .pointer (some ⟨bt, 0, none⟩), .pointer (some ⟨bx, 0, none⟩), .pointer (some ⟨bY, 0, none⟩)] W fun e W' => (∃ v, e = .returned v) ∧
      ((∃ ps, ps = allPts xs ys vs (stopsL xs xl xh) (stopsL ys yl yh) ∧ J ps W') ∨ (∃ pre, pre <+: allPts xs ys vs (stopsL xs xl xh) (stopsL ys yl yh) ∧ Jx pre W')) := by
  have HYD := Lib.hid hYd
  have HJ := Lib.hid hJ
  have H0 := Lib.hid h0
  have HT := Lib.hid hT
  have HRR := Lib.hid hR
  have HKW := Lib.hid hKW
  have t12x := hT.ax.twelve
  have t12y := hT.ay.twelve
  have HT0 := Lib.hid ht0
  have HT1 := Lib.hid ht1
  have HT2 := Lib.hid ht2
  clear hYd hJ h0 hT hR hKW
  refine callsIn_of_wp Try.func109 rfl trivial ?_ rfl
  simp only [Try.ntmps109, List.size_toArray, List.length_cons, List.length_nil, Nat.reduceAdd, Nat.reduceSub, Array.replicate_succ, Array.replicate_zero, List.push_toArray, List.append_toArray, List.nil_append, List.cons_append]
  gi_wp2_with fail
  refine ⟨trivial, fun _ => by omega, (callsIn_wide.2 (stops_any X xs cx xl xh W (by omega) (HRR.out.hX.kb hw0 HKW.out))).mono ?_⟩
  rintro e W1 ⟨SX, cs, rfl, hSX, hlc, hfr, hbW⟩
  have HSX := Lib.hid hSX
  have HFR := Lib.hid hfr
  have hJ1 := HJ.out _ _ _ none H0.out ⟨hbW.os, hbW.tape, hbW.output, hbW.size, fun k hk _ => hbW.block k hk⟩ (fun r e => by cases e)
  have HJ1 := Lib.hid hJ1
  have HBW := Lib.hid hbW
  generalize hsx : stopsL xs xl xh = sx at *
  have hsl : sx.length ≤ 14 := by have := stopsL_len xs xl xh; rw [hsx] at this; omega
  have HSXE := Lib.hid hsx
  clear hSX hlc hfr hbW hJ1 hsx
  gi_wp2_with fail
  gi_loopw [14] (fun i wr => ∃ a : Nat, a ≤ sx.length ∧ i = .int .i64 a ∧ J (donePts xs ys vs sx (stopsL ys yl yh) a 0) wr ∧ KB n1 n2 W1 wr) (fun i _ => sx.length - (intOf i).toNat)
  case atStart =>
    exact ⟨0, by omega, rfl, by rw [done_zero]; exact HJ1.out, KB.refl _ _ _⟩
  case round =>
    obtain ⟨a, ha, rfl, hJa, hKa⟩ := hrel
    obtain ⟨wo, rfl⟩ : ∃ wo : World, wo = wr := ⟨_, rfl⟩
    have hK0 : KB n1 n2 W wo := (KB.of_below HBW.out).trans hKa
    have c0 := (hK0.block (by omega) ht0).1
    have c1 := (hK0.block (by omega) ht1).1
    have c2 := (hK0.block (by omega) ht2).1
    have c3 := (hK0.block (by omega) hby0).1
    have c4 := (hK0.block (by omega) hby1).1
    have HJA := Lib.hid hJa
    have HKA := Lib.hid hKa
    have HK0 := Lib.hid hK0
    clear hJa hKa hK0 ht0 ht1 ht2 hby0 hby1 hbx0 hbx1
    by_cases hlt : a < sx.length
    · obtain ⟨g, off, rfl, hg, hc⟩ := HSX.out (by omega)
      have hg2 : W.heap.size ≤ g := HFR.out _ rfl
      have c5 := (HKA.out.block (by omega) (hc a hlt)).1
      have hox : OnAx xs (sx[a]?.getD 0) := OnAx_stops hx1 hx2 hx (by rw [HSXE.out]; simp [hlt])
      have HOX := Lib.hid hox
      clear hc hox
      generalize hxa : sx[a]?.getD 0 = xa at c5 HOX
      have HXA := Lib.hid hxa
      clear hxa
      gi_wp2_with fail
      refine ⟨trivial, fun _ => by omega, (callsIn_wide.2 (stops_any Y ys cy yl yh wo (by omega) (HRR.out.hY.kb hw0 (HKW.out.trans HK0.out)))).mono ?_⟩
      rintro e W2 ⟨SY, cs2, rfl, hSY, hlc, hfr2, hbW2⟩
      have HSY := Lib.hid hSY
      have HFR2 := Lib.hid hfr2
      have HJ2 := Lib.hid (HJ.out _ _ _ none HJA.out ⟨hbW2.os, hbW2.tape, hbW2.output, hbW2.size, fun k hk _ => hbW2.block k hk⟩ (fun r e => by cases e))
      have HK2 : Hid (KB n1 n2 W W2) := HK0.out.trans (KB.of_below hbW2)
      have HKA2 : Hid (KB n1 n2 W1 W2) := HKA.out.trans (KB.of_below hbW2)
      have hsz2 : W.heap.size ≤ wo.heap.size := HK0.out.size
      have d0 := (HK2.out.block (b := bt) (by omega) HT0.out).1
      generalize hsy : stopsL ys yl yh = sy at *
      have hsl2 : sy.length ≤ 14 := by have := stopsL_len ys yl yh; rw [hsy] at this; omega
      have HSYE := Lib.hid hsy
      clear hSY hlc hfr2 hbW2 hsy c0 c1 c2 c3 c4 d0
      gi_wp2_with fail
      gi_loopw [23] (fun i wq => ∃ b : Nat, b ≤ sy.length ∧ i = .int .i64 b ∧ J (donePts xs ys vs sx sy a b) wq ∧ KB n1 n2 W2 wq) (fun i _ => sy.length - (intOf i).toNat)
      case atStart => exact ⟨0, by omega, rfl, HJ2.out, KB.refl _ _ _⟩
      case round =>
        obtain ⟨b, hb, rfl, hJb, hKb⟩ := hrel
        have hKq : KB n1 n2 W wr := HK2.out.trans hKb
        have c0 := (hKq.block (by omega) HT0.out).1
        have c1 := (hKq.block (by omega) HT1.out).1
        have c2 := (hKq.block (by omega) HT2.out).1
        have HJB := Lib.hid hJb
        have HKQ := Lib.hid hKq
        have HKB := Lib.hid hKb
        clear hJb hKb hKq
        by_cases hlt2 : b < sy.length
        · obtain ⟨g2, off2, rfl, hg2', hc2⟩ := HSY.out (by omega)
          have hgg : wo.heap.size ≤ g2 := HFR2.out _ rfl
          have c6 := (HKB.out.block (by omega) (hc2 b hlt2)).1
          have hoy : OnAx ys (sy[b]?.getD 0) := OnAx_stops hy1 hy2 hy (by rw [HSYE.out]; simp [hlt2])
          have HOY := Lib.hid hoy
          clear hc2 hoy
          generalize hyb : sy[b]?.getD 0 = yb at c6 HOY
          have HYB := Lib.hid hyb
          clear hyb
          gi_wp2_with fail
          refine ⟨trivial, fun _ => by omega, (callsIn_wide.2 (at_any xs ys vs X Y V cx cy cv xa yb wr HT.out (HRR.out.kb hw0 (HKW.out.trans HKQ.out)) HOX.out HOY.out)).mono ?_⟩
          rintro e W3 ⟨rfl, hbW3⟩
          have hJ3 := HJ.out _ _ _ none HJB.out ⟨hbW3.os, hbW3.tape, hbW3.output, hbW3.size, fun k hk _ => hbW3.block k hk⟩ (fun r e => by cases e)
          have HKB3 : Hid (KB n1 n2 W2 W3) := HKB.out.trans (KB.of_below hbW3)
          have hlen := done_len xs ys vs sx sy a b hlt hlt2
          obtain ⟨fn, tmps, assign, body, hy', hR⟩ := HYD.out _ (ptAt xs ys vs xa yb) W3 hJ3 hlen
          rw [enc_at HT.out HOX.out HOY.out] at hy'
          have HDS := Lib.hid (done_succ xs ys vs sx sy a b hlt2)
          rw [HXA.out, HYB.out] at HDS
          generalize donePts xs ys vs sx sy a b = pre at *
          generalize ptAt xs ys vs xa yb = pt at *
          generalize atN xs ys vs xa yb = an at *
          generalize atD xs ys xa yb = ad at *
          have HR := Lib.hid hR
          clear hJ3 hlen hbW3 hR
          gi_wp2_with fail
          refine ⟨fun _ => by omega, HR.out.mono ?_⟩
          rintro e W4 (⟨rfl, hJ4, hk4⟩ | ⟨rfl, hJx4⟩)
          · have HJ4 := Lib.hid hJ4
            have HK4 := Lib.hid (HKB3.out.trans hk4)
            clear hJ4 hk4
            gi_wp2_with fail
            go_roundw
            case rel => exact ⟨b + 1, by omega, by go_num, by rw [HDS.out]; exact HJ4.out, HK4.out⟩
            case measure => simp [intOf]; omega
          · have HP := Lib.hid (done_pre xs ys vs sx sy a (b + 1) hlt)
            rw [HDS.out] at HP
            have HX4 := Lib.hid hJx4
            clear hJx4
            gi_wp2_with fail
            refine bodyPost_ret (results_none rfl _ _ _) rfl ?_
            exact ⟨⟨_, rfl⟩, .inr ⟨_, by rw [HSXE.out, HSYE.out]; exact HP.out, HX4.out⟩⟩
        · obtain rfl : b = sy.length := by omega
          have HDR := Lib.hid (done_row xs ys vs sx sy a hlt)
          gi_wp2_with fail
          go_roundw
          case rel => exact ⟨a + 1, by omega, by go_num, by rw [HSYE.out, ← HDR.out]; exact HJB.out, HKA2.out.trans HKB.out⟩
          case measure => simp [intOf]; omega
    · obtain rfl : a = sx.length := by omega
      gi_wp2_with fail
      go_end0
      exact ⟨⟨_, rfl⟩, .inl ⟨_, rfl, by rw [← done_all, HSXE.out]; exact HJA.out⟩⟩
end Go.Proofs.Ytfaiogajaaclcaa
