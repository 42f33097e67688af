/- Texts of the law SlingHoists, part 8. No conditions. -/
import Derived.Test.YthohcimmoobaoaaPSlingHoists07
import Derived.Deep.RegionWith
import Derived.Deep.RegionLawGrows
import Derived.Deep.RegionHeld3
import Derived.Deep.DeepCutAuto
import Derived.Test.YthohcimmoobaoaaRows
/- The contract of the reference's CheckTable. -/
namespace Go.Proofs.Ythohcimmoobaoaa
open Go.RowKit

def outI (x : Int) : Bool := !wB x (-1000000) 1000000
theorem any_drop {α : Type} (p : α → Bool) (l : List α) (d : α) (k : Nat) (h : k < l.length) : (l.drop k).any p = (p (l[k]?.getD d) || (l.drop (k + 1)).any p) := by
  rw [List.drop_eq_getElem_cons h, List.any_cons, show l[k]?.getD d = l[k] by simp [h]]
set_option maxRecDepth 100000 in
set_option maxHeartbeats 4000000 in
theorem rcheckTable_any (xs ys : List Int) (vs : List (List Int)) (X Y V : Option Addr) (cx cy cv : Nat) (w : World) (hS : TSm xs ys vs) (hR : TabR w X Y V cx cy cv xs ys vs) :
   Calls Try.prog 73 #[.agg #[.slice X xs.length cx, .slice Y ys.length cy, .slice V vs.length cv]] w fun e w' => e = .returned (.int .i64 (tabErr xs ys vs)) ∧ Below w.heap.size w w' := by
  have HXx := Lib.hid hR.hX
  have HYy := Lib.hid hR.hY
  have HVv := Lib.hid hR.hV
  have HSX := Lib.hid hS.x
  have HSY := Lib.hid hS.y
  have hsv := hS.v
  unfold maxLen at hsv
  have HBk0 := Lib.hid (blk_new' w (.cells #[.slice X xs.length cx, .slice Y ys.length cy, .slice V vs.length cv] 40))
  have HB0 := Lib.hid (show Below w.heap.size w (w.alloc (.cells #[.slice X xs.length cx, .slice Y ys.length cy, .slice V vs.length cv] 40)) from (Below.refl _ w).alloc (Nat.le_refl _) _)
  clear hR hS
  go_enter Try.func73, Try.ntmps73
  go_wp2_with fail
  refine (knots_any X xs cx _ HSX.out (HXx.out.below HB0.out)).mono ?_
  rintro e w1 ⟨rfl, hb1⟩
  have HBk1 := Lib.hid (blk' hb1 HBk0.out)
  have HB1 := Lib.hid (HB0.out.trans (hb1.mono HB0.out.size))
  obtain ⟨⟨c0, c1, c2⟩, _⟩ := cells3 HBk1.out
  clear hb1
  by_cases hx : axB xs = true
  · rw [hx]
    have EX := Lib.hid hx
    clear hx
    go_wp2_with fail
    refine (knots_any Y ys cy _ HSY.out (HYy.out.below HB1.out)).mono ?_
    rintro e w2 ⟨rfl, hb2⟩
    have HBk2 := Lib.hid (blk' hb2 HBk1.out)
    have HB2 := Lib.hid (HB1.out.trans (hb2.mono HB1.out.size))
    clear c0 c1 c2 hb2
    obtain ⟨⟨c0, c1, c2⟩, _⟩ := cells3 HBk2.out
    by_cases hy : axB ys = true
    · rw [hy]
      have EY := Lib.hid hy
      clear hy
      by_cases hn : ((vs.length : Int) != (xs.length : Int)) = true
      · have R : Hid (tabErr xs ys vs = 11) := by unfold Hid tabErr tabB; rw [hn]; simp
        go_wp2_with fail
        go_ret
        exact ⟨by rw [R.out]; rfl, HB2.out⟩
      · have hn' : ((vs.length : Int) != (xs.length : Int)) = false := by simpa using hn
        have R : Hid (tabErr xs ys vs = if vs.any (rowBad ys.length) then 11 else 0) := by unfold Hid tabErr tabB; rw [hn', EX.out, EY.out]; cases vs.any (rowBad ys.length) <;> rfl
        clear hn
        go_wp2_with fail
        clear c0 c1 c2
        go_loopw [3, 4] (fun i _ wr => ∃ k : Nat, k ≤ vs.length ∧ i = .int .i64 k ∧ (vs.drop k).any (rowBad ys.length) = vs.any (rowBad ys.length) ∧ Below w2.heap.size w2 wr) (fun i _ _ => vs.length - (intOf i).toNat)
        case atStart => exact ⟨0, by omega, rfl, by simp, Below.refl _ _⟩
        case round =>
          obtain ⟨k, hk, rfl, hp, hbr⟩ := hrel
          obtain ⟨wo, rfl⟩ : ∃ wo : World, wo = wr := ⟨_, rfl⟩
          have HP := Lib.hid hp
          have HBR := Lib.hid hbr
          obtain ⟨⟨c0, c1, c2⟩, _⟩ := cells3 (blk' hbr HBk2.out)
          clear hp hbr
          by_cases hlt : k < vs.length
          · obtain ⟨b, off, rfl, hbl, hc⟩ := HVv.out (by omega)
            obtain ⟨B, d, hc1, hB⟩ := hc k hlt
            have HBB := Lib.hid (HB2.out.trans (HBR.out.mono HB2.out.size))
            have h1 := (HBB.out.cell (p := ⟨b, off + k, none⟩) hbl).trans hc1
            have HI := Lib.hid (hB.below HBB.out)
            have HD := Lib.hid (any_drop (rowBad ys.length) vs [] k hlt)
            clear hc hc1 hB
            generalize hr : vs[k]?.getD [] = r at h1 HI HD
            clear hr
            have t1 : (k : Int) < (vs.length : Int) := by omega
            have t2 : (0 : Int) ≤ (k : Int) := by omega
            by_cases hl : ((r.length : Int) != (ys.length : Int)) = true
            · have HRB : Hid (rowBad ys.length r = true) := by unfold Hid rowBad; rw [hl]; rfl
              go_wp2_with fail
              go_quiet (fail)
              go_wp2_with fail
              go_ret
              exact ⟨by rw [R.out, ← HP.out, HD.out, HRB.out]; rfl, Below.drewN' HBB.out _⟩
            · have hl' : ((r.length : Int) != (ys.length : Int)) = false := by simpa using hl
              have HRB : Hid (rowBad ys.length r = r.any outI) := by unfold Hid rowBad; rw [hl']; rfl
              clear hl
              have hry : r.length ≤ 9223372036854775807 := by
                have := HSY.out
                unfold maxLen at this
                simp at hl'
                omega
              go_wp2_with fail
              go_quiet (fail)
              go_wp2_with fail
              go_loopw [4] (fun i wq => ∃ j : Nat, j ≤ r.length ∧ i = .int .i64 j ∧ (r.drop j).any outI = r.any outI ∧ Below wo.heap.size wo wq) (fun i _ => r.length - (intOf i).toNat)
              case atStart => exact ⟨0, by omega, rfl, by simp, Below.drewN' (Below.refl _ _) _⟩
              case round =>
                obtain ⟨j, hj, rfl, hp2, hbq⟩ := hrel
                have HP2 := Lib.hid hp2
                have HBQ := Lib.hid hbq
                have HBQ2 := Lib.hid (HBB.out.trans (hbq.mono HBB.out.size))
                obtain ⟨⟨e0, e1, e2⟩, _⟩ := cells3 (blk' hbq (blk' HBR.out HBk2.out))
                have h2 := cell_b' hbq h1
                clear hp2 hbq
                by_cases hlt2 : j < r.length
                · obtain ⟨b2, off2, rfl, hbl2, hc2⟩ := HI.out (by omega)
                  have h3 := cell_b' HBQ.out (hc2 j hlt2)
                  have HD2 := Lib.hid (any_drop outI r 0 j hlt2)
                  clear hc2
                  generalize hx2 : r[j]?.getD 0 = x at h3 HD2
                  clear hx2
                  go_wp2_with fail
                  refine (from_any _ _ _ _).mono ?_
                  rintro e w' ⟨rfl, rfl⟩
                  by_cases hv : wB x (-1000000) 1000000 = true
                  · rw [hv]
                    have HO : Hid (outI x = false) := by unfold Hid outI; rw [hv]; rfl
                    clear hv
                    go_wp2_with fail
                    go_roundw
                    case rel => exact ⟨j + 1, by omega, by go_num, by rw [← HP2.out, HD2.out, HO.out]; simp, HBQ.out⟩
                    case measure => simp [intOf]; omega
                  · have hv' : wB x (-1000000) 1000000 = false := by simpa using hv
                    rw [hv']
                    have HO : Hid (outI x = true) := by unfold Hid outI; rw [hv']; rfl
                    clear hv hv'
                    go_wp2_with fail
                    go_ret
                    exact ⟨by rw [R.out, ← HP.out, HD.out, HRB.out, ← HP2.out, HD2.out, HO.out]; rfl, HBQ2.out⟩
                · have HZ : Hid (rowBad ys.length r = false) := by unfold Hid; rw [HRB.out, ← HP2.out, List.drop_eq_nil_of_le (by omega)]; rfl
                  go_wp2_with fail
                  go_roundw
                  case rel => exact ⟨k + 1, by omega, by go_num, by rw [← HP.out, HD.out, HZ.out]; simp, HBR.out.trans (HBQ.out.mono HBR.out.size)⟩
                  case measure => simp [intOf]; omega
          · go_wp2_with fail
            go_ret
            exact ⟨by rw [R.out, ← HP.out, List.drop_eq_nil_of_le (by omega)]; rfl, HB2.out.trans (HBR.out.mono HB2.out.size)⟩
    · have hy' : axB ys = false := by simpa using hy
      rw [hy']
      have R : Hid (tabErr xs ys vs = 11) := by unfold Hid tabErr tabB; rw [hy']; simp
      clear hy hy'
      go_wp2_with fail
      go_ret
      exact ⟨by rw [R.out]; rfl, HB2.out⟩
  · have hx' : axB xs = false := by simpa using hx
    rw [hx']
    have R : Hid (tabErr xs ys vs = 11) := by unfold Hid tabErr tabB; rw [hx']; simp
    clear hx hx'
    go_wp2_with fail
    go_ret
    exact ⟨by rw [R.out]; rfl, HB1.out⟩
end Go.Proofs.Ythohcimmoobaoaa
/- The law SpansMeets: it returns true; old memory stays. -/
namespace Go.Proofs.Ythohcimmoobaoaa
open Go.RowKit

theorem blk {W W' : World} {B : Nat} {o : Obj} (hb : Below W.heap.size W W') (h : W.heap[B]? = some o) : W'.heap[B]? = some o := (hb.block _ (Array.getElem?_eq_some_iff.1 h).1).trans h
theorem blk_lt {W : World} {B : Nat} {o : Obj} (h : W.heap[B]? = some o) : B < W.heap.size := (Array.getElem?_eq_some_iff.1 h).1
theorem blk_new (W : World) (o : Obj) : (W.alloc o).heap[W.heap.size]? = some o := World.alloc_heap_new W o
end Go.Proofs.Ythohcimmoobaoaa
/- The contracts of Add, Times, Part, and of what the reference has for them. -/
namespace Go.Proofs.Ythohcimmoobaoaa
open Go.RowKit

theorem cell_b {W W' : World} {B o : Nat} {v : Value} (hb : Below W.heap.size W W') (h : W.cell? ⟨B, o, none⟩ = some v) : W'.cell? ⟨B, o, none⟩ = some v := by
  obtain ⟨ob, ho, _⟩ := cells_of_cell h
  exact (hb.cell (p := ⟨B, o, none⟩) (blk_lt ho)).trans h
theorem froz_b {W W' : World} {B o : Nat} {v : Value} (hb : Below W.heap.size W W') (h : W.cell? ⟨B, o, none⟩ = some v) (hf : W.frozen? ⟨B, o, none⟩ = false) : W'.frozen? ⟨B, o, none⟩ = false := by
  obtain ⟨ob, ho, _⟩ := cells_of_cell h
  exact (hb.frozen (p := ⟨B, o, none⟩) (blk_lt ho)).trans hf
theorem rfloor_eq (a b : Int) (hb : 1 ≤ b) : -((-a + b - 1) / b) = a / b := by
  have e := Int.mul_ediv_add_emod a b
  have e1 := Int.emod_nonneg a (show b ≠ 0 by omega)
  have e2 := Int.emod_lt_of_pos a (show 0 < b by omega)
  have h := ((Int.ediv_emod_unique (a := -a + b - 1) (b := b) (r := b - 1 - a % b) (q := -(a / b)) (by omega)).2 ⟨by rw [Int.mul_neg]; omega, by omega, by omega⟩).1
  rw [h]; omega
set_option maxHeartbeats 400000 in
theorem rfloor_any (a b : Int) (w : World) (hb : 1 ≤ b) (hb' : b ≤ 1000000000000000000) (ha : -1000000000000000000 ≤ a) (ha' : a ≤ 1000000000000000000):
    Calls Try.prog 122 #[.int .i64 a, .int .i64 b] w fun e w' => e = .returned (.int .i64 (a / b)) ∧ w' = w := by
  have F := Lib.hid (rfloor_eq a b hb)
  by_cases h : 0 ≤ a
  · go_enter Try.func122, Try.ntmps122
    go_wp2
    go_ret
    exact ⟨rfl, rfl⟩
  · have hq := ediv_bd (-a + b - 1) b 4000000000000000000 (by omega) hb (by omega) (by omega)
    have hn : 0 ≤ -a + b - 1 := by omega
    go_enter Try.func122, Try.ntmps122
    go_wp2
    go_ret
    exact ⟨by rw [← F.out]; rfl, rfl⟩
set_option maxHeartbeats 400000 in
theorem rceil_any (a b : Int) (w : World) (hb : 1 ≤ b) (hb' : b ≤ 1000000000000000000) (ha : -1000000000000000000 ≤ a) (ha' : a ≤ 1000000000000000000):
    Calls Try.prog 123 #[.int .i64 a, .int .i64 b] w fun e w' => e = .returned (.int .i64 (-(-a / b))) ∧ w' = w := by
  obtain ⟨hq1, hq2⟩ := ediv_bd (-a) b 4000000000000000000 (by omega) hb (by omega) (by omega)
  go_enter Try.func123, Try.ntmps123
  go_wp2_with (go_at_call 122; refine (rfloor_any _ _ _ (by omega) (by omega) (by omega) (by omega)).mono ?_; rintro e w' ⟨rfl, rfl⟩)
  go_ret
  exact ⟨rfl, rfl⟩
end Go.Proofs.Ythohcimmoobaoaa
/- The reference's CheckBound, corners and less. -/
namespace Go.Proofs.Ythohcimmoobaoaa
open Go.RowKit

set_option maxRecDepth 100000 in
set_option maxHeartbeats 2000000 in
theorem rcb_any (xs ys : List Int) (vs : List (List Int)) (X Y V : Option Addr) (cx cy cv : Nat) (x y : Int × Int) (w : World) (hS : TSm xs ys vs) (hR : TabR w X Y V cx cy cv xs ys vs) :
   Calls Try.prog 109 #[.agg #[.slice X xs.length cx, .slice Y ys.length cy, .slice V vs.length cv], .agg #[.int .i64 x.1, .int .i64 x.2], .agg #[.int .i64 y.1, .int .i64 y.2]] w fun e w' => e = .returned (.int .i64 (cpErr xs ys vs x y)) ∧ Below w.heap.size w w' := by
  obtain ⟨xl, xh⟩ := x
  obtain ⟨yl, yh⟩ := y
  show Calls Try.prog 109 #[.agg #[.slice X xs.length cx, .slice Y ys.length cy, .slice V vs.length cv], .agg #[.int .i64 xl, .int .i64 xh], .agg #[.int .i64 yl, .int .i64 yh]] w _
  have HS := Lib.hid hS
  have HE : Hid (cpErr xs ys vs (xl, xh) (yl, yh) = if tabB xs ys vs then (if spErr [(xl, xh), (yl, yh)] != 0 then spErr [(xl, xh), (yl, yh)] else if liesB xs (xl, xh) && liesB ys (yl, yh) then 0 else 1) else 11) := rfl
  obtain ⟨W0, hW0⟩ : ∃ W0, (((w.alloc (.cells #[.slice X xs.length cx, .slice Y ys.length cy, .slice V vs.length cv] 40)).alloc (.cells #[.int .i64 xl, .int .i64 xh] 27)).alloc (.cells #[.int .i64 yl, .int .i64 yh] 27)) = W0 := ⟨_, rfl⟩
  have HB : Hid (Below w.heap.size w W0) := by
    unfold Hid; rw [← hW0]
    repeat (first | exact Below.refl _ _ | refine Below.alloc ?_ (by simp <;> omega) _)
  have ha : W0.heap[w.heap.size]? = some (.cells #[.slice X xs.length cx, .slice Y ys.length cy, .slice V vs.length cv] 40) := by
    rw [← hW0]; simp only [heap_alloc_at, World.size_alloc]; repeat (first | rw [if_pos trivial] | rw [if_neg (by omega)])
  have hb : W0.heap[w.heap.size + 1]? = some (.cells #[.int .i64 xl, .int .i64 xh] 27) := by
    rw [← hW0]; simp only [heap_alloc_at, World.size_alloc]; repeat (first | rw [if_pos trivial] | rw [if_neg (by omega)])
  have hc : W0.heap[w.heap.size + 1 + 1]? = some (.cells #[.int .i64 yl, .int .i64 yh] 27) := by
    rw [← hW0]; simp only [heap_alloc_at, World.size_alloc]; repeat (first | rw [if_pos trivial] | rw [if_neg (by omega)])
  obtain ⟨⟨c0, c1, c2⟩, _⟩ := cells3 ha
  obtain ⟨⟨p0, p1⟩, _⟩ := cells2 hb
  obtain ⟨⟨q0, q1⟩, _⟩ := cells2 hc
  have HR := Lib.hid (hR.below HB.out)
  have HW0 := Lib.hid hW0
  clear hW0 ha hb hc hS hR
  go_enter Try.func109, Try.ntmps109
  go_wp2_with fail
  rw [HW0.out]
  refine (rcheckTable_any xs ys vs X Y V cx cy cv _ HS.out HR.out).mono ?_
  rintro e w1 ⟨rfl, hb1⟩
  replace c0 := cell_b hb1 c0
  replace c1 := cell_b hb1 c1
  replace c2 := cell_b hb1 c2
  replace p0 := cell_b hb1 p0
  replace p1 := cell_b hb1 p1
  replace q0 := cell_b hb1 q0
  replace q1 := cell_b hb1 q1
  replace HR := Lib.hid (HR.out.below hb1)
  replace HB := Lib.hid (HB.out.trans (hb1.mono HB.out.size))
  clear hb1
  by_cases ht : tabB xs ys vs = true
  · have hte : tabErr xs ys vs = 0 := by unfold tabErr; rw [if_pos ht]
    rw [hte]
    rw [if_pos ht] at HE
    have hx2 := (tbl_of ht).ax.two
    have hx12 := (tbl_of ht).ax.twelve
    have hy2 := (tbl_of ht).ay.two
    have hy12 := (tbl_of ht).ay.twelve
    clear ht hte
    go_wp2_with fail
    refine (two_any (xl, xh) (yl, yh) _).mono ?_
    rintro e w2 ⟨rfl, hb2⟩
    replace c0 := cell_b hb2 c0
    replace c1 := cell_b hb2 c1
    replace c2 := cell_b hb2 c2
    replace p0 := cell_b hb2 p0
    replace p1 := cell_b hb2 p1
    replace q0 := cell_b hb2 q0
    replace q1 := cell_b hb2 q1
    replace HR := Lib.hid (HR.out.below hb2)
    replace HB := Lib.hid (HB.out.trans (hb2.mono HB.out.size))
    clear hb2
    by_cases hs : (spErr [(xl, xh), (yl, yh)] != 0) = true
    · rw [if_pos hs] at HE
      generalize spErr [(xl, xh), (yl, yh)] = se at *
      go_wp2_with fail
      go_ret
      exact ⟨by rw [HE.out]; rfl, HB.out⟩
    · have hs' : spErr [(xl, xh), (yl, yh)] = 0 := by simpa using hs
      rw [if_neg hs] at HE
      rw [hs']
      clear hs hs'
      go_wp2_with fail
      refine (between_any X xs cx xl xh _ (by omega) (by omega) HR.out.hX).mono ?_
      rintro e w3 ⟨rfl, hb3⟩
      replace c0 := cell_b hb3 c0
      replace c1 := cell_b hb3 c1
      replace c2 := cell_b hb3 c2
      replace p0 := cell_b hb3 p0
      replace p1 := cell_b hb3 p1
      replace q0 := cell_b hb3 q0
      replace q1 := cell_b hb3 q1
      replace HR := Lib.hid (HR.out.below hb3)
      replace HB := Lib.hid (HB.out.trans (hb3.mono HB.out.size))
      clear hb3
      by_cases l1 : liesB xs (xl, xh) = true
      · rw [l1] at HE ⊢
        clear l1
        go_wp2_with fail
        refine (between_any Y ys cy yl yh _ (by omega) (by omega) HR.out.hY).mono ?_
        rintro e w4 ⟨rfl, hb4⟩
        replace c0 := cell_b hb4 c0
        replace c1 := cell_b hb4 c1
        replace c2 := cell_b hb4 c2
        replace p0 := cell_b hb4 p0
        replace p1 := cell_b hb4 p1
        replace q0 := cell_b hb4 q0
        replace q1 := cell_b hb4 q1
        replace HR := Lib.hid (HR.out.below hb4)
        replace HB := Lib.hid (HB.out.trans (hb4.mono HB.out.size))
        clear hb4
        by_cases l2 : liesB ys (yl, yh) = true
        · rw [l2] at HE ⊢
          clear l2
          go_wp2_with fail
          go_ret
          exact ⟨by rw [HE.out]; rfl, HB.out⟩
        · have l2' : liesB ys (yl, yh) = false := by simpa using l2
          rw [l2'] at HE ⊢
          clear l2 l2'
          go_wp2_with fail
          go_ret
          exact ⟨by rw [HE.out]; rfl, HB.out⟩
      · have l1' : liesB xs (xl, xh) = false := by simpa using l1
        rw [l1'] at HE ⊢
        clear l1 l1'
        go_wp2_with fail
        go_ret
        exact ⟨by rw [HE.out]; rfl, HB.out⟩
  · have hte : tabErr xs ys vs = 11 := by unfold tabErr; rw [if_neg ht]
    rw [hte]
    rw [if_neg ht] at HE
    clear ht hte
    go_wp2_with fail
    go_ret
    exact ⟨by rw [HE.out]; rfl, HB.out⟩
theorem own_drewN {w : World} {base : Nat} {e : TypeId} {s : Nat} {v : Value} {n : Nat} {xs : List Value} (h : w.ownsRow base e s v n xs) (m : Nat) : (w.drewN m).ownsRow base e s v n xs := h
set_option maxRecDepth 100000 in
set_option maxHeartbeats 1000000 in
theorem rcorners_any (A : Option Addr) (l : List Int) (c : Nat) (lo hi : Int) (w : World) (hl : l.length ≤ 1000000) (hA : Ints w A l) :
    Calls Try.prog 120 #[.slice A l.length c, .agg #[.int .i64 lo, .int .i64 hi]] w (OutInts (stopsL l lo hi) w) := by
  obtain ⟨i0, hi0, hz0, hz1, hz2⟩ := info_parts Try.info_int
  have HA := Lib.hid hA
  clear hA
  have hsp : ∀ k, (accL l lo hi k).length ≤ l.length + 1 := accL_len l lo hi
  have HSP := Lib.hid hsp
  have HW1 := Lib.hid (show Below w.heap.size w (w.alloc (.cells #[.int .i64 lo, .int .i64 hi] 27)) from (Below.refl _ _).alloc (Nat.le_refl _) _)
  clear hsp
  go_enter Try.func120, Try.ntmps120
  go_wp2_with fail
  go_loopw [5, 6] (fun v i wr => ∃ k : Nat, k ≤ l.length ∧ i = .int .i64 k ∧ wr.ownsRow (w.heap.size + 1) 3 1 v (accL l lo hi k).length (IV (accL l lo hi k)) ∧
      Below (w.heap.size + 1) (w.alloc (.cells #[.int .i64 lo, .int .i64 hi] 27)) wr) (fun _ i _ => l.length - (intOf i).toNat)
  case atStart =>
    refine ⟨0, by omega, rfl, ?_, (Below.refl _ _).alloc (by simp) _⟩
    have := World.ownsRow_lit (base := w.heap.size + 1) (e := 3) (size := 1) (w.alloc (.cells #[.int .i64 lo, .int .i64 hi] 27)) #[.int .i64 lo] 1 (by simp) (by simp [maxLen]) (by simp)
    simpa [midL, accL, IV] using this
  case round =>
    obtain ⟨k, hk, rfl, hown, hb⟩ := hrel
    have hlo : wr.cell? ⟨w.heap.size, 0, none⟩ = some (.int .i64 lo) := (hb.cell (by simp)).trans (by simp)
    have hhi : wr.cell? ⟨w.heap.size, 1, none⟩ = some (.int .i64 hi) := (hb.cell (by simp)).trans (by simp)
    have hszr := hb.size
    simp only [World.size_alloc] at hszr
    have HOWN := Lib.hid hown
    have HBR := Lib.hid hb
    clear hown hb
    by_cases hlt : k < l.length
    · obtain ⟨b, off, rfl, hbl, hc⟩ := HA.out (by omega)
      have hc1 : wr.cell? ⟨b, off + k, none⟩ = some (.int .i64 (l[k]?.getD 0)) := (HBR.out.cell (p := ⟨b, off + k, none⟩) (by simp; omega)).trans ((World.cell?_alloc_lt _ _ _ hbl).trans (hc k hlt))
      clear hc
      have t1 : (k : Int) < (l.length : Int) := by omega
      have t2 : (0 : Int) ≤ (k : Int) := by omega
      generalize hx : l[k]?.getD 0 = x at hc1
      have HX := Lib.hid hx
      clear hx
      by_cases h1 : lo < x
      · by_cases h2 : x < hi
        · go_wp2_with fail
          go_quiet (fail)
          go_wp2_with (at_builtin; refine wpList_append_own _ rfl _ _ 25 rfl (w.heap.size + 1) 3 i0 (.int .i64 0) 1 8 Try.underlying25 hi0 hz0 hz1 hz2 rfl (by decide) _ _ _ rfl ((own_drewN HOWN.out nq).alloc _) ⟨wr.heap.size, 0, none⟩ 1 1 [.int .i64 x] rfl rfl ?c1 ?c2 ?c3 ?c4 ?c5 ?_)
          case c1 => exact cell_one_new _ _ _
          case c2 => simp [Value.oneCell']
          case c3 => have := HSP.out k; simp only [maxLen]; omega
          case c4 => have := HSP.out k; omega
          case c5 => simp; omega
          intro v' w1 hown1 hg1 _
          have HO1 := Lib.hid hown1
          have HB1 := Lib.hid (((Below.drewN' HBR.out nq).alloc (by simp; omega) _).grown hg1 (by simp; omega) (ownBlock_ge HOWN.out))
          clear hown1 hg1
          go_wp2_with fail
          go_roundw
          case rel => exact ⟨k + 1, by omega, by go_num, by rw [accL_yes hlt HX.out h1 h2, List.length_append, IV_snoc]; exact HO1.out, HB1.out⟩
          case measure => simp [intOf]; omega
        · go_wp2_with fail
          go_quiet (fail)
          go_wp2_with fail
          go_roundw
          case rel => exact ⟨k + 1, by omega, by go_num, by rw [accL_no hlt HX.out (by omega)]; exact own_drewN HOWN.out _, Below.drewN' HBR.out _⟩
          case measure => simp [intOf]; omega
      · have d1 : decide (lo < x) = false := decide_eq_false h1
        have d2 : decide (x > lo) = false := decide_eq_false h1
        go_wp2_with fail
        go_quiet (fail)
        go_wp2_with fail
        go_roundw
        case rel => exact ⟨k + 1, by omega, by go_num, by rw [accL_no hlt HX.out (by omega)]; exact own_drewN HOWN.out _, Below.drewN' HBR.out _⟩
        case measure => simp [intOf]; omega
    · obtain rfl : k = l.length := by omega
      by_cases hlh : lo < hi
      · go_wp2_with (at_builtin; refine wpList_append_own _ rfl _ _ 25 rfl (w.heap.size + 1) 3 i0 (.int .i64 0) 1 8 Try.underlying25 hi0 hz0 hz1 hz2 rfl (by decide) _ _ _ rfl (HOWN.out.alloc _) ⟨wr.heap.size, 0, none⟩ 1 1 [.int .i64 hi] rfl rfl ?c1 ?c2 ?c3 ?c4 ?c5 ?_)
        case c1 => exact cell_one_new _ _ _
        case c2 => simp [Value.oneCell']
        case c3 => have := HSP.out l.length; simp only [maxLen]; omega
        case c4 => have := HSP.out l.length; omega
        case c5 => simp; omega
        intro v' w1 hown1 hg1 _
        have HO1 := Lib.hid hown1
        have HB1 := Lib.hid ((HBR.out.alloc (by omega) _).grown hg1 (by simp; omega) (ownBlock_ge HOWN.out))
        clear hown1 hg1
        go_wp2_with fail
        go_ret
        refine outInts_mk (base := w.heap.size + 1) (e := 3) ?_ (by omega) (HW1.out.trans (HB1.out.mono (by omega)))
        have e : stopsL l lo hi = accL l lo hi l.length ++ [hi] := by rw [accL_end, stopsL, if_pos hlh]
        rw [e, List.length_append, IV_snoc]; exact HO1.out
      · go_wp2_with fail
        go_ret
        refine outInts_mk (base := w.heap.size + 1) (e := 3) ?_ (by omega) (HW1.out.trans (HBR.out.mono (by omega)))
        have e : stopsL l lo hi = accL l lo hi l.length := by rw [accL_end, stopsL, if_neg (by omega)]; simp
        rw [e]; exact HOWN.out
end Go.Proofs.Ythohcimmoobaoaa
/- A copy of a slice, append([]T{}, l...): a new slice of equal elements; nothing old is written. -/
namespace Go.Proofs.Ythohcimmoobaoaa
open Go.RowKit

section
variable {P : Program} (w : World)
/-- what a copy owes: a new slice of so many elements, its cells as given -/
structure Copied (e : TypeId) (size m : Nat) (news : List Value) (w : World) (A : Option Addr) (c : Nat) (w' : World) : Prop where
  len : m ≤ c
  below : Below w.heap.size w w'
  own : 0 < m → w'.ownsRow w.heap.size e size (.slice A m c) m news
end
end Go.Proofs.Ythohcimmoobaoaa
/- The contract of the reference's Copy: an equal table in new memory; nothing old is written. -/
namespace Go.Proofs.Ythohcimmoobaoaa
open Go.RowKit

/-- a slice of ints in a row of its own -/
def OwnI (base : Nat) (w : World) (A : Option Addr) (c : Nat) (l : List Int) : Prop := 0 < l.length → w.ownsRow base 3 1 (.slice A l.length c) l.length (IV l)
theorem OwnI.ints {base : Nat} {w : World} {A : Option Addr} {c : Nat} {l : List Int} (h : OwnI base w A c l) : Ints w A l := fun hl => by
  obtain ⟨A', c', e, hI, _⟩ := ints_of_own (h hl)
  cases e
  exact hI hl
theorem grown_of_below {W W' : World} (hb : Below W.heap.size W W') : W.grownBy W' none := ⟨hb.os, hb.tape, hb.output, hb.size, fun k hk _ => hb.block k hk⟩
/-- a step that turns no block of ints keeps it -/
theorem OwnI.step {base : Nat} {W W' : World} {A : Option Addr} {c : Nat} {l : List Int} {row : Option Nat} (h : OwnI base W A c l) (hg : W.grownBy W' row) (hr : ∀ g cs fz, row = some g → W.heap[g]? = some (.cells cs 3 fz) → False) : OwnI base W' A c l := fun hl => by
  have h1 := h hl
  refine h1.kept hg ?_
  obtain ⟨_, ⟨e, _⟩ | ⟨g, cap, cur, e, hb, hgb, _⟩⟩ := h1
  · left; rw [e]; rfl
  · right
    intro e'
    rw [e] at e'
    exact hr g _ _ (by simpa [Value.ownBlock] using e'.symm) hgb
theorem OwnI.below {base : Nat} {W W' : World} {A : Option Addr} {c : Nat} {l : List Int} (h : OwnI base W A c l) (hb : Below W.heap.size W W') : OwnI base W' A c l := h.step (grown_of_below hb) (fun g cs fz e => by cases e)
theorem OwnI.mono {b1 b2 : Nat} {w : World} {A : Option Addr} {c : Nat} {l : List Int} (h : OwnI b1 w A c l) (hb : b2 ≤ b1) : OwnI b2 w A c l := fun hl => by
  obtain ⟨h1, ⟨e, h0⟩ | ⟨g, cap, cur, e, hbg, rest⟩⟩ := h hl
  · exact ⟨h1, .inl ⟨e, h0⟩⟩
  · exact ⟨h1, .inr ⟨g, cap, cur, e, by omega, rest⟩⟩
/-- rows, each in a row of its own -/
def OwnRows (base : Nat) (w : World) (rs : List Value) (l : List (List Int)) : Prop := rs.length = l.length ∧ ∀ k, k < l.length → ∃ B c, rs[k]? = some (.slice B (l[k]?.getD []).length c) ∧ (l[k]?.getD []).length ≤ c ∧ OwnI base w B c (l[k]?.getD [])
theorem OwnRows.step {base : Nat} {W W' : World} {rs : List Value} {l : List (List Int)} {row : Option Nat} (h : OwnRows base W rs l) (hg : W.grownBy W' row) (hr : ∀ g cs fz, row = some g → W.heap[g]? = some (.cells cs 3 fz) → False) : OwnRows base W' rs l :=
  ⟨h.1, fun k hk => by obtain ⟨B, c, h1, h2, h3⟩ := h.2 k hk; exact ⟨B, c, h1, h2, h3.step hg hr⟩⟩
/-- nil slices have no room -/
def MatN (w : World) (A : Option Addr) (l : List (List Int)) : Prop :=
  0 < l.length → ∃ b off, A = some ⟨b, off, none⟩ ∧ b < w.heap.size ∧ ∀ k, k < l.length → ∃ B c, w.cell? ⟨b, off + k, none⟩ = some (.slice B (l[k]?.getD []).length c) ∧ Ints w B (l[k]?.getD []) ∧ (B = none → c = 0)
structure TabN (w : World) (X Y V : Option Addr) (cx cy cv : Nat) (xs ys : List Int) (vs : List (List Int)) : Prop where
  nx : X = none → cx = 0
  ny : Y = none → cy = 0
  mv : MatN w V vs
theorem MatN.below {w w' : World} {A : Option Addr} {l : List (List Int)} (h : MatN w A l) (hb : Below w.heap.size w w') : MatN w' A l := fun hl => by
  obtain ⟨b, off, e, hlt, hc⟩ := h hl
  refine ⟨b, off, e, Nat.lt_of_lt_of_le hlt hb.size, fun k hk => ?_⟩
  obtain ⟨B, c, h1, h2, h3⟩ := hc k hk
  exact ⟨B, c, (hb.cell (p := ⟨b, off + k, none⟩) hlt).trans h1, h2.below hb, h3⟩
theorem TabN.below {w w' : World} {X Y V : Option Addr} {cx cy cv : Nat} {xs ys : List Int} {vs : List (List Int)} (h : TabN w X Y V cx cy cv xs ys vs) (hb : Below w.heap.size w w') : TabN w' X Y V cx cy cv xs ys vs := ⟨h.nx, h.ny, h.mv.below hb⟩
theorem bel_step {W0 P w5 : World} (h : Below W0.heap.size W0 P) (h' : Below P.heap.size P w5) : Below W0.heap.size W0 w5 := h.trans (h'.mono h.size)
end Go.Proofs.Ythohcimmoobaoaa
/- The reference's bound: it is the program's. -/
namespace Go.Proofs.Ythohcimmoobaoaa
open Go.RowKit

theorem cmpV_self (p : Pt) : cmpV p.n p.d p.n p.d = 0 := by
  have h := cmpV_sign (n := p.n) (m := p.n) p.ok.1 p.ok.1
  omega
theorem extrE_dup (p : Pt) (ps : List Pt) : extrE (p :: p :: ps) = extrE (p :: ps) := by
  unfold extrE
  simp only [List.foldl_cons]
  congr 1
  show stepE (some (p, p)) p = some (p, p)
  rw [stepE_some, cmpV_self]
  simp
theorem pts_cons (xs ys : List Int) (vs : List (List Int)) (x y : Int × Int) : ∃ ps, pts xs ys vs x y = ptAt xs ys vs x.1 y.1 :: ps := by
  unfold pts allPts stopsL rowPts
  exact ⟨_, rfl⟩
theorem extrE_first (xs ys : List Int) (vs : List (List Int)) (x y : Int × Int) : extrE (ptAt xs ys vs x.1 y.1 :: pts xs ys vs x y) = extrE (pts xs ys vs x y) := by
  obtain ⟨ps, h⟩ := pts_cons xs ys vs x y
  rw [h, extrE_dup]
theorem ptAt_is {xs ys : List Int} {vs : List (List Int)} {x y : Int} (hT : Tbl xs ys vs) (hx : OnAx xs x) (hy : OnAx ys y) :
    (ptAt xs ys vs x y).n = atN xs ys vs x y ∧ (ptAt xs ys vs x y).d = atD xs ys x y ∧ (ptAt xs ys vs x y).x = x ∧ (ptAt xs ys vs x y).y = y := by
  unfold ptAt mkPt
  rw [dif_pos (at_bd hT hx hy)]
  exact ⟨rfl, rfl, rfl, rfl⟩
theorem ptAt_val {xs ys : List Int} {vs : List (List Int)} {x y : Int} (hT : Tbl xs ys vs) (hx : OnAx xs x) (hy : OnAx ys y) :
    valN xs ys vs x y / valD xs ys x y = (ptAt xs ys vs x y).n / (ptAt xs ys vs x y).d ∧ -(-valN xs ys vs x y / valD xs ys x y) = -(-(ptAt xs ys vs x y).n / (ptAt xs ys vs x y).d) := by
  obtain ⟨h1, h2, _, _⟩ := ptAt_is hT hx hy
  rw [h1, h2]
  have e := frac_eq (x := x) (y := y) hT
  have b1 := (at_bd hT hx hy).1
  have b2 := (val_bd hT hx hy).1
  exact ⟨(floor_cross b1 b2 e).symm, (ceil_cross b1 b2 e).symm⟩
theorem floor_mono {n d m f : Int} (hd : 1 ≤ d) (hf : 1 ≤ f) (h : n * f ≤ m * d) : n / d ≤ m / f := by
  have h1 : n * f / (d * f) = n / d := Int.mul_ediv_mul_of_pos_left n d (by omega)
  have h2 : m * d / (f * d) = m / f := Int.mul_ediv_mul_of_pos_left m f (by omega)
  rw [← h1, ← h2, Int.mul_comm f d]
  exact Int.ediv_le_ediv (Int.mul_pos (by omega) (by omega)) h
theorem step_low (l p : Pt) : mn (l.n / l.d) (p.n / p.d) = (if cmpV p.n p.d l.n l.d < 0 then p else l).n / (if cmpV p.n p.d l.n l.d < 0 then p else l).d := by
  have h := (cmpV_sign (n := p.n) (m := l.n) p.ok.1 l.ok.1).1
  rw [mn_eq]
  by_cases c : cmpV p.n p.d l.n l.d < 0
  · rw [if_pos c]
    have := floor_mono (n := p.n) (m := l.n) p.ok.1 l.ok.1 (by have := h.1 c; omega)
    omega
  · rw [if_neg c]
    have := floor_mono (n := l.n) (m := p.n) l.ok.1 p.ok.1 (by have := fun q => c (h.2 q); omega)
    omega
theorem step_top (m p : Pt) : mx (-(-m.n / m.d)) (-(-p.n / p.d)) = -(-(if 0 < cmpV p.n p.d m.n m.d then p else m).n / (if 0 < cmpV p.n p.d m.n m.d then p else m).d) := by
  have h := (cmpV_sign (n := p.n) (m := m.n) p.ok.1 m.ok.1).2
  rw [mx_eq]
  by_cases c : 0 < cmpV p.n p.d m.n m.d
  · rw [if_pos c]
    have := floor_mono (n := -p.n) (m := -m.n) p.ok.1 m.ok.1 (by have := h.1 c; rw [Int.neg_mul, Int.neg_mul]; omega)
    omega
  · rw [if_neg c]
    have := floor_mono (n := -m.n) (m := -p.n) m.ok.1 p.ok.1 (by have := fun q => c (h.2 q); rw [Int.neg_mul, Int.neg_mul]; omega)
    omega
end Go.Proofs.Ythohcimmoobaoaa
/- The walk of the reference's bound. -/
namespace Go.Proofs.Ythohcimmoobaoaa
open Go.RowKit

def BdMid (sx sy : List Int) (W0 : World) (s7 s8 : Value) (wx : World) : Prop := ∃ A B ca cb, s7 = .slice A sx.length ca ∧ s8 = .slice B sy.length cb ∧ Ints wx A sx ∧ Ints wx B sy ∧ Below W0.heap.size W0 wx
/-- what bound holds behind some points -/
def BdSt (p0 : Pt) (ps : List Pt) (B : Nat) (W3 wr : World) : Prop := ∃ l m, extrE (p0 :: ps) = some (l, m) ∧ wr.heap[B]? = some (.cells #[.int .i64 (l.n / l.d), .int .i64 (-(-m.n / m.d))] 27) ∧ Below W3.heap.size W3 wr
theorem run_min2 {P : Program} (w : World) (ts : Array TypeId) (t : TypeId) (a b : Int) : (Builtin.min_ ts t #[.int .i64 a, .int .i64 b]).run P w = .ok (.int .i64 (mn a b)) w := by
  simp [Builtin.min_, Builtin.min2, mn]
  try (split <;> rfl)
theorem run_max2 {P : Program} (w : World) (ts : Array TypeId) (t : TypeId) (a b : Int) : (Builtin.max_ ts t #[.int .i64 a, .int .i64 b]).run P w = .ok (.int .i64 (mx a b)) w := by
  simp [Builtin.max_, Builtin.max2, mx]
  try (split <;> rfl)
set_option maxRecDepth 100000 in
set_option maxHeartbeats 4000000 in
theorem rbnd_any (xs ys : List Int) (vs : List (List Int)) (X Y V : Option Addr) (cx cy cv : Nat) (x y : Int × Int) (w : World) (hO : OnT xs ys vs x y) (hR : TabR w X Y V cx cy cv xs ys vs) :
   Calls Try.prog 110 #[.agg #[.slice X xs.length cx, .slice Y ys.length cy, .slice V vs.length cv], .agg #[.int .i64 x.1, .int .i64 x.2], .agg #[.int .i64 y.1, .int .i64 y.2]] w fun e w' => e = .returned (.agg #[.int .i64 (bnd xs ys vs x y).1, .int .i64 (bnd xs ys vs x y).2]) ∧ Below w.heap.size w w' := by
  obtain ⟨xl, xh⟩ := x
  obtain ⟨yl, yh⟩ := y
  show Calls Try.prog 110 #[.agg #[.slice X xs.length cx, .slice Y ys.length cy, .slice V vs.length cv], .agg #[.int .i64 xl, .int .i64 xh], .agg #[.int .i64 yl, .int .i64 yh]] w _
  have HT := Lib.hid hO.t
  have hx12 := hO.t.ax.twelve
  have hy12 := hO.t.ay.twelve
  have HOX : Hid (∀ a ∈ stopsL xs xl xh, OnAx xs a) := fun a ha => OnAx_stops hO.x1 hO.x2 hO.x3 ha
  have HOY : Hid (∀ a ∈ stopsL ys yl yh, OnAx ys a) := fun a ha => OnAx_stops hO.y1 hO.y2 hO.y3 ha
  have lx := stopsL_len xs xl xh
  have ly := stopsL_len ys yl yh
  have HX0 : Hid ((stopsL xs xl xh)[0]?.getD 0 = xl ∧ 1 ≤ (stopsL xs xl xh).length) := by unfold Hid stopsL; simp
  have HY0 : Hid ((stopsL ys yl yh)[0]?.getD 0 = yl ∧ 1 ≤ (stopsL ys yl yh).length) := by unfold Hid stopsL; simp
  have HPT : Hid (pts xs ys vs (xl, xh) (yl, yh) = allPts xs ys vs (stopsL xs xl xh) (stopsL ys yl yh)) := rfl
  have HBE : Hid (∀ l m, extrE (ptAt xs ys vs xl yl :: pts xs ys vs (xl, xh) (yl, yh)) = some (l, m) → bnd xs ys vs (xl, xh) (yl, yh) = (l.n / l.d, -(-m.n / m.d))) := fun l m h => bnd_eq ((extrE_first xs ys vs (xl, xh) (yl, yh)).symm.trans h)
  obtain ⟨W0, hW0⟩ : ∃ W0, ((((w.alloc (.cells #[.slice X xs.length cx, .slice Y ys.length cy, .slice V vs.length cv] 40)).alloc (.cells #[.int .i64 xl, .int .i64 xh] 27)).alloc (.cells #[.int .i64 yl, .int .i64 yh] 27)).alloc (.cells #[.int .i64 0, .int .i64 0] 27)) = W0 := ⟨_, rfl⟩
  have HB : Hid (Below w.heap.size w W0) := by
    unfold Hid; rw [← hW0]
    repeat (first | exact Below.refl _ _ | refine Below.alloc ?_ (by simp <;> omega) _)
  have ha : W0.heap[w.heap.size]? = some (.cells #[.slice X xs.length cx, .slice Y ys.length cy, .slice V vs.length cv] 40) := by
    rw [← hW0]; simp only [heap_alloc_at, World.size_alloc]; repeat (first | rw [if_pos trivial] | rw [if_neg (by omega)])
  have hb : W0.heap[w.heap.size + 1]? = some (.cells #[.int .i64 xl, .int .i64 xh] 27) := by
    rw [← hW0]; simp only [heap_alloc_at, World.size_alloc]; repeat (first | rw [if_pos trivial] | rw [if_neg (by omega)])
  have hc : W0.heap[w.heap.size + 1 + 1]? = some (.cells #[.int .i64 yl, .int .i64 yh] 27) := by
    rw [← hW0]; simp only [heap_alloc_at, World.size_alloc]; repeat (first | rw [if_pos trivial] | rw [if_neg (by omega)])
  have hd : W0.heap[w.heap.size + 1 + 1 + 1]? = some (.cells #[.int .i64 0, .int .i64 0] 27) := by
    rw [← hW0]; simp only [heap_alloc_at, World.size_alloc]; repeat (first | rw [if_pos trivial] | rw [if_neg (by omega)])
  obtain ⟨⟨c0, c1, c2⟩, _⟩ := cells3 ha
  obtain ⟨⟨p0, p1⟩, _⟩ := cells2 hb
  obtain ⟨⟨q0, q1⟩, _⟩ := cells2 hc
  obtain ⟨⟨r0, r1⟩, f0, f1⟩ := cells2 hd
  have z3 := blk_lt hd
  have HR := Lib.hid (hR.below HB.out)
  have HW0 := Lib.hid hW0
  clear hW0 ha hb hc hd hR hO
  generalize hsx : stopsL xs xl xh = sx at *
  generalize hsy : stopsL ys yl yh = sy at *
  have HSX := Lib.hid hsx
  have HSY := Lib.hid hsy
  clear hsx hsy
  go_enter Try.func110, Try.ntmps110
  go_upto_region 1 with fail
  rw [HW0.out]
  go_cut [7, 8] (fun s7 s8 wx => BdMid sx sy W0 s7 s8 wx)
  case first =>
    have HBc := Lib.hid (Below.refl W0.heap.size W0)
    go_region_held3 (fun w' => w'.cell? ⟨w.heap.size, 0, none⟩ = some (.slice X xs.length cx) ∧ w'.cell? ⟨w.heap.size, 1, none⟩ = some (.slice Y ys.length cy) ∧ w'.cell? ⟨w.heap.size + 1, 0, none⟩ = some (.int .i64 xl) ∧ w'.cell? ⟨w.heap.size + 1, 1, none⟩ = some (.int .i64 xh) ∧ w'.cell? ⟨w.heap.size + 1 + 1, 0, none⟩ = some (.int .i64 yl) ∧ w'.cell? ⟨w.heap.size + 1 + 1, 1, none⟩ = some (.int .i64 yh)) (refine ⟨cell_b' (W := W0) ?_ c0, cell_b' (W := W0) ?_ c1, cell_b' (W := W0) ?_ p0, cell_b' (W := W0) ?_ p1, cell_b' (W := W0) ?_ q0, cell_b' (W := W0) ?_ q1⟩ <;> (repeat (first | with_reducible exact HBc.out | with_reducible refine Below.alloc ?_ (by have := HBc.out.size; simp <;> omega) _ | with_reducible refine Below.drew ?_ | with_reducible refine Below.setCell ?_ (by have := HBc.out.size; simp <;> omega) _)))
      (first | (go_at_call 120; have hia := HIA.out; refine (rcorners_any Y ys cy yl yh _ (by omega) (HR.out.hY.below (by (repeat (first | with_reducible exact HBc.out | with_reducible refine Below.alloc ?_ (by have := HBc.out.size; simp <;> omega) _ | with_reducible refine Below.drew ?_ | with_reducible refine Below.setCell ?_ (by have := HBc.out.size; simp <;> omega) _))))).mono ?_; rw [HSY.out]; rintro e w5 ⟨B, cb, rfl, hI, _, _, hb5⟩; have HIB := Lib.hid hI; replace HIA := Lib.hid (hia.below hb5); have hbw := bel_step (W0 := W0) (by (repeat (first | with_reducible exact HBc.out | with_reducible refine Below.alloc ?_ (by have := HBc.out.size; simp <;> omega) _ | with_reducible refine Below.drew ?_ | with_reducible refine Below.setCell ?_ (by have := HBc.out.size; simp <;> omega) _))) hb5; replace HBc := Lib.hid hbw; clear hb5 hbw hI hia) | (go_at_call 120; refine (rcorners_any X xs cx xl xh _ (by omega) (HR.out.hX.below (by (repeat (first | with_reducible exact HBc.out | with_reducible refine Below.alloc ?_ (by have := HBc.out.size; simp <;> omega) _ | with_reducible refine Below.drew ?_ | with_reducible refine Below.setCell ?_ (by have := HBc.out.size; simp <;> omega) _))))).mono ?_; rw [HSX.out]; rintro e w5 ⟨A, ca, rfl, hI, _, _, hb5⟩; have HIA := Lib.hid hI; have hbw := bel_step (W0 := W0) (by (repeat (first | with_reducible exact HBc.out | with_reducible refine Below.alloc ?_ (by have := HBc.out.size; simp <;> omega) _ | with_reducible refine Below.drew ?_ | with_reducible refine Below.setCell ?_ (by have := HBc.out.size; simp <;> omega) _))) hb5; replace HBc := Lib.hid hbw; clear hb5 hbw hI))
    all_goals
      go_wp2_with fail
      go_meet
      exact ⟨A, B, ca, cb, rfl, rfl, HIA.out, HIB.out, HBc.out⟩
  case rest =>
    obtain ⟨A, B, ca, cb, rfl, rfl, hIA, hIB, hbx⟩ := hcut
    obtain ⟨w1, rfl⟩ : ∃ w1 : World, w1 = wc := ⟨_, rfl⟩
    replace c0 := cell_b' hbx c0
    replace c1 := cell_b' hbx c1
    replace c2 := cell_b' hbx c2
    replace f0 := froz_b hbx r0 f0
    replace f1 := froz_b hbx r1 f1
    replace r0 := cell_b' hbx r0
    replace r1 := cell_b' hbx r1
    replace z3 := Nat.lt_of_lt_of_le z3 hbx.size
    replace HR := Lib.hid (HR.out.below hbx)
    replace HB := Lib.hid (HB.out.trans (hbx.mono HB.out.size))
    have HIA := Lib.hid hIA
    have HIB := Lib.hid hIB
    have lx1 := HX0.out.2
    have ly1 := HY0.out.2
    obtain ⟨ba, oa, ea, hba, hca⟩ := hIA (by omega)
    obtain ⟨bb, ob, eb, hbb, hcb⟩ := hIB (by omega)
    have a0 := hca 0 (by omega)
    have b0 := hcb 0 (by omega)
    simp only [Nat.add_zero] at a0 b0
    rw [HX0.out.1] at a0
    rw [HY0.out.1] at b0
    subst ea eb
    have hox := HOX.out xl (by rw [← HX0.out.1]; have := HX0.out.2; simp [show 0 < sx.length by omega])
    have hoy := HOY.out yl (by rw [← HY0.out.1]; have := HY0.out.2; simp [show 0 < sy.length by omega])
    have t1 : (0 : Int) < (sx.length : Int) := by omega
    have t2 : (0 : Int) < (sy.length : Int) := by omega
    have t3 : 0 < sx.length := by omega
    have t4 : 0 < sy.length := by omega
    clear hbx hca hcb p0 p1 q0 q1 hIA hIB
    have HP0 := Lib.hid (ptAt_val HT.out hox hoy)
    obtain ⟨vd1, vd2, vn1, vn2⟩ := val_bd HT.out hox hoy
    have HOn := Lib.hid (And.intro hox hoy)
    have HBc := Lib.hid (Below.refl w1.heap.size w1)
    clear hox hoy
    go_wp2_with fail
    go_region_held3 (fun w' => w'.cell? ⟨w.heap.size, 0, none⟩ = some (.slice X xs.length cx) ∧ w'.cell? ⟨w.heap.size, 1, none⟩ = some (.slice Y ys.length cy) ∧ w'.cell? ⟨w.heap.size, 2, none⟩ = some (.slice V vs.length cv) ∧ w'.cell? ⟨ba, oa, none⟩ = some (.int .i64 xl) ∧ w'.cell? ⟨bb, ob, none⟩ = some (.int .i64 yl)) (refine ⟨cell_b' (W := w1) ?_ c0, cell_b' (W := w1) ?_ c1, cell_b' (W := w1) ?_ c2, cell_b' (W := w1) ?_ a0, cell_b' (W := w1) ?_ b0⟩ <;> (repeat (first | with_reducible exact HBc.out | with_reducible refine Below.alloc ?_ (by have := HBc.out.size; simp <;> omega) _ | with_reducible refine Below.drew ?_ | with_reducible refine Below.setCell ?_ (by have := HBc.out.size; simp <;> omega) _)))
      (first | (go_at_call 121; refine (value_any xs ys vs X Y V cx cy cv xl yl _ HT.out (HR.out.below (by (repeat (first | with_reducible exact HBc.out | with_reducible refine Below.alloc ?_ (by have := HBc.out.size; simp <;> omega) _ | with_reducible refine Below.drew ?_ | with_reducible refine Below.setCell ?_ (by have := HBc.out.size; simp <;> omega) _)))) HOn.out.1 HOn.out.2).mono ?_; rintro e w2 ⟨rfl, hb2⟩; have hbw := bel_step (W0 := w1) (by (repeat (first | with_reducible exact HBc.out | with_reducible refine Below.alloc ?_ (by have := HBc.out.size; simp <;> omega) _ | with_reducible refine Below.drew ?_ | with_reducible refine Below.setCell ?_ (by have := HBc.out.size; simp <;> omega) _))) hb2; replace HBc := Lib.hid hbw; clear hb2 hbw))
    generalize valN xs ys vs xl yl = nn at *
    generalize valD xs ys xl yl = dd at *
    have hb2 := HBc.out
    replace c0 := cell_b' hb2 c0
    replace c1 := cell_b' hb2 c1
    replace c2 := cell_b' hb2 c2
    replace f0 := froz_b hb2 r0 f0
    replace f1 := froz_b hb2 r1 f1
    replace r0 := cell_b' hb2 r0
    replace r1 := cell_b' hb2 r1
    replace z3 := Nat.lt_of_lt_of_le z3 hb2.size
    replace HR := Lib.hid (HR.out.below hb2)
    replace HIA := Lib.hid (HIA.out.below hb2)
    replace HIB := Lib.hid (HIB.out.below hb2)
    replace HB := Lib.hid (HB.out.trans (hb2.mono HB.out.size))
    clear hb2 HBc a0 b0
    go_wp2_with fail
    refine (rfloor_any nn dd _ (by omega) (by omega) (by omega) (by omega)).mono ?_
    rintro e w' ⟨rfl, rfl⟩
    go_wp2_with fail
    refine (rceil_any nn dd _ (by omega) (by omega) (by omega) (by omega)).mono ?_
    rintro e w' ⟨rfl, rfl⟩
    rw [HP0.out.1, HP0.out.2]
    generalize hpp : ptAt xs ys vs xl yl = pp at *
    have HPP := Lib.hid hpp
    obtain ⟨w3, rfl⟩ : ∃ w3 : World, w3 = w' := ⟨_, rfl⟩
    clear hpp HP0 HOn vd1 vd2 vn1 vn2
    go_wp2_with fail
    go_loopw [9, 10, 12, 13] (fun _ _ i _ wr => ∃ a : Nat, a ≤ sx.length ∧ i = .int .i64 a ∧ BdSt pp (donePts xs ys vs sx sy a 0) w3.heap.size w3 wr) (fun _ _ i _ _ => sx.length - (intOf i).toNat)
    case atStart => exact ⟨0, by omega, rfl, pp, pp, by rw [done_zero]; rfl, blk_new _ _, (Below.refl _ _).alloc (Nat.le_refl _) _⟩
    case round =>
      obtain ⟨a, ha, rfl, l, m, hE, hbk, hbr⟩ := hrel
      obtain ⟨wo, rfl⟩ : ∃ wo : World, wo = wr := ⟨_, rfl⟩
      have HE := Lib.hid hE
      have HBR := Lib.hid hbr
      have HBK := Lib.hid hbk
      clear hE hbk hbr
      by_cases hlt : a < sx.length
      · go_wp2_with fail
        go_loopw [9, 10, 13] (fun _ _ k wq => ∃ b : Nat, b ≤ sy.length ∧ k = .int .i64 b ∧ BdSt pp (donePts xs ys vs sx sy a b) w3.heap.size w3 wq) (fun _ _ k _ => sy.length - (intOf k).toNat)
        case atStart => exact ⟨0, by omega, rfl, l, m, HE.out, HBK.out, HBR.out⟩
        case round =>
          obtain ⟨b, hb, rfl, l2, m2, hE2, hbk2, hbq⟩ := hrel
          obtain ⟨wp, rfl⟩ : ∃ wp : World, wp = wr := ⟨_, rfl⟩
          have HE2 := Lib.hid hE2
          have HBQ := Lib.hid hbq
          have HBK2 := Lib.hid hbk2
          by_cases hlt2 : b < sy.length
          · replace c0 := cell_b' hbq c0
            replace c1 := cell_b' hbq c1
            replace c2 := cell_b' hbq c2
            obtain ⟨ba2, oa2, ea, hba2, hca⟩ := (HIA.out.below hbq) (by omega)
            obtain ⟨bb2, ob2, eb, hbb2, hcb⟩ := (HIB.out.below hbq) (by omega)
            cases ea
            cases eb
            have a0 := hca a (by omega)
            have b0 := hcb b (by omega)
            have hox := HOX.out (sx[a]?.getD 0) (by simp [hlt])
            have hoy := HOY.out (sy[b]?.getD 0) (by simp [hlt2])
            have HD := Lib.hid (done_succ xs ys vs sx sy a b hlt2)
            have HPV := Lib.hid (ptAt_val HT.out hox hoy)
            obtain ⟨vd1, vd2, vn1, vn2⟩ := val_bd HT.out hox hoy
            generalize hxa : sx[a]?.getD 0 = xa at a0 hox vd1 vd2 vn1 vn2 HD HPV
            generalize hyb : sy[b]?.getD 0 = yb at b0 hoy vd1 vd2 vn1 vn2 HD HPV
            have HOn := Lib.hid (And.intro hox hoy)
            have HRq := Lib.hid (HR.out.below hbq)
            have t5 : (a : Int) < (sx.length : Int) := by omega
            have t6 : (b : Int) < (sy.length : Int) := by omega
            have t7 : (0 : Int) ≤ (a : Int) := by omega
            have t8 : (0 : Int) ≤ (b : Int) := by omega
            have HBc := Lib.hid (Below.refl wp.heap.size wp)
            clear hxa hyb hox hoy hca hcb hbq hbk2 hE2 r0 r1 f0 f1
            go_wp2_with fail
            go_region_held3 (fun w' => w'.cell? ⟨w.heap.size, 0, none⟩ = some (.slice X xs.length cx) ∧ w'.cell? ⟨w.heap.size, 1, none⟩ = some (.slice Y ys.length cy) ∧ w'.cell? ⟨w.heap.size, 2, none⟩ = some (.slice V vs.length cv) ∧ w'.cell? ⟨ba, oa + a, none⟩ = some (.int .i64 xa) ∧ w'.cell? ⟨bb, ob + b, none⟩ = some (.int .i64 yb)) (refine ⟨cell_b' (W := wp) ?_ c0, cell_b' (W := wp) ?_ c1, cell_b' (W := wp) ?_ c2, cell_b' (W := wp) ?_ a0, cell_b' (W := wp) ?_ b0⟩ <;> (repeat (first | with_reducible exact HBc.out | with_reducible refine Below.alloc ?_ (by have := HBc.out.size; simp <;> omega) _ | with_reducible refine Below.drew ?_ | with_reducible refine Below.setCell ?_ (by have := HBc.out.size; simp <;> omega) _)))
              (first | (go_at_call 121; refine (value_any xs ys vs X Y V cx cy cv xa yb _ HT.out (HRq.out.below (by (repeat (first | with_reducible exact HBc.out | with_reducible refine Below.alloc ?_ (by have := HBc.out.size; simp <;> omega) _ | with_reducible refine Below.drew ?_ | with_reducible refine Below.setCell ?_ (by have := HBc.out.size; simp <;> omega) _)))) HOn.out.1 HOn.out.2).mono ?_; rintro e w5 ⟨rfl, hb5⟩; have hbw := bel_step (W0 := wp) (by (repeat (first | with_reducible exact HBc.out | with_reducible refine Below.alloc ?_ (by have := HBc.out.size; simp <;> omega) _ | with_reducible refine Below.drew ?_ | with_reducible refine Below.setCell ?_ (by have := HBc.out.size; simp <;> omega) _))) hb5; replace HBc := Lib.hid hbw; clear hb5 hbw))
            generalize valN xs ys vs xa yb = nn at *
            generalize valD xs ys xa yb = dd at *
            generalize ptAt xs ys vs xa yb = pn at *
            have hbk5 := blk HBc.out HBK2.out
            have HB5 := Lib.hid (HBQ.out.trans (HBc.out.mono HBQ.out.size))
            obtain ⟨⟨o0, o1⟩, g0, g1⟩ := cells2 hbk5
            have HBK5 := Lib.hid hbk5
            have HML := Lib.hid (run_min2 (P := Try.prog))
            have hmin := fun (w : World) => run_min2 (P := Try.prog) w #[3, 3] 3 (l2.n / l2.d) (nn / dd)
            have hmax := fun (w : World) => run_max2 (P := Try.prog) w #[3, 3] 3 (-(-m2.n / m2.d)) (-(-nn / dd))
            clear hbk5 c0 c1 c2 a0 b0 HBc HBQ HBK2 HML
            go_wp2_with fail
            refine wp_region_tail 7 (by kernel_rfl) (by kernel_rfl) ?_
            simp only [List.take_succ_cons, List.take_zero, List.drop_succ_cons, List.drop_zero]
            iterate 4 still_step
            still_call (rfloor_any _ _ _ (by omega) (by omega) (by omega) (by omega))
            iterate 2 still_step
            refine wpStill_nil ?_
            go_wp2_with fail
            refine wp_region_tail 7 (by kernel_rfl) (by kernel_rfl) ?_
            simp only [List.take_succ_cons, List.take_zero, List.drop_succ_cons, List.drop_zero]
            iterate 4 still_step
            still_call (rceil_any _ _ _ (by omega) (by omega) (by omega) (by omega))
            iterate 2 still_step
            refine wpStill_nil ?_
            go_wp2_with fail
            have e1 := step_low l2 pn
            rw [← HPV.out.1] at e1
            have e2 := step_top m2 pn
            rw [← HPV.out.2] at e2
            go_roundw
            case rel =>
              refine ⟨b + 1, by omega, by go_num, (if cmpV pn.n pn.d l2.n l2.d < 0 then pn else l2), (if 0 < cmpV pn.n pn.d m2.n m2.d then pn else m2), by rw [HD.out, ← List.cons_append, extrE_snoc, HE2.out, stepE_some], ?_, ?_⟩
              · rw [← e1, ← e2]; exact heap_set_same 1 _ (heap_set_same 0 _ HBK5.out)
              · exact ((HB5.out.setCell (p := ⟨w3.heap.size, 0, none⟩) (Nat.le_refl _) _).setCell (p := ⟨w3.heap.size, 1, none⟩) (Nat.le_refl _) _).drew.drew
            case measure => simp [intOf]; omega
          · obtain rfl : b = sy.length := by omega
            have HDR := Lib.hid (done_row xs ys vs sx sy a hlt)
            go_wp2_with fail
            go_roundw
            case rel => exact ⟨a + 1, by omega, by go_num, l2, m2, by rw [← HDR.out]; exact HE2.out, HBK2.out, HBQ.out⟩
            case measure => simp [intOf]; omega
      · obtain rfl : a = sx.length := by omega
        have hbr := HBR.out
        obtain ⟨⟨o0, o1⟩, g0, g1⟩ := cells2 HBK.out
        replace f0 := froz_b hbr r0 f0
        replace f1 := froz_b hbr r1 f1
        replace r0 := cell_b' hbr r0
        replace r1 := cell_b' hbr r1
        have HRES : Hid (bnd xs ys vs (xl, xh) (yl, yh) = (l.n / l.d, -(-m.n / m.d))) := HBE.out l m (by rw [HPT.out, ← done_all]; exact HE.out)
        clear hbr c0 c1 c2
        go_wp2_with fail
        refine bodyPost_ret (v := .agg #[.int .i64 (l.n / l.d), .int .i64 (-(-m.n / m.d))]) (by simp [results, Try.results110, go_sem, r0, r1]) rfl ⟨by rw [HRES.out], ?_⟩
        exact ((HB.out.trans (HBR.out.mono HB.out.size)).setCell (p := ⟨w.heap.size + 1 + 1 + 1, 0, none⟩) (by show _ ≤ _ + 1 + 1 + 1; omega) _).setCell (p := ⟨w.heap.size + 1 + 1 + 1, 1, none⟩) (by show _ ≤ _ + 1 + 1 + 1; omega) _
end Go.Proofs.Ythohcimmoobaoaa
/- The walks of the reference's Bound and Worst. -/
namespace Go.Proofs.Ythohcimmoobaoaa
open Go.RowKit

set_option maxRecDepth 100000 in
set_option maxHeartbeats 2000000 in
theorem rboundF_any (xs ys : List Int) (vs : List (List Int)) (X Y V : Option Addr) (cx cy cv : Nat) (x y : Int × Int) (w : World) (hS : TSm xs ys vs) (hR : TabR w X Y V cx cy cv xs ys vs) :
   Calls Try.prog 93 #[.agg #[.slice X xs.length cx, .slice Y ys.length cy, .slice V vs.length cv], .agg #[.int .i64 x.1, .int .i64 x.2], .agg #[.int .i64 y.1, .int .i64 y.2]] w fun e w' =>
     e = .returned (.tuple #[.agg #[.int .i64 (boundR xs ys vs x y).1.1, .int .i64 (boundR xs ys vs x y).1.2], .int .i64 (boundR xs ys vs x y).2]) ∧ Below w.heap.size w w' := by
  obtain ⟨xl, xh⟩ := x
  obtain ⟨yl, yh⟩ := y
  show Calls Try.prog 93 #[.agg #[.slice X xs.length cx, .slice Y ys.length cy, .slice V vs.length cv], .agg #[.int .i64 xl, .int .i64 xh], .agg #[.int .i64 yl, .int .i64 yh]] w _
  have HS := Lib.hid hS
  obtain ⟨W0, hW0⟩ : ∃ W0, ((((w.alloc (.cells #[.slice X xs.length cx, .slice Y ys.length cy, .slice V vs.length cv] 40)).alloc (.cells #[.int .i64 xl, .int .i64 xh] 27)).alloc (.cells #[.int .i64 yl, .int .i64 yh] 27)).alloc (.cells #[.int .i64 0, .int .i64 0] 27)) = W0 := ⟨_, rfl⟩
  have HB : Hid (Below w.heap.size w W0) := by
    unfold Hid; rw [← hW0]
    repeat (first | exact Below.refl _ _ | refine Below.alloc ?_ (by simp <;> omega) _)
  have ha : W0.heap[w.heap.size]? = some (.cells #[.slice X xs.length cx, .slice Y ys.length cy, .slice V vs.length cv] 40) := by
    rw [← hW0]; simp only [heap_alloc_at, World.size_alloc]; repeat (first | rw [if_pos trivial] | rw [if_neg (by omega)])
  have hb : W0.heap[w.heap.size + 1]? = some (.cells #[.int .i64 xl, .int .i64 xh] 27) := by
    rw [← hW0]; simp only [heap_alloc_at, World.size_alloc]; repeat (first | rw [if_pos trivial] | rw [if_neg (by omega)])
  have hc : W0.heap[w.heap.size + 1 + 1]? = some (.cells #[.int .i64 yl, .int .i64 yh] 27) := by
    rw [← hW0]; simp only [heap_alloc_at, World.size_alloc]; repeat (first | rw [if_pos trivial] | rw [if_neg (by omega)])
  have hd : W0.heap[w.heap.size + 1 + 1 + 1]? = some (.cells #[.int .i64 0, .int .i64 0] 27) := by
    rw [← hW0]; simp only [heap_alloc_at, World.size_alloc]; repeat (first | rw [if_pos trivial] | rw [if_neg (by omega)])
  obtain ⟨⟨c0, c1, c2⟩, _⟩ := cells3 ha
  obtain ⟨⟨p0, p1⟩, _⟩ := cells2 hb
  obtain ⟨⟨q0, q1⟩, _⟩ := cells2 hc
  obtain ⟨⟨r0, r1⟩, f0, f1⟩ := cells2 hd
  have HR := Lib.hid (hR.below HB.out)
  have HW0 := Lib.hid hW0
  clear hW0 ha hb hc hd hR hS
  go_enter Try.func93, Try.ntmps93
  go_wp2_with fail
  rw [HW0.out]
  refine (rcb_any xs ys vs X Y V cx cy cv (xl, xh) (yl, yh) _ HS.out HR.out).mono ?_
  rintro e w1 ⟨rfl, hb1⟩
  replace c0 := cell_b hb1 c0
  replace c1 := cell_b hb1 c1
  replace c2 := cell_b hb1 c2
  replace p0 := cell_b hb1 p0
  replace p1 := cell_b hb1 p1
  replace q0 := cell_b hb1 q0
  replace q1 := cell_b hb1 q1
  replace f0 := froz_b hb1 r0 f0
  replace f1 := froz_b hb1 r1 f1
  replace r0 := cell_b hb1 r0
  replace r1 := cell_b hb1 r1
  replace HR := Lib.hid (HR.out.below hb1)
  replace HB := Lib.hid (HB.out.trans (hb1.mono HB.out.size))
  clear hb1
  by_cases he : (cpErr xs ys vs (xl, xh) (yl, yh) != 0) = true
  · have R : Hid (boundR xs ys vs (xl, xh) (yl, yh) = ((0, 0), cpErr xs ys vs (xl, xh) (yl, yh))) := by unfold Hid boundR; rw [if_pos he]
    generalize cpErr xs ys vs (xl, xh) (yl, yh) = ce at *
    go_wp2_with fail
    refine bodyPost_ret (v := .tuple #[.agg #[.int .i64 0, .int .i64 0], .int .i64 ce]) (by simp [results, Try.results93, go_sem, r0, r1]) rfl ⟨by rw [R.out], ?_⟩
    exact (HB.out.setCell (p := ⟨w.heap.size + 1 + 1 + 1, 0, none⟩) (by show _ ≤ _ + 1 + 1 + 1; omega) _).setCell (p := ⟨w.heap.size + 1 + 1 + 1, 1, none⟩) (by show _ ≤ _ + 1 + 1 + 1; omega) _
  · have he' : (cpErr xs ys vs (xl, xh) (yl, yh) != 0) = false := by simpa using he
    have h0 : cpErr xs ys vs (xl, xh) (yl, yh) = 0 := by simpa using he'
    have HO := Lib.hid (cp_zero h0)
    have R : Hid (boundR xs ys vs (xl, xh) (yl, yh) = (bnd xs ys vs (xl, xh) (yl, yh), 0)) := by unfold Hid boundR; rw [if_neg he]
    rw [h0]
    clear he he' h0
    go_wp2_with fail
    refine (rbnd_any xs ys vs X Y V cx cy cv (xl, xh) (yl, yh) _ HO.out HR.out).mono ?_
    rintro e w2 ⟨rfl, hb2⟩
    replace f0 := froz_b hb2 r0 f0
    replace f1 := froz_b hb2 r1 f1
    replace r0 := cell_b hb2 r0
    replace r1 := cell_b hb2 r1
    replace HB := Lib.hid (HB.out.trans (hb2.mono HB.out.size))
    clear hb2 c0 c1 c2 p0 p1 q0 q1
    generalize bnd xs ys vs (xl, xh) (yl, yh) = bd at *
    go_wp2_with fail
    refine bodyPost_ret (v := .tuple #[.agg #[.int .i64 bd.1, .int .i64 bd.2], .int .i64 0]) (by simp [results, Try.results93, go_sem, r0, r1]) rfl ⟨by rw [R.out], ?_⟩
    exact (HB.out.setCell (p := ⟨w.heap.size + 1 + 1 + 1, 0, none⟩) (by show _ ≤ _ + 1 + 1 + 1; omega) _).setCell (p := ⟨w.heap.size + 1 + 1 + 1, 1, none⟩) (by show _ ≤ _ + 1 + 1 + 1; omega) _
end Go.Proofs.Ythohcimmoobaoaa
/- What came in or was made, as lists of numbers, in both tongues; old contracts as abstract ones. -/
namespace Go.Proofs.Ythohcimmoobaoaa
open Go.RowKit Lift

section
variable {w : World} {β : Bet} {Z : Blk}
theorem rep_ints {v : Value} {l : List Int} (h : Rep w β Z v (.list (ints l))) : ∃ A c, v = .slice A l.length c ∧ Ints w A l ∧ l.length ≤ c := by
  generalize hd : D.list (ints l) = d at h
  cases h with
  | list0 A c =>
    have : l = [] := by simpa [ints] using hd
    subst this
    exact ⟨A, c, rfl, fun h => by simp at h, by simp⟩
  | list b off c sz L vs hz hb hc hs hcell hrep =>
    cases hd
    refine ⟨_, c, by rw [ints_len], fun hl => ⟨b, off, rfl, hb, fun k hk => ?_⟩, by rw [← ints_len l]; exact hc⟩
    have hk' : k < (ints l).length := by rw [ints_len]; exact hk
    have hg := ints_get l k hk'
    have hsz : sz = 1 := by rw [← hs _ (List.getElem_mem hk'), hg]; rfl
    have h0 : 0 < (ints l)[k].length := by rw [hg]; simp
    have h1 := hcell k 0 hk' h0
    have h2 := hrep k 0 hk' h0
    rw [getElem_of_eq hk' hg 0 h0 (by simp)] at h2
    simp only [List.getElem_cons_zero] at h2
    rw [h1.trans (congrArg some h2.val_eq.symm) |>.symm, hsz]
    simp
  | _ => cases hd
theorem rep_mat {v : Value} {l : List (List Int)} (h : Rep w β Z v (.list (rows l))) : ∃ A c, v = .slice A l.length c ∧ Mat w A l := by
  generalize hd : D.list (rows l) = d at h
  cases h with
  | list0 A c =>
    have : l = [] := by simpa [rows] using hd
    subst this
    exact ⟨A, c, rfl, fun h => by simp at h⟩
  | list b off c sz L vs hz hb hc hs hcell hrep =>
    cases hd
    refine ⟨_, c, by rw [rows_len], fun hl => ⟨b, off, rfl, hb, fun k hk => ?_⟩⟩
    have hk' : k < (rows l).length := by rw [rows_len]; exact hk
    have hg := rows_get l k hk'
    have hsz : sz = 1 := by rw [← hs _ (List.getElem_mem hk'), hg]; rfl
    have h0 : 0 < (rows l)[k].length := by rw [hg]; simp
    have h1 := hcell k 0 hk' h0
    have h2 := hrep k 0 hk' h0
    rw [getElem_of_eq hk' hg 0 h0 (by simp)] at h2
    simp only [List.getElem_cons_zero] at h2
    obtain ⟨A, cc, e1, e2, _⟩ := rep_ints h2
    refine ⟨A, cc, ?_, e2⟩
    rw [hsz, e1] at h1
    simpa using h1
  | _ => cases hd
theorem rep_agg {v : Value} {l : List D} (h : Rep w β Z v (.agg l)) : ∃ cs : Array Value, v = .agg cs ∧ cs.size = l.length ∧ ∀ i (h : i < l.length), Rep w β Z (cs.getD i undef) l[i] := by
  cases h with
  | agg cs _ h1 h2 => exact ⟨cs, rfl, h1, h2⟩
theorem rep_tab {v : Value} {xs ys : List Int} {vs : List (List Int)} (h : Rep w β Z v (tabD xs ys vs)) : ∃ X Y V cx cy cv, v = .agg #[.slice X xs.length cx, .slice Y ys.length cy, .slice V vs.length cv] ∧ TabR w X Y V cx cy cv xs ys vs := by
  obtain ⟨cs, rfl, h1, h2⟩ := rep_agg h
  obtain ⟨X, cx, e0, hX, lx⟩ := rep_ints (h2 0 (by simp))
  obtain ⟨Y, cy, e1, hY, ly⟩ := rep_ints (h2 1 (by simp))
  obtain ⟨V, cv, e2, hV⟩ := rep_mat (h2 2 (by simp))
  refine ⟨X, Y, V, cx, cy, cv, ?_, ⟨hX, hY, hV, lx, ly⟩⟩
  rw [← e0, ← e1, ← e2]
  congr 1
  apply Array.ext
  · simpa using h1
  · intro i h3 h4
    have h5 : i < 3 := by simpa using h4
    match i, h5 with
    | 0, _ => simp [h3]
    | 1, _ => simp [h3]
    | 2, _ => simp [h3]
theorem rep_sp {v : Value} {x : Int × Int} (h : Rep w β Z v (spD x)) : v = .agg #[.int .i64 x.1, .int .i64 x.2] := by
  obtain ⟨cs, rfl, h1, h2⟩ := rep_agg h
  have e0 := (h2 0 (by simp)).val_eq
  have e1 := (h2 1 (by simp)).val_eq
  rw [e0, e1]
  congr 1
  apply Array.ext
  · simpa using h1
  · intro i h3 h4
    have h5 : i < 2 := by simpa using h4
    match i, h5 with
    | 0, _ => simp [h3]
    | 1, _ => simp [h3]
end
theorem args1 {vs : Array Value} (h : vs.size = 1) : vs = #[vs.getD 0 undef] := by
  apply Array.ext
  · simpa using h
  · intro i h3 h4
    have h5 : i < 1 := by simpa using h4
    match i, h5 with
    | 0, _ => simp [h3]
theorem args2 {vs : Array Value} (h : vs.size = 2) : vs = #[vs.getD 0 undef, vs.getD 1 undef] := by
  apply Array.ext
  · simpa using h
  · intro i h3 h4
    have h5 : i < 2 := by simpa using h4
    match i, h5 with
    | 0, _ => simp [h3]
    | 1, _ => simp [h3]
theorem args3 {vs : Array Value} (h : vs.size = 3) : vs = #[vs.getD 0 undef, vs.getD 1 undef, vs.getD 2 undef] := by
  apply Array.ext
  · simpa using h
  · intro i h3 h4
    have h5 : i < 3 := by simpa using h4
    match i, h5 with
    | 0, _ => simp [h3]
    | 1, _ => simp [h3]
    | 2, _ => simp [h3]
end Go.Proofs.Ythohcimmoobaoaa
/- Old contracts as abstract ones: tables and bounds. No conditions. -/
namespace Go.Proofs.Ythohcimmoobaoaa
open Go.RowKit Lift

theorem flat_sp (x : Int × Int) (w : World) (β : Bet) (Z : Blk) : Rep w β Z (.agg #[.int .i64 x.1, .int .i64 x.2]) (spD x) :=
  .agg _ _ rfl fun i hi => by
    have : i < 2 := by simpa using hi
    match i, this with
    | 0, _ => exact .val _
    | 1, _ => exact .val _
theorem flat_sp1 (x : Int × Int) (e : Int) (w : World) (β : Bet) (Z : Blk) : Rep w β Z (.tuple #[.agg #[.int .i64 x.1, .int .i64 x.2], .int .i64 e]) (.tup [spD x, dI e]) :=
  .tup _ _ rfl fun i hi => by
    have : i < 2 := by simpa using hi
    match i, this with
    | 0, _ => exact flat_sp x w β Z
    | 1, _ => exact .val _
theorem Tbl.sz {xs ys : List Int} {vs : List (List Int)} (h : Tbl xs ys vs) : TSz xs ys vs := by
  have h1 := h.ax.twelve
  have h2 := h.ay.twelve
  have h3 := h.len
  refine ⟨by omega, by omega, by omega, fun r hr => ?_⟩
  obtain ⟨k, hk, rfl⟩ := List.getElem_of_mem hr
  have := h.row k hk
  simp only [List.getElem?_eq_getElem hk, Option.getD_some] at this
  omega
section
variable {xs ys : List Int} {vs : List (List Int)}
theorem rcheckTable_ac (hS : TSm xs ys vs) : AC Try.prog 73 [tabD xs ys vs] [] [] (dI (tabErr xs ys vs)) :=
  ac_of_calls ⟨Try.f73, Try.func73, by decide, rfl⟩ (fun _ _ _ => .val _) fun w us β Z hs hr => by
    obtain ⟨X, Y, V, cx, cy, cv, e, hR⟩ := rep_tab (hr 0 (by simp))
    rw [args1 hs, e]
    exact rcheckTable_any xs ys vs X Y V cx cy cv w hS hR
theorem bound_ac (x y : Int × Int) (hS : TSz xs ys vs) : AC Try.prog 35 [tabD xs ys vs, spD x, spD y] [] [] (.tup [spD (boundR xs ys vs x y).1, dI (boundR xs ys vs x y).2]) :=
  ac_of_calls ⟨Try.f35, Try.func35, by decide, rfl⟩ (flat_sp1 _ _) fun w us β Z hs hr => by
    obtain ⟨X, Y, V, cx, cy, cv, e, hR⟩ := rep_tab (hr 0 (by simp))
    rw [args3 hs, e, rep_sp (hr 1 (by simp)), rep_sp (hr 2 (by simp))]
    exact bound_any xs ys vs X Y V cx cy cv x y w hS hR
theorem rbound_ac (x y : Int × Int) (hS : TSm xs ys vs) : AC Try.prog 93 [tabD xs ys vs, spD x, spD y] [] [] (.tup [spD (boundR xs ys vs x y).1, dI (boundR xs ys vs x y).2]) :=
  ac_of_calls ⟨Try.f93, Try.func93, by decide, rfl⟩ (flat_sp1 _ _) fun w us β Z hs hr => by
    obtain ⟨X, Y, V, cx, cy, cv, e, hR⟩ := rep_tab (hr 0 (by simp))
    rw [args3 hs, e, rep_sp (hr 1 (by simp)), rep_sp (hr 2 (by simp))]
    exact rboundF_any xs ys vs X Y V cx cy cv x y w hS hR
theorem between_ac (l : List Int) (x : Int × Int) (h1 : 1 ≤ l.length) (hl : l.length ≤ 1000000) : AC Try.prog 62 [.list (ints l), spD x] [] [] (dB (liesB l x)) :=
  ac_of_calls ⟨Try.f62, Try.func62, by decide, rfl⟩ (fun _ _ _ => .val _) fun w us β Z hs hr => by
    obtain ⟨A, c, e, hA, _⟩ := rep_ints (hr 0 (by simp))
    rw [args2 hs, e, rep_sp (hr 1 (by simp))]
    exact between_any A l c x.1 x.2 w h1 hl hA
end
end Go.Proofs.Ythohcimmoobaoaa
/- The functions' bodies, translated. Written by a program; no conditions. -/
namespace Go.Proofs.Ythohcimmoobaoaa
open Go.RowKit Lift

/-- spans_axis -/
def cspans_axis : ACode :=
  (.seq
   (.region false [⟨some 2, .mv (.const (.bool false)), none, []⟩] [])
  (.seq
   (.seq
    (.region false [⟨some 5, .mv (.tmp 0), none, []⟩,
      ⟨some 6, .len_ (.tmp 5), none, []⟩,
      ⟨some 7, .call (.func 96) [(.tmp 6), (.const (.int .i64 2)), (.const (.int .i64 12))], none, []⟩,
      ⟨some 8, .un .not (.tmp 7), none, []⟩] [5, 6, 7])
   (.cond (.tmp 8)
     (.seq
      (.region false [⟨some 2, .mv (.const (.bool false)), none, []⟩] [])
     .ret)
     .skip))
  (.seq
   (.seq
    (.region false [⟨some 9, .mv (.tmp 0), none, []⟩,
      ⟨some 10, .len_ (.tmp 9), none, []⟩,
      ⟨some 11, .mv (.const (.int .i64 0)), none, []⟩] [])
   (.block 0
     (.loop
       (.seq
        (.region false [⟨some 12, .bin .lss (.tmp 11) (.tmp 10), none, []⟩] [])
       (.seq
        (.cond (.tmp 12)
          .skip
          (.exit 0))
       (.seq
        (.block 1
          (.seq
           (.region false [⟨some 13, .mv (.tmp 11), none, []⟩,
             ⟨some 14, .iadS 1 (.tmp 9) (.tmp 11), none, []⟩,
             ⟨some 15, .load1 (.tmp 14), none, []⟩,
             ⟨some 3, .mv (.tmp 13), none, []⟩,
             ⟨some 4, .mv (.tmp 15), none, []⟩] [13, 14, 15])
          (.seq
           (.region false [⟨some 16, .mv (.tmp 4), none, []⟩,
             ⟨some 17, .call (.func 96) [(.tmp 16), (.const (.int .i64 (-1000000))), (.const (.int .i64 1000000))], none, []⟩,
             ⟨some 18, .un .not (.tmp 17), none, []⟩,
             ⟨some 19, .mv (.tmp 18), none, []⟩,
             ⟨some 20, .mv (.tmp 3), (some (some 19, false)), []⟩,
             ⟨some 21, .bin .gtr (.tmp 20) (.const (.int .i64 0)), (some (some 19, false)), []⟩,
             ⟨some 22, .mv (.tmp 21), (some (some 19, false)), []⟩,
             ⟨some 23, .mv (.tmp 4), (some (some 22, true)), []⟩,
             ⟨some 24, .mv (.tmp 0), (some (some 22, true)), []⟩,
             ⟨some 25, .mv (.tmp 3), (some (some 22, true)), []⟩,
             ⟨some 26, .bin .sub (.tmp 25) (.const (.int .i64 1)), (some (some 22, true)), []⟩,
             ⟨some 27, .iadS 1 (.tmp 24) (.tmp 26), (some (some 22, true)), []⟩,
             ⟨some 28, .load1 (.tmp 27), (some (some 22, true)), []⟩,
             ⟨some 29, .bin .sub (.tmp 23) (.tmp 28), (some (some 22, true)), []⟩,
             ⟨some 30, .call (.func 96) [(.tmp 29), (.const (.int .i64 1)), (.const (.int .i64 10000))], (some (some 22, true)), []⟩,
             ⟨some 31, .un .not (.tmp 30), (some (some 22, true)), []⟩,
             ⟨some 32, .pick (.tmp 22) (.tmp 31) (.const (.bool false)), (some (some 19, false)), []⟩,
             ⟨some 33, .pick (.tmp 19) (.const (.bool true)) (.tmp 32), none, []⟩] [16, 17, 18, 19, 20, 21, 22, 23, 24, 25, 26, 27, 28, 29, 30, 31, 32])
          (.cond (.tmp 33)
            (.seq
             (.region false [⟨some 2, .mv (.const (.bool false)), none, []⟩] [])
            .ret)
            .skip))))
       (.region false [⟨some 34, .bin .add (.tmp 11) (.const (.int .i64 1)), none, []⟩,
         ⟨some 11, .mv (.tmp 34), none, []⟩] [34])))))))
  (.seq
   (.region false [⟨some 2, .mv (.const (.bool true)), none, []⟩] [])
  .ret))))
set_option maxRecDepth 100000 in
theorem kspans_axis : IsCode Try.prog 98 35 cspans_axis [.tmp 2] :=
  ⟨Try.f98, _, [33, 12, 8, 0, 11, 10, 9, 4, 3, 2], Try.func98, rfl, by decide, rfl, by kernel_rfl, by kernel_rfl⟩
/-- spans_CheckTable -/
def cspans_CheckTable : ACode :=
  (.seq
   (.region false [⟨some 1, .box (.tmp 0), none, []⟩,
     ⟨some 2, .mv (.const (.int .i64 0)), none, []⟩] [])
  (.seq
   (.region false [⟨some 3, .mem [(.val (.nilFunc))], none, []⟩,
     ⟨none, .store 1 (.tmp 3) (.func 95), none, []⟩] [])
  (.seq
   (.region false [⟨some 5, .mkfn 97 [] [(.tmp 1), (.tmp 3)], none, []⟩,
     ⟨some 4, .mv (.tmp 5), none, []⟩] [5])
  (.seq
   (.seq
    (.region false [⟨some 6, .fad 0 (.tmp 1), none, []⟩,
      ⟨some 7, .load1 (.tmp 6), none, []⟩,
      ⟨some 8, .call (.func 98) [(.tmp 7)], none, []⟩,
      ⟨some 9, .un .not (.tmp 8), none, []⟩,
      ⟨some 10, .mv (.tmp 9), none, []⟩,
      ⟨some 11, .fad 1 (.tmp 1), (some (some 10, false)), []⟩,
      ⟨some 12, .load1 (.tmp 11), (some (some 10, false)), []⟩,
      ⟨some 13, .call (.func 98) [(.tmp 12)], (some (some 10, false)), []⟩,
      ⟨some 14, .un .not (.tmp 13), (some (some 10, false)), []⟩,
      ⟨some 15, .pick (.tmp 10) (.const (.bool true)) (.tmp 14), none, []⟩,
      ⟨some 16, .mv (.tmp 15), none, []⟩,
      ⟨some 17, .fad 2 (.tmp 1), (some (some 16, false)), []⟩,
      ⟨some 18, .load1 (.tmp 17), (some (some 16, false)), []⟩,
      ⟨some 19, .len_ (.tmp 18), (some (some 16, false)), []⟩,
      ⟨some 20, .fad 0 (.tmp 1), (some (some 16, false)), []⟩,
      ⟨some 21, .load1 (.tmp 20), (some (some 16, false)), []⟩,
      ⟨some 22, .len_ (.tmp 21), (some (some 16, false)), []⟩,
      ⟨some 23, .bin .neq (.tmp 19) (.tmp 22), (some (some 16, false)), []⟩,
      ⟨some 24, .pick (.tmp 16) (.const (.bool true)) (.tmp 23), none, []⟩,
      ⟨some 25, .mv (.tmp 24), none, []⟩,
      ⟨some 26, .fad 2 (.tmp 1), (some (some 25, false)), []⟩,
      ⟨some 27, .load1 (.tmp 26), (some (some 25, false)), []⟩,
      ⟨some 28, .mv (.tmp 4), (some (some 25, false)), []⟩,
      ⟨some 29, .call (.func 99) [(.tmp 27), (.tmp 28)], (some (some 25, false)), []⟩,
      ⟨some 30, .pick (.tmp 25) (.const (.bool true)) (.tmp 29), none, []⟩] [6, 7, 8, 9, 10, 11, 12, 13, 14, 15, 16, 17, 18, 19, 20, 21, 22, 23, 24, 25, 26, 27, 28, 29])
   (.cond (.tmp 30)
     (.seq
      (.region false [⟨some 2, .mv (.const (.int .i64 11)), none, []⟩] [])
     .ret)
     .skip))
  (.seq
   (.region false [⟨some 2, .mv (.const (.int .i64 0)), none, []⟩] [])
  .ret)))))
set_option maxRecDepth 100000 in
theorem kspans_CheckTable : IsCode Try.prog 63 31 cspans_CheckTable [.tmp 2] :=
  ⟨Try.f63, _, [30, 0, 1, 3, 4, 2], Try.func63, rfl, by decide, rfl, by kernel_rfl, by kernel_rfl⟩
/-- spans_CheckTable_S1 -/
def cspans_CheckTable_S1 : ACode :=
  (.seq
   (.region false [⟨some 2, .mv (.const (.bool false)), none, []⟩] [])
  (.seq
   (.region false [⟨some 3, .mv (.tmp 0), none, []⟩,
     ⟨some 4, .call (.func 96) [(.tmp 3), (.const (.int .i64 (-1000000))), (.const (.int .i64 1000000))], none, []⟩,
     ⟨some 5, .un .not (.tmp 4), none, []⟩,
     ⟨some 2, .mv (.tmp 5), none, []⟩] [3, 4, 5])
  .ret))
set_option maxRecDepth 100000 in
theorem kspans_CheckTable_S1 : IsCode Try.prog 95 6 cspans_CheckTable_S1 [.tmp 2] :=
  ⟨Try.f95, _, [0, 2], Try.func95, rfl, by decide, rfl, by kernel_rfl, by kernel_rfl⟩
/-- spans_CheckTable_S2 -/
def cspans_CheckTable_S2 : ACode :=
  (.seq
   (.region false [⟨some 4, .mv (.const (.bool false)), none, []⟩] [])
  (.seq
   (.region false [⟨some 5, .mv (.tmp 0), none, []⟩,
     ⟨some 6, .len_ (.tmp 5), none, []⟩,
     ⟨some 7, .fad 1 (.tmp 1), none, []⟩,
     ⟨some 8, .load1 (.tmp 7), none, []⟩,
     ⟨some 9, .len_ (.tmp 8), none, []⟩,
     ⟨some 10, .bin .neq (.tmp 6) (.tmp 9), none, []⟩,
     ⟨some 11, .mv (.tmp 10), none, []⟩,
     ⟨some 12, .mv (.tmp 0), (some (some 11, false)), []⟩,
     ⟨some 13, .load1 (.tmp 2), (some (some 11, false)), []⟩,
     ⟨some 14, .call (.func 51) [(.tmp 12), (.tmp 13)], (some (some 11, false)), []⟩,
     ⟨some 15, .pick (.tmp 11) (.const (.bool true)) (.tmp 14), none, []⟩,
     ⟨some 4, .mv (.tmp 15), none, []⟩] [5, 6, 7, 8, 9, 10, 11, 12, 13, 14, 15])
  .ret))
set_option maxRecDepth 100000 in
theorem kspans_CheckTable_S2 : IsCode Try.prog 97 16 cspans_CheckTable_S2 [.tmp 4] :=
  ⟨Try.f97, _, [0, 1, 2, 4], Try.func97, rfl, by decide, rfl, by kernel_rfl, by kernel_rfl⟩
/-- slices_IndexFunc_L_L_J_L_Jint_K_L_Jint_J -/
def cslices_IndexFunc_L_L_J_L_Jint_K_L_Jint_J : ACode :=
  (.seq
   (.region false [⟨some 4, .mv (.const (.int .i64 0)), none, []⟩] [])
  (.seq
   (.seq
    (.region false [⟨some 6, .mv (.tmp 0), none, []⟩,
      ⟨some 7, .len_ (.tmp 6), none, []⟩,
      ⟨some 8, .mv (.const (.int .i64 0)), none, []⟩] [6])
   (.block 0
     (.loop
       (.seq
        (.region false [⟨some 9, .bin .lss (.tmp 8) (.tmp 7), none, []⟩] [])
       (.seq
        (.cond (.tmp 9)
          .skip
          (.exit 0))
       (.seq
        (.block 1
          (.seq
           (.region false [⟨some 10, .mv (.tmp 8), none, []⟩,
             ⟨some 5, .mv (.tmp 10), none, []⟩] [10])
          (.seq
           (.region false [⟨some 11, .mv (.tmp 1), none, []⟩,
             ⟨some 12, .mv (.tmp 0), none, []⟩,
             ⟨some 13, .mv (.tmp 5), none, []⟩,
             ⟨some 14, .iadS 1 (.tmp 12) (.tmp 13), none, []⟩,
             ⟨some 15, .load1 (.tmp 14), none, []⟩,
             ⟨some 16, .call (.tmp 11) [(.tmp 15)], none, []⟩] [11, 12, 13, 14, 15])
          (.cond (.tmp 16)
            (.seq
             (.region false [⟨some 17, .mv (.tmp 5), none, []⟩,
               ⟨some 4, .mv (.tmp 17), none, []⟩] [17])
            .ret)
            .skip))))
       (.region false [⟨some 18, .bin .add (.tmp 8) (.const (.int .i64 1)), none, []⟩,
         ⟨some 8, .mv (.tmp 18), none, []⟩] [18])))))))
  (.seq
   (.region false [⟨some 4, .mv (.const (.int .i64 (-1))), none, []⟩] [])
  .ret)))
set_option maxRecDepth 100000 in
theorem kslices_IndexFunc_L_L_J_L_Jint_K_L_Jint_J : IsCode Try.prog 111 19 cslices_IndexFunc_L_L_J_L_Jint_K_L_Jint_J [.tmp 4] :=
  ⟨Try.f111, _, [16, 9, 0, 8, 7, 1, 5, 4], Try.func111, rfl, by decide, rfl, by kernel_rfl, by kernel_rfl⟩
/-- slices_ContainsFunc_L_L_J_L_Jint_K_L_Jint_J -/
def cslices_ContainsFunc_L_L_J_L_Jint_K_L_Jint_J : ACode :=
  (.seq
   (.region false [⟨some 4, .mv (.const (.bool false)), none, []⟩] [])
  (.seq
   (.region false [⟨some 5, .mv (.tmp 0), none, []⟩,
     ⟨some 6, .mv (.tmp 1), none, []⟩,
     ⟨some 7, .call (.func 111) [(.tmp 5), (.tmp 6)], none, []⟩,
     ⟨some 8, .bin .geq (.tmp 7) (.const (.int .i64 0)), none, []⟩,
     ⟨some 4, .mv (.tmp 8), none, []⟩] [5, 6, 7, 8])
  .ret))
set_option maxRecDepth 100000 in
theorem kslices_ContainsFunc_L_L_J_L_Jint_K_L_Jint_J : IsCode Try.prog 99 9 cslices_ContainsFunc_L_L_J_L_Jint_K_L_Jint_J [.tmp 4] :=
  ⟨Try.f99, _, [0, 1, 4], Try.func99, rfl, by decide, rfl, by kernel_rfl, by kernel_rfl⟩
end Go.Proofs.Ythohcimmoobaoaa
