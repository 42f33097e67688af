/- Texts of the law SpansBelow, part 5. No conditions. -/
import Derived.Test.YtfaiogajaaclcaaPSpansBelow04
import Derived.Deep.RegionWith
import Derived.Deep.RegionLawGrows
import Derived.Deep.RegionHeld3
import Derived.Deep.DeepCutAuto
import Derived.Test.YtfaiogajaaclcaaRows
/- The contract of the reference's CheckTable. -/
namespace Go.Proofs.Ytfaiogajaaclcaa
open Go.RowKit

def outI (x : Int) : Bool := !wB x (-1000000) 1000000
theorem any_drop {α : Type} (p : α → Bool) (l : List α) (d : α) (k : Nat) (h : k < l.length) : (l.drop k).any p = (p (l[k]?.getD d) || (l.drop (k + 1)).any p) := by
  rw [List.drop_eq_getElem_cons h, List.any_cons, show l[k]?.getD d = l[k] by simp [h]]
set_option maxRecDepth 100000 in
set_option maxHeartbeats 4000000 in
theorem rcheckTable_any (xs ys : List Int) (vs : List (List Int)) (X Y V : Option Addr) (cx cy cv : Nat) (w : World) (hS : TSm xs ys vs) (hR : TabR w X Y V cx cy cv xs ys vs) :
   Calls Try.prog 18 #[.agg #[.slice X xs.length cx, .slice Y ys.length cy, .slice V vs.length cv]] w fun e w' => e = .returned (.int .i64 (tabErr xs ys vs)) ∧ Below w.heap.size w w' := by
  have HXx := Lib.hid hR.hX
  have HYy := Lib.hid hR.hY
  have HVv := Lib.hid hR.hV
  have HSX := Lib.hid hS.x
  have HSY := Lib.hid hS.y
  have hsv := hS.v
  unfold maxLen at hsv
  have HBk0 := Lib.hid (blk_new' w (.cells #[.slice X xs.length cx, .slice Y ys.length cy, .slice V vs.length cv] 25))
  have HB0 := Lib.hid (show Below w.heap.size w (w.alloc (.cells #[.slice X xs.length cx, .slice Y ys.length cy, .slice V vs.length cv] 25)) from (Below.refl _ w).alloc (Nat.le_refl _) _)
  clear hR hS
  go_enter Try.func18, Try.ntmps18
  go_wp2_with fail
  refine (knots_any X xs cx _ HSX.out (HXx.out.below HB0.out)).mono ?_
  rintro e w1 ⟨rfl, hb1⟩
  have HBk1 := Lib.hid (blk' hb1 HBk0.out)
  have HB1 := Lib.hid (HB0.out.trans (hb1.mono HB0.out.size))
  obtain ⟨⟨c0, c1, c2⟩, _⟩ := cells3 HBk1.out
  clear hb1
  by_cases hx : axB xs = true
  · rw [hx]
    have EX := Lib.hid hx
    clear hx
    go_wp2_with fail
    refine (knots_any Y ys cy _ HSY.out (HYy.out.below HB1.out)).mono ?_
    rintro e w2 ⟨rfl, hb2⟩
    have HBk2 := Lib.hid (blk' hb2 HBk1.out)
    have HB2 := Lib.hid (HB1.out.trans (hb2.mono HB1.out.size))
    clear c0 c1 c2 hb2
    obtain ⟨⟨c0, c1, c2⟩, _⟩ := cells3 HBk2.out
    by_cases hy : axB ys = true
    · rw [hy]
      have EY := Lib.hid hy
      clear hy
      by_cases hn : ((vs.length : Int) != (xs.length : Int)) = true
      · have R : Hid (tabErr xs ys vs = 11) := by unfold Hid tabErr tabB; rw [hn]; simp
        go_wp2_with fail
        go_ret
        exact ⟨by rw [R.out]; rfl, HB2.out⟩
      · have hn' : ((vs.length : Int) != (xs.length : Int)) = false := by simpa using hn
        have R : Hid (tabErr xs ys vs = if vs.any (rowBad ys.length) then 11 else 0) := by unfold Hid tabErr tabB; rw [hn', EX.out, EY.out]; cases vs.any (rowBad ys.length) <;> rfl
        clear hn
        go_wp2_with fail
        clear c0 c1 c2
        go_loopw [3, 4] (fun i _ wr => ∃ k : Nat, k ≤ vs.length ∧ i = .int .i64 k ∧ (vs.drop k).any (rowBad ys.length) = vs.any (rowBad ys.length) ∧ Below w2.heap.size w2 wr) (fun i _ _ => vs.length - (intOf i).toNat)
        case atStart => exact ⟨0, by omega, rfl, by simp, Below.refl _ _⟩
        case round =>
          obtain ⟨k, hk, rfl, hp, hbr⟩ := hrel
          obtain ⟨wo, rfl⟩ : ∃ wo : World, wo = wr := ⟨_, rfl⟩
          have HP := Lib.hid hp
          have HBR := Lib.hid hbr
          obtain ⟨⟨c0, c1, c2⟩, _⟩ := cells3 (blk' hbr HBk2.out)
          clear hp hbr
          by_cases hlt : k < vs.length
          · obtain ⟨b, off, rfl, hbl, hc⟩ := HVv.out (by omega)
            obtain ⟨B, d, hc1, hB⟩ := hc k hlt
            have HBB := Lib.hid (HB2.out.trans (HBR.out.mono HB2.out.size))
            have h1 := (HBB.out.cell (p := ⟨b, off + k, none⟩) hbl).trans hc1
            have HI := Lib.hid (hB.below HBB.out)
            have HD := Lib.hid (any_drop (rowBad ys.length) vs [] k hlt)
            clear hc hc1 hB
            generalize hr : vs[k]?.getD [] = r at h1 HI HD
            clear hr
            have t1 : (k : Int) < (vs.length : Int) := by omega
            have t2 : (0 : Int) ≤ (k : Int) := by omega
            by_cases hl : ((r.length : Int) != (ys.length : Int)) = true
            · have HRB : Hid (rowBad ys.length r = true) := by unfold Hid rowBad; rw [hl]; rfl
              go_wp2_with fail
              go_quiet (fail)
              go_wp2_with fail
              go_ret
              exact ⟨by rw [R.out, ← HP.out, HD.out, HRB.out]; rfl, Below.drewN' HBB.out _⟩
            · have hl' : ((r.length : Int) != (ys.length : Int)) = false := by simpa using hl
              have HRB : Hid (rowBad ys.length r = r.any outI) := by unfold Hid rowBad; rw [hl']; rfl
              clear hl
              have hry : r.length ≤ 9223372036854775807 := by
                have := HSY.out
                unfold maxLen at this
                simp at hl'
                omega
              go_wp2_with fail
              go_quiet (fail)
              go_wp2_with fail
              go_loopw [4] (fun i wq => ∃ j : Nat, j ≤ r.length ∧ i = .int .i64 j ∧ (r.drop j).any outI = r.any outI ∧ Below wo.heap.size wo wq) (fun i _ => r.length - (intOf i).toNat)
              case atStart => exact ⟨0, by omega, rfl, by simp, Below.drewN' (Below.refl _ _) _⟩
              case round =>
                obtain ⟨j, hj, rfl, hp2, hbq⟩ := hrel
                have HP2 := Lib.hid hp2
                have HBQ := Lib.hid hbq
                have HBQ2 := Lib.hid (HBB.out.trans (hbq.mono HBB.out.size))
                obtain ⟨⟨e0, e1, e2⟩, _⟩ := cells3 (blk' hbq (blk' HBR.out HBk2.out))
                have h2 := cell_b' hbq h1
                clear hp2 hbq
                by_cases hlt2 : j < r.length
                · obtain ⟨b2, off2, rfl, hbl2, hc2⟩ := HI.out (by omega)
                  have h3 := cell_b' HBQ.out (hc2 j hlt2)
                  have HD2 := Lib.hid (any_drop outI r 0 j hlt2)
                  clear hc2
                  generalize hx2 : r[j]?.getD 0 = x at h3 HD2
                  clear hx2
                  go_wp2_with fail
                  refine (from_any _ _ _ _).mono ?_
                  rintro e w' ⟨rfl, rfl⟩
                  by_cases hv : wB x (-1000000) 1000000 = true
                  · rw [hv]
                    have HO : Hid (outI x = false) := by unfold Hid outI; rw [hv]; rfl
                    clear hv
                    go_wp2_with fail
                    go_roundw
                    case rel => exact ⟨j + 1, by omega, by go_num, by rw [← HP2.out, HD2.out, HO.out]; simp, HBQ.out⟩
                    case measure => simp [intOf]; omega
                  · have hv' : wB x (-1000000) 1000000 = false := by simpa using hv
                    rw [hv']
                    have HO : Hid (outI x = true) := by unfold Hid outI; rw [hv']; rfl
                    clear hv hv'
                    go_wp2_with fail
                    go_ret
                    exact ⟨by rw [R.out, ← HP.out, HD.out, HRB.out, ← HP2.out, HD2.out, HO.out]; rfl, HBQ2.out⟩
                · have HZ : Hid (rowBad ys.length r = false) := by unfold Hid; rw [HRB.out, ← HP2.out, List.drop_eq_nil_of_le (by omega)]; rfl
                  go_wp2_with fail
                  go_roundw
                  case rel => exact ⟨k + 1, by omega, by go_num, by rw [← HP.out, HD.out, HZ.out]; simp, HBR.out.trans (HBQ.out.mono HBR.out.size)⟩
                  case measure => simp [intOf]; omega
          · go_wp2_with fail
            go_ret
            exact ⟨by rw [R.out, ← HP.out, List.drop_eq_nil_of_le (by omega)]; rfl, HB2.out.trans (HBR.out.mono HB2.out.size)⟩
    · have hy' : axB ys = false := by simpa using hy
      rw [hy']
      have R : Hid (tabErr xs ys vs = 11) := by unfold Hid tabErr tabB; rw [hy']; simp
      clear hy hy'
      go_wp2_with fail
      go_ret
      exact ⟨by rw [R.out]; rfl, HB2.out⟩
  · have hx' : axB xs = false := by simpa using hx
    rw [hx']
    have R : Hid (tabErr xs ys vs = 11) := by unfold Hid tabErr tabB; rw [hx']; simp
    clear hx hx'
    go_wp2_with fail
    go_ret
    exact ⟨by rw [R.out]; rfl, HB1.out⟩
end Go.Proofs.Ytfaiogajaaclcaa
/- The law SpansMeets: it returns true; old memory stays. -/
namespace Go.Proofs.Ytfaiogajaaclcaa
open Go.RowKit

theorem blk_lt {W : World} {B : Nat} {o : Obj} (h : W.heap[B]? = some o) : B < W.heap.size := (Array.getElem?_eq_some_iff.1 h).1
end Go.Proofs.Ytfaiogajaaclcaa
/- The contracts of Add, Times, Part, and of what the reference has for them. -/
namespace Go.Proofs.Ytfaiogajaaclcaa
open Go.RowKit

theorem cell_b {W W' : World} {B o : Nat} {v : Value} (hb : Below W.heap.size W W') (h : W.cell? ⟨B, o, none⟩ = some v) : W'.cell? ⟨B, o, none⟩ = some v := by
  obtain ⟨ob, ho, _⟩ := cells_of_cell h
  exact (hb.cell (p := ⟨B, o, none⟩) (blk_lt ho)).trans h
theorem rfloor_eq (a b : Int) (hb : 1 ≤ b) : -((-a + b - 1) / b) = a / b := by
  have e := Int.mul_ediv_add_emod a b
  have e1 := Int.emod_nonneg a (show b ≠ 0 by omega)
  have e2 := Int.emod_lt_of_pos a (show 0 < b by omega)
  have h := ((Int.ediv_emod_unique (a := -a + b - 1) (b := b) (r := b - 1 - a % b) (q := -(a / b)) (by omega)).2 ⟨by rw [Int.mul_neg]; omega, by omega, by omega⟩).1
  rw [h]; omega
set_option maxHeartbeats 400000 in
theorem rfloor_any (a b : Int) (w : World) (hb : 1 ≤ b) (hb' : b ≤ 1000000000000000000) (ha : -1000000000000000000 ≤ a) (ha' : a ≤ 1000000000000000000):
    Calls Try.prog 85 #[.int .i64 a, .int .i64 b] w fun e w' => e = .returned (.int .i64 (a / b)) ∧ w' = w := by
  have F := Lib.hid (rfloor_eq a b hb)
  by_cases h : 0 ≤ a
  · go_enter Try.func85, Try.ntmps85
    go_wp2
    go_ret
    exact ⟨rfl, rfl⟩
  · have hq := ediv_bd (-a + b - 1) b 4000000000000000000 (by omega) hb (by omega) (by omega)
    have hn : 0 ≤ -a + b - 1 := by omega
    go_enter Try.func85, Try.ntmps85
    go_wp2
    go_ret
    exact ⟨by rw [← F.out]; rfl, rfl⟩
set_option maxHeartbeats 400000 in
theorem rceil_any (a b : Int) (w : World) (hb : 1 ≤ b) (hb' : b ≤ 1000000000000000000) (ha : -1000000000000000000 ≤ a) (ha' : a ≤ 1000000000000000000):
    Calls Try.prog 86 #[.int .i64 a, .int .i64 b] w fun e w' => e = .returned (.int .i64 (-(-a / b))) ∧ w' = w := by
  obtain ⟨hq1, hq2⟩ := ediv_bd (-a) b 4000000000000000000 (by omega) hb (by omega) (by omega)
  go_enter Try.func86, Try.ntmps86
  go_wp2_with (go_at_call 85; refine (rfloor_any _ _ _ (by omega) (by omega) (by omega) (by omega)).mono ?_; rintro e w' ⟨rfl, rfl⟩)
  go_ret
  exact ⟨rfl, rfl⟩
end Go.Proofs.Ytfaiogajaaclcaa
/- The reference's CheckBound, corners and less. -/
namespace Go.Proofs.Ytfaiogajaaclcaa
open Go.RowKit

set_option maxRecDepth 100000 in
set_option maxHeartbeats 2000000 in
theorem rcb_any (xs ys : List Int) (vs : List (List Int)) (X Y V : Option Addr) (cx cy cv : Nat) (x y : Int × Int) (w : World) (hS : TSm xs ys vs) (hR : TabR w X Y V cx cy cv xs ys vs) :
   Calls Try.prog 41 #[.agg #[.slice X xs.length cx, .slice Y ys.length cy, .slice V vs.length cv], .agg #[.int .i64 x.1, .int .i64 x.2], .agg #[.int .i64 y.1, .int .i64 y.2]] w fun e w' => e = .returned (.int .i64 (cpErr xs ys vs x y)) ∧ Below w.heap.size w w' := by
  obtain ⟨xl, xh⟩ := x
  obtain ⟨yl, yh⟩ := y
  show Calls Try.prog 41 #[.agg #[.slice X xs.length cx, .slice Y ys.length cy, .slice V vs.length cv], .agg #[.int .i64 xl, .int .i64 xh], .agg #[.int .i64 yl, .int .i64 yh]] w _
  have HS := Lib.hid hS
  have HE : Hid (cpErr xs ys vs (xl, xh) (yl, yh) = if tabB xs ys vs then (if spErr [(xl, xh), (yl, yh)] != 0 then spErr [(xl, xh), (yl, yh)] else if liesB xs (xl, xh) && liesB ys (yl, yh) then 0 else 1) else 11) := rfl
  obtain ⟨W0, hW0⟩ : ∃ W0, (((w.alloc (.cells #[.slice X xs.length cx, .slice Y ys.length cy, .slice V vs.length cv] 25)).alloc (.cells #[.int .i64 xl, .int .i64 xh] 27)).alloc (.cells #[.int .i64 yl, .int .i64 yh] 27)) = W0 := ⟨_, rfl⟩
  have HB : Hid (Below w.heap.size w W0) := by
    unfold Hid; rw [← hW0]
    repeat (first | exact Below.refl _ _ | refine Below.alloc ?_ (by simp <;> omega) _)
  have ha : W0.heap[w.heap.size]? = some (.cells #[.slice X xs.length cx, .slice Y ys.length cy, .slice V vs.length cv] 25) := by
    rw [← hW0]; simp only [heap_alloc_at, World.size_alloc]; repeat (first | rw [if_pos trivial] | rw [if_neg (by omega)])
  have hb : W0.heap[w.heap.size + 1]? = some (.cells #[.int .i64 xl, .int .i64 xh] 27) := by
    rw [← hW0]; simp only [heap_alloc_at, World.size_alloc]; repeat (first | rw [if_pos trivial] | rw [if_neg (by omega)])
  have hc : W0.heap[w.heap.size + 1 + 1]? = some (.cells #[.int .i64 yl, .int .i64 yh] 27) := by
    rw [← hW0]; simp only [heap_alloc_at, World.size_alloc]; repeat (first | rw [if_pos trivial] | rw [if_neg (by omega)])
  obtain ⟨⟨c0, c1, c2⟩, _⟩ := cells3 ha
  obtain ⟨⟨p0, p1⟩, _⟩ := cells2 hb
  obtain ⟨⟨q0, q1⟩, _⟩ := cells2 hc
  have HR := Lib.hid (hR.below HB.out)
  have HW0 := Lib.hid hW0
  clear hW0 ha hb hc hS hR
  go_enter Try.func41, Try.ntmps41
  go_wp2_with fail
  rw [HW0.out]
  refine (rcheckTable_any xs ys vs X Y V cx cy cv _ HS.out HR.out).mono ?_
  rintro e w1 ⟨rfl, hb1⟩
  replace c0 := cell_b hb1 c0
  replace c1 := cell_b hb1 c1
  replace c2 := cell_b hb1 c2
  replace p0 := cell_b hb1 p0
  replace p1 := cell_b hb1 p1
  replace q0 := cell_b hb1 q0
  replace q1 := cell_b hb1 q1
  replace HR := Lib.hid (HR.out.below hb1)
  replace HB := Lib.hid (HB.out.trans (hb1.mono HB.out.size))
  clear hb1
  by_cases ht : tabB xs ys vs = true
  · have hte : tabErr xs ys vs = 0 := by unfold tabErr; rw [if_pos ht]
    rw [hte]
    rw [if_pos ht] at HE
    have hx2 := (tbl_of ht).ax.two
    have hx12 := (tbl_of ht).ax.twelve
    have hy2 := (tbl_of ht).ay.two
    have hy12 := (tbl_of ht).ay.twelve
    clear ht hte
    go_wp2_with fail
    refine (two_any (xl, xh) (yl, yh) _).mono ?_
    rintro e w2 ⟨rfl, hb2⟩
    replace c0 := cell_b hb2 c0
    replace c1 := cell_b hb2 c1
    replace c2 := cell_b hb2 c2
    replace p0 := cell_b hb2 p0
    replace p1 := cell_b hb2 p1
    replace q0 := cell_b hb2 q0
    replace q1 := cell_b hb2 q1
    replace HR := Lib.hid (HR.out.below hb2)
    replace HB := Lib.hid (HB.out.trans (hb2.mono HB.out.size))
    clear hb2
    by_cases hs : (spErr [(xl, xh), (yl, yh)] != 0) = true
    · rw [if_pos hs] at HE
      generalize spErr [(xl, xh), (yl, yh)] = se at *
      go_wp2_with fail
      go_ret
      exact ⟨by rw [HE.out]; rfl, HB.out⟩
    · have hs' : spErr [(xl, xh), (yl, yh)] = 0 := by simpa using hs
      rw [if_neg hs] at HE
      rw [hs']
      clear hs hs'
      go_wp2_with fail
      refine (between_any X xs cx xl xh _ (by omega) (by omega) HR.out.hX).mono ?_
      rintro e w3 ⟨rfl, hb3⟩
      replace c0 := cell_b hb3 c0
      replace c1 := cell_b hb3 c1
      replace c2 := cell_b hb3 c2
      replace p0 := cell_b hb3 p0
      replace p1 := cell_b hb3 p1
      replace q0 := cell_b hb3 q0
      replace q1 := cell_b hb3 q1
      replace HR := Lib.hid (HR.out.below hb3)
      replace HB := Lib.hid (HB.out.trans (hb3.mono HB.out.size))
      clear hb3
      by_cases l1 : liesB xs (xl, xh) = true
      · rw [l1] at HE ⊢
        clear l1
        go_wp2_with fail
        refine (between_any Y ys cy yl yh _ (by omega) (by omega) HR.out.hY).mono ?_
        rintro e w4 ⟨rfl, hb4⟩
        replace c0 := cell_b hb4 c0
        replace c1 := cell_b hb4 c1
        replace c2 := cell_b hb4 c2
        replace p0 := cell_b hb4 p0
        replace p1 := cell_b hb4 p1
        replace q0 := cell_b hb4 q0
        replace q1 := cell_b hb4 q1
        replace HR := Lib.hid (HR.out.below hb4)
        replace HB := Lib.hid (HB.out.trans (hb4.mono HB.out.size))
        clear hb4
        by_cases l2 : liesB ys (yl, yh) = true
        · rw [l2] at HE ⊢
          clear l2
          go_wp2_with fail
          go_ret
          exact ⟨by rw [HE.out]; rfl, HB.out⟩
        · have l2' : liesB ys (yl, yh) = false := by simpa using l2
          rw [l2'] at HE ⊢
          clear l2 l2'
          go_wp2_with fail
          go_ret
          exact ⟨by rw [HE.out]; rfl, HB.out⟩
      · have l1' : liesB xs (xl, xh) = false := by simpa using l1
        rw [l1'] at HE ⊢
        clear l1 l1'
        go_wp2_with fail
        go_ret
        exact ⟨by rw [HE.out]; rfl, HB.out⟩
  · have hte : tabErr xs ys vs = 11 := by unfold tabErr; rw [if_neg ht]
    rw [hte]
    rw [if_neg ht] at HE
    clear ht hte
    go_wp2_with fail
    go_ret
    exact ⟨by rw [HE.out]; rfl, HB.out⟩
end Go.Proofs.Ytfaiogajaaclcaa
/- A copy of a slice, append([]T{}, l...): a new slice of equal elements; nothing old is written. -/
namespace Go.Proofs.Ytfaiogajaaclcaa
open Go.RowKit

section
variable {P : Program} (w : World)
/-- what a copy owes: a new slice of so many elements, its cells as given -/
structure Copied (e : TypeId) (size m : Nat) (news : List Value) (w : World) (A : Option Addr) (c : Nat) (w' : World) : Prop where
  len : m ≤ c
  below : Below w.heap.size w w'
  own : 0 < m → w'.ownsRow w.heap.size e size (.slice A m c) m news
end
end Go.Proofs.Ytfaiogajaaclcaa
/- The contract of the reference's Copy: an equal table in new memory; nothing old is written. -/
namespace Go.Proofs.Ytfaiogajaaclcaa
open Go.RowKit

/-- a slice of ints in a row of its own -/
def OwnI (base : Nat) (w : World) (A : Option Addr) (c : Nat) (l : List Int) : Prop := 0 < l.length → w.ownsRow base 3 1 (.slice A l.length c) l.length (IV l)
theorem OwnI.ints {base : Nat} {w : World} {A : Option Addr} {c : Nat} {l : List Int} (h : OwnI base w A c l) : Ints w A l := fun hl => by
  obtain ⟨A', c', e, hI, _⟩ := ints_of_own (h hl)
  cases e
  exact hI hl
theorem grown_of_below {W W' : World} (hb : Below W.heap.size W W') : W.grownBy W' none := ⟨hb.os, hb.tape, hb.output, hb.size, fun k hk _ => hb.block k hk⟩
/-- a step that turns no block of ints keeps it -/
theorem OwnI.step {base : Nat} {W W' : World} {A : Option Addr} {c : Nat} {l : List Int} {row : Option Nat} (h : OwnI base W A c l) (hg : W.grownBy W' row) (hr : ∀ g cs fz, row = some g → W.heap[g]? = some (.cells cs 3 fz) → False) : OwnI base W' A c l := fun hl => by
  have h1 := h hl
  refine h1.kept hg ?_
  obtain ⟨_, ⟨e, _⟩ | ⟨g, cap, cur, e, hb, hgb, _⟩⟩ := h1
  · left; rw [e]; rfl
  · right
    intro e'
    rw [e] at e'
    exact hr g _ _ (by simpa [Value.ownBlock] using e'.symm) hgb
theorem OwnI.below {base : Nat} {W W' : World} {A : Option Addr} {c : Nat} {l : List Int} (h : OwnI base W A c l) (hb : Below W.heap.size W W') : OwnI base W' A c l := h.step (grown_of_below hb) (fun g cs fz e => by cases e)
theorem OwnI.mono {b1 b2 : Nat} {w : World} {A : Option Addr} {c : Nat} {l : List Int} (h : OwnI b1 w A c l) (hb : b2 ≤ b1) : OwnI b2 w A c l := fun hl => by
  obtain ⟨h1, ⟨e, h0⟩ | ⟨g, cap, cur, e, hbg, rest⟩⟩ := h hl
  · exact ⟨h1, .inl ⟨e, h0⟩⟩
  · exact ⟨h1, .inr ⟨g, cap, cur, e, by omega, rest⟩⟩
/-- rows, each in a row of its own -/
def OwnRows (base : Nat) (w : World) (rs : List Value) (l : List (List Int)) : Prop := rs.length = l.length ∧ ∀ k, k < l.length → ∃ B c, rs[k]? = some (.slice B (l[k]?.getD []).length c) ∧ (l[k]?.getD []).length ≤ c ∧ OwnI base w B c (l[k]?.getD [])
theorem OwnRows.step {base : Nat} {W W' : World} {rs : List Value} {l : List (List Int)} {row : Option Nat} (h : OwnRows base W rs l) (hg : W.grownBy W' row) (hr : ∀ g cs fz, row = some g → W.heap[g]? = some (.cells cs 3 fz) → False) : OwnRows base W' rs l :=
  ⟨h.1, fun k hk => by obtain ⟨B, c, h1, h2, h3⟩ := h.2 k hk; exact ⟨B, c, h1, h2, h3.step hg hr⟩⟩
/-- nil slices have no room -/
def MatN (w : World) (A : Option Addr) (l : List (List Int)) : Prop :=
  0 < l.length → ∃ b off, A = some ⟨b, off, none⟩ ∧ b < w.heap.size ∧ ∀ k, k < l.length → ∃ B c, w.cell? ⟨b, off + k, none⟩ = some (.slice B (l[k]?.getD []).length c) ∧ Ints w B (l[k]?.getD []) ∧ (B = none → c = 0)
structure TabN (w : World) (X Y V : Option Addr) (cx cy cv : Nat) (xs ys : List Int) (vs : List (List Int)) : Prop where
  nx : X = none → cx = 0
  ny : Y = none → cy = 0
  mv : MatN w V vs
theorem MatN.below {w w' : World} {A : Option Addr} {l : List (List Int)} (h : MatN w A l) (hb : Below w.heap.size w w') : MatN w' A l := fun hl => by
  obtain ⟨b, off, e, hlt, hc⟩ := h hl
  refine ⟨b, off, e, Nat.lt_of_lt_of_le hlt hb.size, fun k hk => ?_⟩
  obtain ⟨B, c, h1, h2, h3⟩ := hc k hk
  exact ⟨B, c, (hb.cell (p := ⟨b, off + k, none⟩) hlt).trans h1, h2.below hb, h3⟩
theorem TabN.below {w w' : World} {X Y V : Option Addr} {cx cy cv : Nat} {xs ys : List Int} {vs : List (List Int)} (h : TabN w X Y V cx cy cv xs ys vs) (hb : Below w.heap.size w w') : TabN w' X Y V cx cy cv xs ys vs := ⟨h.nx, h.ny, h.mv.below hb⟩
end Go.Proofs.Ytfaiogajaaclcaa
/- The reference's bound: it is the program's. -/
namespace Go.Proofs.Ytfaiogajaaclcaa
open Go.RowKit

theorem ptAt_is {xs ys : List Int} {vs : List (List Int)} {x y : Int} (hT : Tbl xs ys vs) (hx : OnAx xs x) (hy : OnAx ys y) :
    (ptAt xs ys vs x y).n = atN xs ys vs x y ∧ (ptAt xs ys vs x y).d = atD xs ys x y ∧ (ptAt xs ys vs x y).x = x ∧ (ptAt xs ys vs x y).y = y := by
  unfold ptAt mkPt
  rw [dif_pos (at_bd hT hx hy)]
  exact ⟨rfl, rfl, rfl, rfl⟩
theorem floor_mono {n d m f : Int} (hd : 1 ≤ d) (hf : 1 ≤ f) (h : n * f ≤ m * d) : n / d ≤ m / f := by
  have h1 : n * f / (d * f) = n / d := Int.mul_ediv_mul_of_pos_left n d (by omega)
  have h2 : m * d / (f * d) = m / f := Int.mul_ediv_mul_of_pos_left m f (by omega)
  rw [← h1, ← h2, Int.mul_comm f d]
  exact Int.ediv_le_ediv (Int.mul_pos (by omega) (by omega)) h
theorem step_low (l p : Pt) : mn (l.n / l.d) (p.n / p.d) = (if cmpV p.n p.d l.n l.d < 0 then p else l).n / (if cmpV p.n p.d l.n l.d < 0 then p else l).d := by
  have h := (cmpV_sign (n := p.n) (m := l.n) p.ok.1 l.ok.1).1
  rw [mn_eq]
  by_cases c : cmpV p.n p.d l.n l.d < 0
  · rw [if_pos c]
    have := floor_mono (n := p.n) (m := l.n) p.ok.1 l.ok.1 (by have := h.1 c; omega)
    omega
  · rw [if_neg c]
    have := floor_mono (n := l.n) (m := p.n) l.ok.1 p.ok.1 (by have := fun q => c (h.2 q); omega)
    omega
theorem step_top (m p : Pt) : mx (-(-m.n / m.d)) (-(-p.n / p.d)) = -(-(if 0 < cmpV p.n p.d m.n m.d then p else m).n / (if 0 < cmpV p.n p.d m.n m.d then p else m).d) := by
  have h := (cmpV_sign (n := p.n) (m := m.n) p.ok.1 m.ok.1).2
  rw [mx_eq]
  by_cases c : 0 < cmpV p.n p.d m.n m.d
  · rw [if_pos c]
    have := floor_mono (n := -p.n) (m := -m.n) p.ok.1 m.ok.1 (by have := h.1 c; rw [Int.neg_mul, Int.neg_mul]; omega)
    omega
  · rw [if_neg c]
    have := floor_mono (n := -m.n) (m := -p.n) m.ok.1 p.ok.1 (by have := fun q => c (h.2 q); rw [Int.neg_mul, Int.neg_mul]; omega)
    omega
end Go.Proofs.Ytfaiogajaaclcaa
/- What came in or was made, as lists of numbers, in both tongues; old contracts as abstract ones. -/
namespace Go.Proofs.Ytfaiogajaaclcaa
open Go.RowKit Lift

section
variable {w : World} {β : Bet} {Z : Blk}
theorem rep_ints {v : Value} {l : List Int} (h : Rep w β Z v (.list (ints l))) : ∃ A c, v = .slice A l.length c ∧ Ints w A l ∧ l.length ≤ c := by
  generalize hd : D.list (ints l) = d at h
  cases h with
  | list0 A c =>
    have : l = [] := by simpa [ints] using hd
    subst this
    exact ⟨A, c, rfl, fun h => by simp at h, by simp⟩
  | list b off c sz L vs hz hb hc hs hcell hrep =>
    cases hd
    refine ⟨_, c, by rw [ints_len], fun hl => ⟨b, off, rfl, hb, fun k hk => ?_⟩, by rw [← ints_len l]; exact hc⟩
    have hk' : k < (ints l).length := by rw [ints_len]; exact hk
    have hg := ints_get l k hk'
    have hsz : sz = 1 := by rw [← hs _ (List.getElem_mem hk'), hg]; rfl
    have h0 : 0 < (ints l)[k].length := by rw [hg]; simp
    have h1 := hcell k 0 hk' h0
    have h2 := hrep k 0 hk' h0
    rw [getElem_of_eq hk' hg 0 h0 (by simp)] at h2
    simp only [List.getElem_cons_zero] at h2
    rw [h1.trans (congrArg some h2.val_eq.symm) |>.symm, hsz]
    simp
  | _ => cases hd
theorem rep_mat {v : Value} {l : List (List Int)} (h : Rep w β Z v (.list (rows l))) : ∃ A c, v = .slice A l.length c ∧ Mat w A l := by
  generalize hd : D.list (rows l) = d at h
  cases h with
  | list0 A c =>
    have : l = [] := by simpa [rows] using hd
    subst this
    exact ⟨A, c, rfl, fun h => by simp at h⟩
  | list b off c sz L vs hz hb hc hs hcell hrep =>
    cases hd
    refine ⟨_, c, by rw [rows_len], fun hl => ⟨b, off, rfl, hb, fun k hk => ?_⟩⟩
    have hk' : k < (rows l).length := by rw [rows_len]; exact hk
    have hg := rows_get l k hk'
    have hsz : sz = 1 := by rw [← hs _ (List.getElem_mem hk'), hg]; rfl
    have h0 : 0 < (rows l)[k].length := by rw [hg]; simp
    have h1 := hcell k 0 hk' h0
    have h2 := hrep k 0 hk' h0
    rw [getElem_of_eq hk' hg 0 h0 (by simp)] at h2
    simp only [List.getElem_cons_zero] at h2
    obtain ⟨A, cc, e1, e2, _⟩ := rep_ints h2
    refine ⟨A, cc, ?_, e2⟩
    rw [hsz, e1] at h1
    simpa using h1
  | _ => cases hd
theorem rep_agg {v : Value} {l : List D} (h : Rep w β Z v (.agg l)) : ∃ cs : Array Value, v = .agg cs ∧ cs.size = l.length ∧ ∀ i (h : i < l.length), Rep w β Z (cs.getD i undef) l[i] := by
  cases h with
  | agg cs _ h1 h2 => exact ⟨cs, rfl, h1, h2⟩
theorem rep_tab {v : Value} {xs ys : List Int} {vs : List (List Int)} (h : Rep w β Z v (tabD xs ys vs)) : ∃ X Y V cx cy cv, v = .agg #[.slice X xs.length cx, .slice Y ys.length cy, .slice V vs.length cv] ∧ TabR w X Y V cx cy cv xs ys vs := by
  obtain ⟨cs, rfl, h1, h2⟩ := rep_agg h
  obtain ⟨X, cx, e0, hX, lx⟩ := rep_ints (h2 0 (by simp))
  obtain ⟨Y, cy, e1, hY, ly⟩ := rep_ints (h2 1 (by simp))
  obtain ⟨V, cv, e2, hV⟩ := rep_mat (h2 2 (by simp))
  refine ⟨X, Y, V, cx, cy, cv, ?_, ⟨hX, hY, hV, lx, ly⟩⟩
  rw [← e0, ← e1, ← e2]
  congr 1
  apply Array.ext
  · simpa using h1
  · intro i h3 h4
    have h5 : i < 3 := by simpa using h4
    match i, h5 with
    | 0, _ => simp [h3]
    | 1, _ => simp [h3]
    | 2, _ => simp [h3]
theorem rep_sp {v : Value} {x : Int × Int} (h : Rep w β Z v (spD x)) : v = .agg #[.int .i64 x.1, .int .i64 x.2] := by
  obtain ⟨cs, rfl, h1, h2⟩ := rep_agg h
  have e0 := (h2 0 (by simp)).val_eq
  have e1 := (h2 1 (by simp)).val_eq
  rw [e0, e1]
  congr 1
  apply Array.ext
  · simpa using h1
  · intro i h3 h4
    have h5 : i < 2 := by simpa using h4
    match i, h5 with
    | 0, _ => simp [h3]
    | 1, _ => simp [h3]
end
theorem args1 {vs : Array Value} (h : vs.size = 1) : vs = #[vs.getD 0 undef] := by
  apply Array.ext
  · simpa using h
  · intro i h3 h4
    have h5 : i < 1 := by simpa using h4
    match i, h5 with
    | 0, _ => simp [h3]
theorem args2 {vs : Array Value} (h : vs.size = 2) : vs = #[vs.getD 0 undef, vs.getD 1 undef] := by
  apply Array.ext
  · simpa using h
  · intro i h3 h4
    have h5 : i < 2 := by simpa using h4
    match i, h5 with
    | 0, _ => simp [h3]
    | 1, _ => simp [h3]
theorem args3 {vs : Array Value} (h : vs.size = 3) : vs = #[vs.getD 0 undef, vs.getD 1 undef, vs.getD 2 undef] := by
  apply Array.ext
  · simpa using h
  · intro i h3 h4
    have h5 : i < 3 := by simpa using h4
    match i, h5 with
    | 0, _ => simp [h3]
    | 1, _ => simp [h3]
    | 2, _ => simp [h3]
end Go.Proofs.Ytfaiogajaaclcaa
/- Old contracts as abstract ones: tables and bounds. No conditions. -/
namespace Go.Proofs.Ytfaiogajaaclcaa
open Go.RowKit Lift

theorem flat_sp (x : Int × Int) (w : World) (β : Bet) (Z : Blk) : Rep w β Z (.agg #[.int .i64 x.1, .int .i64 x.2]) (spD x) :=
  .agg _ _ rfl fun i hi => by
    have : i < 2 := by simpa using hi
    match i, this with
    | 0, _ => exact .val _
    | 1, _ => exact .val _
theorem flat_sp1 (x : Int × Int) (e : Int) (w : World) (β : Bet) (Z : Blk) : Rep w β Z (.tuple #[.agg #[.int .i64 x.1, .int .i64 x.2], .int .i64 e]) (.tup [spD x, dI e]) :=
  .tup _ _ rfl fun i hi => by
    have : i < 2 := by simpa using hi
    match i, this with
    | 0, _ => exact flat_sp x w β Z
    | 1, _ => exact .val _
theorem Tbl.sz {xs ys : List Int} {vs : List (List Int)} (h : Tbl xs ys vs) : TSz xs ys vs := by
  have h1 := h.ax.twelve
  have h2 := h.ay.twelve
  have h3 := h.len
  refine ⟨by omega, by omega, by omega, fun r hr => ?_⟩
  obtain ⟨k, hk, rfl⟩ := List.getElem_of_mem hr
  have := h.row k hk
  simp only [List.getElem?_eq_getElem hk, Option.getD_some] at this
  omega
section
variable {xs ys : List Int} {vs : List (List Int)}
theorem bound_ac (x y : Int × Int) (hS : TSz xs ys vs) : AC Try.prog 27 [tabD xs ys vs, spD x, spD y] [] [] (.tup [spD (boundR xs ys vs x y).1, dI (boundR xs ys vs x y).2]) :=
  ac_of_calls ⟨Try.f27, Try.func27, by decide, rfl⟩ (flat_sp1 _ _) fun w us β Z hs hr => by
    obtain ⟨X, Y, V, cx, cy, cv, e, hR⟩ := rep_tab (hr 0 (by simp))
    rw [args3 hs, e, rep_sp (hr 1 (by simp)), rep_sp (hr 2 (by simp))]
    exact bound_any xs ys vs X Y V cx cy cv x y w hS hR
end
end Go.Proofs.Ytfaiogajaaclcaa
/- Old contracts as abstract ones: the worst point, the check of a bound, the law's helpers. No conditions. -/
namespace Go.Proofs.Ytfaiogajaaclcaa
open Go.RowKit Lift

theorem in_tab' {S : Nat → Prop} (xs ys : List Int) (vs : List (List Int)) : In S (tabD xs ys vs) := .agg _ (by intro d hd; simp at hd; rcases hd with rfl | rfl | rfl <;> exact .list _)
theorem works_ac : AC Try.prog 19 [] [] [] (dB true) :=
  ac_of_calls ⟨Try.f19, Try.func19, by decide, rfl⟩ (fun _ _ _ => .val _) fun w vs β Z hs hr => by
    obtain rfl : vs = #[] := Array.size_eq_zero_iff.1 (by simpa using hs)
    exact works_any w
section
variable {xs ys : List Int} {vs : List (List Int)}
theorem far_ac (hS : TSm xs ys vs) : AC Try.prog 17 [tabD xs ys vs] [] [] (dB (farB xs ys vs)) :=
  ac_of_calls ⟨Try.f17, Try.func17, by decide, rfl⟩ (fun _ _ _ => .val _) fun w us β Z hs hr => by
    obtain ⟨X, Y, V, cx, cy, cv, e, hR⟩ := rep_tab (hr 0 (by simp))
    rw [args1 hs, e]
    exact far_any xs ys vs X Y V cx cy cv w hS hR
theorem rcb_ac (x y : Int × Int) (hS : TSm xs ys vs) : AC Try.prog 41 [tabD xs ys vs, spD x, spD y] [] [] (dI (cpErr xs ys vs x y)) :=
  ac_of_calls ⟨Try.f41, Try.func41, by decide, rfl⟩ (fun _ _ _ => .val _) fun w us β Z hs hr => by
    obtain ⟨X, Y, V, cx, cy, cv, e, hR⟩ := rep_tab (hr 0 (by simp))
    rw [args3 hs, e, rep_sp (hr 1 (by simp)), rep_sp (hr 2 (by simp))]
    exact rcb_any xs ys vs X Y V cx cy cv x y w hS hR
end
end Go.Proofs.Ytfaiogajaaclcaa
/- At each point of a box the value of a table lies between the ends of its bound. In numbers; no conditions. -/
namespace Go.Proofs.Ytfaiogajaaclcaa

def flo (xs ys : List Int) (vs : List (List Int)) (x y : Int) : Int := atN xs ys vs x y / atD xs ys x y
def cei (xs ys : List Int) (vs : List (List Int)) (x y : Int) : Int := -(-(atN xs ys vs x y) / atD xs ys x y)
theorem Axis.cell_or {l : List Int} (h : Axis l) {x : Int} {i : Nat} (hi : i + 2 ≤ l.length) (h1 : l[i]?.getD 0 ≤ x) (h2 : x ≤ l[i+1]?.getD 0) : cellI l x = i ∨ (i = cellI l x + 1 ∧ x = l[i]?.getD 0) := by
  by_cases hc : 0 < i → l[i]?.getD 0 < x
  · exact .inl (h.cellI_eq ⟨hi, hc, fun _ => h2⟩)
  · have hpos : 0 < i := by
      rcases Nat.eq_zero_or_pos i with h0 | h0
      · exact absurd (fun hh => by omega) hc
      · exact h0
    have hx : x = l[i]?.getD 0 := by
      by_cases hlt : l[i]?.getD 0 < x
      · exact absurd (fun _ => hlt) hc
      · omega
    obtain ⟨j, rfl⟩ := Nat.exists_eq_succ_of_ne_zero (by omega : i ≠ 0)
    refine .inr ⟨?_, hx⟩
    have := h.cellI_eq (x := x) (i := j) ⟨by omega, fun _ => by have := h.gap j (by omega); simp only [Nat.succ_eq_add_one] at hx; omega, fun _ => by simp only [Nat.succ_eq_add_one] at hx; omega⟩
    rw [this]
def nX (xs ys : List Int) (vs : List (List Int)) (i k : Nat) (x y : Int) : Int := numF (xs[i+1]?.getD 0 - x) (x - xs[i]?.getD 0) (ys[k+1]?.getD 0 - y) (y - ys[k]?.getD 0)
    ((vs[i]?.getD [])[k]?.getD 0) ((vs[i+1]?.getD [])[k]?.getD 0) ((vs[i]?.getD [])[k+1]?.getD 0) ((vs[i+1]?.getD [])[k+1]?.getD 0)
def dX (xs ys : List Int) (i k : Nat) : Int := (xs[i+1]?.getD 0 - xs[i]?.getD 0) * (ys[k+1]?.getD 0 - ys[k]?.getD 0)
theorem dX_pos {xs ys : List Int} (hx : Axis xs) (hy : Axis ys) {i k : Nat} (hi : i + 2 ≤ xs.length) (hk : k + 2 ≤ ys.length) : 1 ≤ dX xs ys i k := by
  have h1 := hx.gap i (by omega)
  have h2 := hy.gap k (by omega)
  unfold dX
  have := Int.mul_le_mul h1.1 h2.1 (by omega) (by omega)
  omega
/-- the value by whatever part of the axes that the point lies on -/
theorem val_any {xs ys : List Int} {vs : List (List Int)} (hT : Tbl xs ys vs) {x y : Int} {i k : Nat} (hi : i + 2 ≤ xs.length) (hk : k + 2 ≤ ys.length) (x1 : xs[i]?.getD 0 ≤ x) (x2 : x ≤ xs[i+1]?.getD 0) (y1 : ys[k]?.getD 0 ≤ y) (y2 : y ≤ ys[k+1]?.getD 0) :
    atN xs ys vs x y * dX xs ys i k = nX xs ys vs i k x y * atD xs ys x y := by
  have hx := hT.ax.cell_or hi x1 x2
  have hy := hT.ay.cell_or hk y1 y2
  unfold atN atD nX dX numF denF
  simp only
  clear x1 x2 y1 y2
  generalize cellI xs x = i' at *
  generalize cellI ys y = k' at *
  rcases hx with rfl | ⟨rfl, hx2⟩ <;> rcases hy with rfl | ⟨rfl, hy2⟩
  · grind
  · generalize xs[i']?.getD 0 = x0 at *
    generalize xs[i'+1]?.getD 0 = x1 at *
    generalize ys[k']?.getD 0 = y0 at *
    generalize ys[k'+1]?.getD 0 = y1 at *
    generalize ys[k'+1+1]?.getD 0 = y2 at *
    subst hy2
    grind
  · generalize xs[i']?.getD 0 = x0 at *
    generalize xs[i'+1]?.getD 0 = x1 at *
    generalize xs[i'+1+1]?.getD 0 = x2 at *
    generalize ys[k']?.getD 0 = y0 at *
    generalize ys[k'+1]?.getD 0 = y1 at *
    subst hx2
    grind
  · generalize xs[i']?.getD 0 = x0 at *
    generalize xs[i'+1]?.getD 0 = x1 at *
    generalize xs[i'+1+1]?.getD 0 = x2 at *
    generalize ys[k']?.getD 0 = y0 at *
    generalize ys[k'+1]?.getD 0 = y1 at *
    generalize ys[k'+1+1]?.getD 0 = y2 at *
    subst hx2 hy2
    grind
/-- neighbours among the stops of a span -/
theorem stops_near {l : List Int} (h : Axis l) {lo hi x : Int} (h1 : l[0]?.getD 0 ≤ lo) (h2 : hi ≤ l[l.length-1]?.getD 0) (h3 : lo ≤ x) (h4 : x ≤ hi) :
    ∃ (i : Nat) (x1 x2 : Int), i + 2 ≤ l.length ∧ x1 ∈ stopsL l lo hi ∧ x2 ∈ stopsL l lo hi ∧ l[i]?.getD 0 ≤ x1 ∧ x1 ≤ x ∧ x ≤ x2 ∧ x2 ≤ l[i+1]?.getD 0 := by
  obtain ⟨c1, c2, c3⟩ := h.cellI_at x
  generalize cellI l x = i at *
  have a1 : l[i]?.getD 0 ≤ x := by
    rcases Nat.eq_zero_or_pos i with h0 | h0
    · subst h0; omega
    · have := c2 h0; omega
  have a2 : x ≤ l[i+1]?.getD 0 := by
    by_cases hlt : i + 2 < l.length
    · exact c3 hlt
    · have : l.length - 1 = i + 1 := by omega
      rw [this] at h2; omega
  have m1 : l[i]?.getD 0 ∈ l := by simp [show i < l.length by omega]
  have m2 : l[i+1]?.getD 0 ∈ l := by simp [show i + 1 < l.length by omega]
  have hmem : ∀ z, z = lo ∨ (z ∈ l ∧ lo < z ∧ z < hi) ∨ (lo < hi ∧ z = hi) → z ∈ stopsL l lo hi := by
    intro z hz
    unfold stopsL midL
    simp only [List.cons_append, List.mem_cons, List.mem_append, List.mem_filter, Bool.and_eq_true, decide_eq_true_eq]
    rcases hz with hz | ⟨hz1, hz2, hz3⟩ | ⟨hz1, hz2⟩
    · exact .inl hz
    · exact .inr (.inl ⟨hz1, hz2, hz3⟩)
    · exact .inr (.inr (by rw [if_pos hz1]; simp [hz2]))
  refine ⟨i, max lo (l[i]?.getD 0), min hi (l[i+1]?.getD 0), c1, ?_, ?_, by omega, by omega, by omega, by omega⟩
  · by_cases q1 : l[i]?.getD 0 ≤ lo
    · exact hmem _ (.inl (by omega))
    · by_cases q2 : l[i]?.getD 0 < hi
      · have e : max lo (l[i]?.getD 0) = l[i]?.getD 0 := by omega
        rw [e]; exact hmem _ (.inr (.inl ⟨m1, by omega, q2⟩))
      · exact hmem _ (.inr (.inr ⟨by omega, by omega⟩))
  · by_cases q1 : hi ≤ l[i+1]?.getD 0
    · by_cases q2 : lo < hi
      · exact hmem _ (.inr (.inr ⟨q2, by omega⟩))
      · exact hmem _ (.inl (by omega))
    · by_cases q2 : lo < l[i+1]?.getD 0
      · have e : min hi (l[i+1]?.getD 0) = l[i+1]?.getD 0 := by omega
        rw [e]; exact hmem _ (.inr (.inl ⟨m2, q2, by omega⟩))
      · exact hmem _ (.inl (by omega))
/-- linear between two points: between the two values -/
theorem lin {P Q b a x1 x x2 : Int} (h1 : x1 ≤ x) (h2 : x ≤ x2) :
    ((b - x1) * P + (x1 - a) * Q ≤ (b - x) * P + (x - a) * Q ∧ (b - x) * P + (x - a) * Q ≤ (b - x2) * P + (x2 - a) * Q) ∨
    ((b - x2) * P + (x2 - a) * Q ≤ (b - x) * P + (x - a) * Q ∧ (b - x) * P + (x - a) * Q ≤ (b - x1) * P + (x1 - a) * Q) := by
  have e1 : ((b - x) * P + (x - a) * Q) - ((b - x1) * P + (x1 - a) * Q) = (x - x1) * (Q - P) := by grind
  have e2 : ((b - x2) * P + (x2 - a) * Q) - ((b - x) * P + (x - a) * Q) = (x2 - x) * (Q - P) := by grind
  by_cases hq : 0 ≤ Q - P
  · have p1 := Int.mul_nonneg (by omega : 0 ≤ x - x1) hq
    have p2 := Int.mul_nonneg (by omega : 0 ≤ x2 - x) hq
    exact .inl ⟨by omega, by omega⟩
  · have p1 := Int.mul_nonneg (by omega : 0 ≤ x - x1) (by omega : 0 ≤ -(Q - P))
    have p2 := Int.mul_nonneg (by omega : 0 ≤ x2 - x) (by omega : 0 ≤ -(Q - P))
    rw [Int.mul_neg] at p1 p2
    exact .inr ⟨by omega, by omega⟩
theorem fc_mono {n m D : Int} (hD : 1 ≤ D) (h : n ≤ m) : n / D ≤ m / D ∧ -(-n / D) ≤ -(-m / D) := by
  have h1 := Int.ediv_le_ediv (by omega : 0 < D) h
  have h2 := Int.ediv_le_ediv (by omega : 0 < D) (by omega : -m ≤ -n)
  exact ⟨h1, by omega⟩
theorem fc_eq {xs ys : List Int} {vs : List (List Int)} (hT : Tbl xs ys vs) {x y : Int} {i k : Nat} (hx : OnAx xs x) (hy : OnAx ys y) (hi : i + 2 ≤ xs.length) (hk : k + 2 ≤ ys.length) (x1 : xs[i]?.getD 0 ≤ x) (x2 : x ≤ xs[i+1]?.getD 0) (y1 : ys[k]?.getD 0 ≤ y) (y2 : y ≤ ys[k+1]?.getD 0) :
    flo xs ys vs x y = nX xs ys vs i k x y / dX xs ys i k ∧ cei xs ys vs x y = -(-(nX xs ys vs i k x y) / dX xs ys i k) := by
  have hv := val_any hT hi hk x1 x2 y1 y2
  have hb := at_bd hT hx hy
  have hd := dX_pos hT.ax hT.ay hi hk
  exact ⟨floor_cross hb.1 hd hv, ceil_cross hb.1 hd hv⟩
theorem onAx_in {l : List Int} (h : Axis l) {i : Nat} (hi : i + 2 ≤ l.length) {x : Int} (h1 : l[i]?.getD 0 ≤ x) (h2 : x ≤ l[i+1]?.getD 0) : OnAx l x :=
  ⟨by have := h.mono 0 i (by omega) (by omega); omega, by have := h.mono (i + 1) (l.length - 1) (by omega) (by omega); omega⟩
/-- a value lies between those at four stops around it -/
theorem inside {xs ys : List Int} {vs : List (List Int)} (hT : Tbl xs ys vs) {X Y : Int × Int} {x y L H : Int} (a1 : xs[0]?.getD 0 ≤ X.1) (a2 : X.2 ≤ xs[xs.length-1]?.getD 0) (a3 : X.1 ≤ x) (a4 : x ≤ X.2) (b1 : ys[0]?.getD 0 ≤ Y.1) (b2 : Y.2 ≤ ys[ys.length-1]?.getD 0) (b3 : Y.1 ≤ y) (b4 : y ≤ Y.2)
    (hall : ∀ u ∈ stopsL xs X.1 X.2, ∀ v ∈ stopsL ys Y.1 Y.2, L ≤ flo xs ys vs u v ∧ cei xs ys vs u v ≤ H) : L ≤ flo xs ys vs x y ∧ cei xs ys vs x y ≤ H := by
  obtain ⟨i, x1, x2, hi, hx1, hx2, c1, c2, c3, c4⟩ := stops_near hT.ax a1 a2 a3 a4
  obtain ⟨k, y1, y2, hk, hy1, hy2, d1, d2, d3, d4⟩ := stops_near hT.ay b1 b2 b3 b4
  have hD := dX_pos hT.ax hT.ay hi hk
  have val : ∀ u v, xs[i]?.getD 0 ≤ u → u ≤ xs[i+1]?.getD 0 → ys[k]?.getD 0 ≤ v → v ≤ ys[k+1]?.getD 0 → flo xs ys vs u v = nX xs ys vs i k u v / dX xs ys i k ∧ cei xs ys vs u v = -(-(nX xs ys vs i k u v) / dX xs ys i k) :=
    fun u v p1 p2 p3 p4 => fc_eq hT (onAx_in hT.ax hi p1 p2) (onAx_in hT.ay hk p3 p4) hi hk p1 p2 p3 p4
  have hx : ∀ v, (nX xs ys vs i k x1 v ≤ nX xs ys vs i k x v ∧ nX xs ys vs i k x v ≤ nX xs ys vs i k x2 v) ∨ (nX xs ys vs i k x2 v ≤ nX xs ys vs i k x v ∧ nX xs ys vs i k x v ≤ nX xs ys vs i k x1 v) := fun v => by
    have e : ∀ z, nX xs ys vs i k z v = (xs[i+1]?.getD 0 - z) * ((ys[k+1]?.getD 0 - v) * ((vs[i]?.getD [])[k]?.getD 0) + (v - ys[k]?.getD 0) * ((vs[i]?.getD [])[k+1]?.getD 0)) + (z - xs[i]?.getD 0) * ((ys[k+1]?.getD 0 - v) * ((vs[i+1]?.getD [])[k]?.getD 0) + (v - ys[k]?.getD 0) * ((vs[i+1]?.getD [])[k+1]?.getD 0)) := fun z => by
      unfold nX numF; grind
    rw [e, e, e]
    exact lin c2 c3
  have hy : ∀ u, (nX xs ys vs i k u y1 ≤ nX xs ys vs i k u y ∧ nX xs ys vs i k u y ≤ nX xs ys vs i k u y2) ∨ (nX xs ys vs i k u y2 ≤ nX xs ys vs i k u y ∧ nX xs ys vs i k u y ≤ nX xs ys vs i k u y1) := fun u => by
    have e : ∀ z, nX xs ys vs i k u z = (ys[k+1]?.getD 0 - z) * ((xs[i+1]?.getD 0 - u) * ((vs[i]?.getD [])[k]?.getD 0) + (u - xs[i]?.getD 0) * ((vs[i+1]?.getD [])[k]?.getD 0)) + (z - ys[k]?.getD 0) * ((xs[i+1]?.getD 0 - u) * ((vs[i]?.getD [])[k+1]?.getD 0) + (u - xs[i]?.getD 0) * ((vs[i+1]?.getD [])[k+1]?.getD 0)) := fun z => by
      unfold nX numF; grind
    rw [e, e, e]
    exact lin d2 d3
  have at4 : ∀ u v, u ∈ stopsL xs X.1 X.2 → v ∈ stopsL ys Y.1 Y.2 → xs[i]?.getD 0 ≤ u → u ≤ xs[i+1]?.getD 0 → ys[k]?.getD 0 ≤ v → v ≤ ys[k+1]?.getD 0 → L ≤ nX xs ys vs i k u v / dX xs ys i k ∧ -(-(nX xs ys vs i k u v) / dX xs ys i k) ≤ H := fun u v hu hv p1 p2 p3 p4 => by
    have := hall u hu v hv
    rwa [(val u v p1 p2 p3 p4).1, (val u v p1 p2 p3 p4).2] at this
  have row : ∀ u, u ∈ stopsL xs X.1 X.2 → xs[i]?.getD 0 ≤ u → u ≤ xs[i+1]?.getD 0 → L ≤ nX xs ys vs i k u y / dX xs ys i k ∧ -(-(nX xs ys vs i k u y) / dX xs ys i k) ≤ H := fun u hu p1 p2 => by
    have q1 := at4 u y1 hu hy1 p1 p2 d1 (by omega)
    have q2 := at4 u y2 hu hy2 p1 p2 (by omega) d4
    rcases hy u with ⟨r1, r2⟩ | ⟨r1, r2⟩
    · have s1 := fc_mono hD r1; have s2 := fc_mono hD r2; omega
    · have s1 := fc_mono hD r1; have s2 := fc_mono hD r2; omega
  rw [(val x y (by omega) (by omega) (by omega) (by omega)).1, (val x y (by omega) (by omega) (by omega) (by omega)).2]
  have q1 := row x1 hx1 c1 (by omega)
  have q2 := row x2 hx2 (by omega) c4
  rcases hx y with ⟨r1, r2⟩ | ⟨r1, r2⟩
  · have s1 := fc_mono hD r1; have s2 := fc_mono hD r2; omega
  · have s1 := fc_mono hD r1; have s2 := fc_mono hD r2; omega
end Go.Proofs.Ytfaiogajaaclcaa
/- The ends of a bound: no value at a point of the box is beyond them, and each is one. In numbers; no conditions. -/
namespace Go.Proofs.Ytfaiogajaaclcaa

theorem stepE_low (l p : Pt) : (if cmpV p.n p.d l.n l.d < 0 then p else l).n / (if cmpV p.n p.d l.n l.d < 0 then p else l).d ≤ l.n / l.d ∧ (if cmpV p.n p.d l.n l.d < 0 then p else l).n / (if cmpV p.n p.d l.n l.d < 0 then p else l).d ≤ p.n / p.d := by
  rw [← step_low l p, mn_eq]; omega
theorem stepE_top (m p : Pt) : -(-m.n / m.d) ≤ -(-(if 0 < cmpV p.n p.d m.n m.d then p else m).n / (if 0 < cmpV p.n p.d m.n m.d then p else m).d) ∧ -(-p.n / p.d) ≤ -(-(if 0 < cmpV p.n p.d m.n m.d then p else m).n / (if 0 < cmpV p.n p.d m.n m.d then p else m).d) := by
  rw [← step_top m p, mx_eq]; omega
theorem fold_ext : ∀ (ps : List Pt) (l0 m0 l m : Pt), ps.foldl stepE (some (l0, m0)) = some (l, m) →
    (l = l0 ∨ l ∈ ps) ∧ (m = m0 ∨ m ∈ ps) ∧ l.n / l.d ≤ l0.n / l0.d ∧ -(-m0.n / m0.d) ≤ -(-m.n / m.d) ∧ ∀ p ∈ ps, l.n / l.d ≤ p.n / p.d ∧ -(-p.n / p.d) ≤ -(-m.n / m.d)
  | [], l0, m0, l, m, h => by
    simp only [List.foldl_nil, Option.some.injEq, Prod.mk.injEq] at h
    obtain ⟨rfl, rfl⟩ := h
    exact ⟨.inl rfl, .inl rfl, by omega, by omega, by simp⟩
  | q :: ps, l0, m0, l, m, h => by
    rw [List.foldl_cons, stepE_some] at h
    obtain ⟨h1, h2, h3, h4, h5⟩ := fold_ext ps _ _ l m h
    have a := stepE_low l0 q
    have b := stepE_top m0 q
    refine ⟨?_, ?_, by omega, by omega, fun p hp => ?_⟩
    · rcases h1 with h1 | h1
      · by_cases c : cmpV q.n q.d l0.n l0.d < 0
        · rw [if_pos c] at h1; exact .inr (h1 ▸ List.mem_cons_self ..)
        · rw [if_neg c] at h1; exact .inl h1
      · exact .inr (List.mem_cons_of_mem _ h1)
    · rcases h2 with h2 | h2
      · by_cases c : 0 < cmpV q.n q.d m0.n m0.d
        · rw [if_pos c] at h2; exact .inr (h2 ▸ List.mem_cons_self ..)
        · rw [if_neg c] at h2; exact .inl h2
      · exact .inr (List.mem_cons_of_mem _ h2)
    · rcases List.mem_cons.1 hp with rfl | hp
      · exact ⟨by omega, by omega⟩
      · exact h5 p hp
theorem extr_is {ps : List Pt} {l m : Pt} (h : extrE ps = some (l, m)) : l ∈ ps ∧ m ∈ ps ∧ ∀ p ∈ ps, l.n / l.d ≤ p.n / p.d ∧ -(-p.n / p.d) ≤ -(-m.n / m.d) := by
  cases ps with
  | nil => simp [extrE] at h
  | cons q ps =>
    have h' : ps.foldl stepE (some (q, q)) = some (l, m) := h
    obtain ⟨h1, h2, h3, h4, h5⟩ := fold_ext ps q q l m h'
    refine ⟨?_, ?_, fun p hp => ?_⟩
    · rcases h1 with rfl | h1
      · exact List.mem_cons_self ..
      · exact List.mem_cons_of_mem _ h1
    · rcases h2 with rfl | h2
      · exact List.mem_cons_self ..
      · exact List.mem_cons_of_mem _ h2
    · rcases List.mem_cons.1 hp with rfl | hp
      · exact ⟨h3, h4⟩
      · exact h5 p hp
theorem pts_mem {xs ys : List Int} {vs : List (List Int)} {x y : Int × Int} {p : Pt} : p ∈ pts xs ys vs x y ↔ ∃ u ∈ stopsL xs x.1 x.2, ∃ v ∈ stopsL ys y.1 y.2, p = ptAt xs ys vs u v := by
  unfold pts allPts rowPts
  simp only [List.mem_flatMap, List.mem_map]
  constructor
  · rintro ⟨u, hu, v, hv, rfl⟩; exact ⟨u, hu, v, hv, rfl⟩
  · rintro ⟨u, hu, v, hv, rfl⟩; exact ⟨u, hu, v, hv, rfl⟩
theorem stops_in {l : List Int} {lo hi x : Int} (h : lo ≤ hi) (hx : x ∈ stopsL l lo hi) : lo ≤ x ∧ x ≤ hi := by
  unfold stopsL midL at hx
  simp only [List.cons_append, List.mem_cons, List.mem_append, List.mem_filter, Bool.and_eq_true, decide_eq_true_eq] at hx
  rcases hx with rfl | ⟨_, h3, h4⟩ | h5
  · exact ⟨by omega, h⟩
  · omega
  · split at h5
    · simp at h5; omega
    · simp at h5
/-- what a bound is -/
structure BndIs (xs ys : List Int) (vs : List (List Int)) (x y b : Int × Int) : Prop where
  all : ∀ u v, x.1 ≤ u → u ≤ x.2 → y.1 ≤ v → v ≤ y.2 → b.1 ≤ flo xs ys vs u v ∧ cei xs ys vs u v ≤ b.2
  low : ∃ u v, x.1 ≤ u ∧ u ≤ x.2 ∧ y.1 ≤ v ∧ v ≤ y.2 ∧ flo xs ys vs u v = b.1
  top : cei xs ys vs (wst xs ys vs x y).1 (wst xs ys vs x y).2 = b.2 ∧ x.1 ≤ (wst xs ys vs x y).1 ∧ (wst xs ys vs x y).1 ≤ x.2 ∧ y.1 ≤ (wst xs ys vs x y).2 ∧ (wst xs ys vs x y).2 ≤ y.2
theorem bnd_is {xs ys : List Int} {vs : List (List Int)} {x y : Int × Int} (hO : OnT xs ys vs x y) : BndIs xs ys vs x y (bnd xs ys vs x y) := by
  obtain ⟨l, m, hlm⟩ := extrE_ne (pts xs ys vs x y) (allPts_ne xs ys vs x.1 x.2 y.1 y.2)
  obtain ⟨h1, h2, h3⟩ := extr_is hlm
  rw [bnd_eq hlm]
  have val : ∀ u v, u ∈ stopsL xs x.1 x.2 → v ∈ stopsL ys y.1 y.2 → flo xs ys vs u v = (ptAt xs ys vs u v).n / (ptAt xs ys vs u v).d ∧ cei xs ys vs u v = -(-(ptAt xs ys vs u v).n / (ptAt xs ys vs u v).d) ∧ (ptAt xs ys vs u v).x = u ∧ (ptAt xs ys vs u v).y = v := fun u v hu hv => by
    obtain ⟨e1, e2, e3, e4⟩ := ptAt_is (vs := vs) hO.t (OnAx_stops hO.x1 hO.x2 hO.x3 hu) (OnAx_stops hO.y1 hO.y2 hO.y3 hv)
    rw [e1, e2]
    exact ⟨rfl, rfl, e3, e4⟩
  refine ⟨fun u v u1 u2 v1 v2 => ?_, ?_, ?_⟩
  · refine inside hO.t hO.x1 hO.x2 u1 u2 hO.y1 hO.y2 v1 v2 fun a ha b hb => ?_
    obtain ⟨e1, e2, _, _⟩ := val a b ha hb
    rw [e1, e2]
    exact h3 _ (pts_mem.2 ⟨a, ha, b, hb, rfl⟩)
  · obtain ⟨a, ha, b, hb, rfl⟩ := pts_mem.1 h1
    obtain ⟨e1, e2, _, _⟩ := val a b ha hb
    exact ⟨a, b, (stops_in hO.x3 ha).1, (stops_in hO.x3 ha).2, (stops_in hO.y3 hb).1, (stops_in hO.y3 hb).2, e1⟩
  · rw [wst_eq hlm]
    obtain ⟨a, ha, b, hb, rfl⟩ := pts_mem.1 h2
    obtain ⟨e1, e2, e3, e4⟩ := val a b ha hb
    simp only [e3, e4]
    exact ⟨e2, (stops_in hO.x3 ha).1, (stops_in hO.x3 ha).2, (stops_in hO.y3 hb).1, (stops_in hO.y3 hb).2⟩
end Go.Proofs.Ytfaiogajaaclcaa
/- Old contracts as abstract ones: values at corners. The first corner above a limit. No conditions. -/
namespace Go.Proofs.Ytfaiogajaaclcaa
open Go.RowKit Lift

theorem flat_a2 (a b : Int) (w : World) (β : Bet) (Z : Blk) : Rep w β Z (.agg #[.int .i64 a, .int .i64 b]) (.agg [dI a, dI b]) :=
  .agg _ _ rfl fun i hi => by
    have : i < 2 := by simpa using hi
    match i, this with
    | 0, _ => exact .val _
    | 1, _ => exact .val _
theorem flat_t2 (a b : Int) (w : World) (β : Bet) (Z : Blk) : Rep w β Z (.tuple #[.int .i64 a, .int .i64 b]) (.tup [dI a, dI b]) :=
  .tup _ _ rfl fun i hi => by
    have : i < 2 := by simpa using hi
    match i, this with
    | 0, _ => exact .val _
    | 1, _ => exact .val _
section
variable {xs ys : List Int} {vs : List (List Int)}
theorem spat_ac (x y : Int) (hT : Tbl xs ys vs) (hx : OnAx xs x) (hy : OnAx ys y) : AC Try.prog 83 [tabD xs ys vs, dI x, dI y] [] [] (.agg [dI (atN xs ys vs x y), dI (atD xs ys x y)]) :=
  ac_of_calls ⟨Try.f83, Try.func83, by decide, rfl⟩ (flat_a2 _ _) fun w us β Z hs hr => by
    obtain ⟨X, Y, V, cx, cy, cv, e, hR⟩ := rep_tab (hr 0 (by simp))
    rw [args3 hs, e, ← (hr 1 (by simp)).val_eq, ← (hr 2 (by simp)).val_eq]
    exact at_any xs ys vs X Y V cx cy cv x y w hT hR hx hy
theorem rfval_ac (x y : Int) (hT : Tbl xs ys vs) (hx : OnAx xs x) (hy : OnAx ys y) : AC Try.prog 80 [tabD xs ys vs, dI x, dI y] [] [] (.tup [dI (valN xs ys vs x y), dI (valD xs ys x y)]) :=
  ac_of_calls ⟨Try.f80, Try.func80, by decide, rfl⟩ (flat_t2 _ _) fun w us β Z hs hr => by
    obtain ⟨X, Y, V, cx, cy, cv, e, hR⟩ := rep_tab (hr 0 (by simp))
    rw [args3 hs, e, ← (hr 1 (by simp)).val_eq, ← (hr 2 (by simp)).val_eq]
    exact value_any xs ys vs X Y V cx cy cv x y w hT hR hx hy
theorem ckPts_ac (x y : Int × Int) (hS : TSz xs ys vs) : AC Try.prog 66 [tabD xs ys vs, spD x, spD y] [] [] (dI (cpErr xs ys vs x y)) :=
  ac_of_calls ⟨Try.f66, Try.func66, by decide, rfl⟩ (fun _ _ _ => .val _) fun w us β Z hs hr => by
    obtain ⟨X, Y, V, cx, cy, cv, e, hR⟩ := rep_tab (hr 0 (by simp))
    rw [args3 hs, e, rep_sp (hr 1 (by simp)), rep_sp (hr 2 (by simp))]
    exact checkPoints_any xs ys vs X Y V cx cy cv x y w hS hR
theorem spup_ac (a b : Int) (hb : 1 ≤ b) (hb' : b ≤ 4000000000000000000) (ha : -4000000000000000000 ≤ a) (ha' : a ≤ 4000000000000000000) : AC Try.prog 68 [.agg [dI a, dI b]] [] [] (dI (-(-a / b))) :=
  ac_of_calls ⟨Try.f68, Try.func68, by decide, rfl⟩ (fun _ _ _ => .val _) fun w us β Z hs hr => by
    rw [args1 hs, rep_sp (x := (a, b)) (hr 0 (by simp))]
    exact up_any a b w hb hb' ha ha'
theorem rfceil_ac (a b : Int) (hb : 1 ≤ b) (hb' : b ≤ 1000000000000000000) (ha : -1000000000000000000 ≤ a) (ha' : a ≤ 1000000000000000000) : AC Try.prog 86 [dI a, dI b] [] [] (dI (-(-a / b))) :=
  ac_of_calls ⟨Try.f86, Try.func86, by decide, rfl⟩ (fun _ _ _ => .val _) fun w us β Z hs hr => by
    rw [args2 hs, ← (hr 0 (by simp)).val_eq, ← (hr 1 (by simp)).val_eq]
    refine (rceil_any a b w hb hb' ha ha').mono ?_
    rintro e w' ⟨rfl, rfl⟩
    exact ⟨rfl, Below.refl _ _⟩
end
/-- whether the value at a corner is above the limit -/
def ovB (xs ys : List Int) (vs : List (List Int)) (lim : Int) (u v : Int) : Bool := decide (lim < cei xs ys vs u v)
/-- the first corner above the limit -/
def fstB (xs ys : List Int) (vs : List (List Int)) (sx sy : List Int) (lim : Int) : Option (Int × Int) := (sx.flatMap fun u => sy.map fun v => (u, v)).find? fun p => ovB xs ys vs lim p.1 p.2
def iatB (l : List Int) (k : Nat) : Int := l[k]?.getD 0
theorem fstB_none {xs ys : List Int} {vs : List (List Int)} {sx sy : List Int} {lim : Int} (h : ∀ i k, i < sx.length → k < sy.length → ovB xs ys vs lim (iatB sx i) (iatB sy k) = false) : fstB xs ys vs sx sy lim = none := by
  unfold fstB
  rw [List.find?_eq_none]
  rintro ⟨u, v⟩ hp
  obtain ⟨u', hu, hv⟩ := List.mem_flatMap.1 hp
  obtain ⟨v', hv', he⟩ := List.mem_map.1 hv
  cases he
  obtain ⟨i, hi, rfl⟩ := List.getElem_of_mem hu
  obtain ⟨k, hk, rfl⟩ := List.getElem_of_mem hv'
  have := h i k hi hk
  simpa [iatB, hi, hk] using this
theorem fstB_some {xs ys : List Int} {vs : List (List Int)} {sx sy : List Int} {lim : Int} {i k : Nat} (hi : i < sx.length) (hk : k < sy.length) (h1 : ∀ i' k', i' < i → k' < sy.length → ovB xs ys vs lim (iatB sx i') (iatB sy k') = false)
    (h2 : ∀ k', k' < k → ovB xs ys vs lim (iatB sx i) (iatB sy k') = false) (h3 : ovB xs ys vs lim (iatB sx i) (iatB sy k) = true) : fstB xs ys vs sx sy lim = some (iatB sx i, iatB sy k) := by
  have e1 : sx = sx.take i ++ sx[i] :: sx.drop (i + 1) := by rw [← List.drop_eq_getElem_cons hi, List.take_append_drop]
  have e2 : sy = sy.take k ++ sy[k] :: sy.drop (k + 1) := by rw [← List.drop_eq_getElem_cons hk, List.take_append_drop]
  have q1 : iatB sx i = sx[i] := by simp [iatB, hi]
  have q2 : iatB sy k = sy[k] := by simp [iatB, hk]
  rw [q1, q2] at h3
  rw [q1] at h2
  rw [q1, q2]
  unfold fstB
  have n1 : ((sx.take i).flatMap fun u => sy.map fun v => (u, v)).find? (fun p => ovB xs ys vs lim p.1 p.2) = none := by
    have := fstB_none (xs := xs) (ys := ys) (vs := vs) (sx := sx.take i) (sy := sy) (lim := lim) fun i' k' hi' hk' => by
      have hi2 : i' < i := by simp at hi'; omega
      have := h1 i' k' hi2 hk'
      simpa [iatB, List.getElem?_take, hi2] using this
    exact this
  have n2 : ((sy.take k).map fun v => (sx[i], v)).find? (fun p => ovB xs ys vs lim p.1 p.2) = none := by
    rw [List.find?_eq_none]
    rintro ⟨u, v⟩ hp
    obtain ⟨v', hv', he⟩ := List.mem_map.1 hp
    cases he
    obtain ⟨k', hk', rfl⟩ := List.getElem_of_mem hv'
    have hk2 : k' < k := by simp at hk'; omega
    have := h2 k' hk2
    simpa [iatB, show k' < sy.length by omega] using this
  conv => lhs; rw [e1]
  rw [List.flatMap_append, List.find?_append, n1, Option.none_or, List.flatMap_cons, List.find?_append]
  have : (sy.map fun v => (sx[i], v)).find? (fun p => ovB xs ys vs lim p.1 p.2) = some (sx[i], sy[k]) := by
    conv => lhs; rw [e2]
    rw [List.map_append, List.find?_append, n2, Option.none_or, List.map_cons]
    simp only [List.find?_cons, h3]
  rw [this]; rfl
def belR (xs ys : List Int) (vs : List (List Int)) (x y : Int × Int) (lim : Int) : (Int × Int) × Bool × Int :=
  if cpErr xs ys vs x y = 0 then (match fstB xs ys vs (stopsL xs x.1 x.2) (stopsL ys y.1 y.2) lim with
    | none => ((0, 0), true, 0)
    | some p => (p, false, 0))
  else ((0, 0), false, cpErr xs ys vs x y)
theorem belR_err {xs ys : List Int} {vs : List (List Int)} {x y : Int × Int} {lim : Int} (h : cpErr xs ys vs x y ≠ 0) : belR xs ys vs x y lim = ((0, 0), false, cpErr xs ys vs x y) := if_neg h
theorem belR_none {xs ys : List Int} {vs : List (List Int)} {x y : Int × Int} {lim : Int} (h : cpErr xs ys vs x y = 0) (h2 : fstB xs ys vs (stopsL xs x.1 x.2) (stopsL ys y.1 y.2) lim = none) : belR xs ys vs x y lim = ((0, 0), true, 0) := by
  unfold belR; rw [if_pos h, h2]
theorem belR_some {xs ys : List Int} {vs : List (List Int)} {x y : Int × Int} {lim : Int} {p : Int × Int} (h : cpErr xs ys vs x y = 0) (h2 : fstB xs ys vs (stopsL xs x.1 x.2) (stopsL ys y.1 y.2) lim = some p) : belR xs ys vs x y lim = (p, false, 0) := by
  unfold belR; rw [if_pos h, h2]
end Go.Proofs.Ytfaiogajaaclcaa
/- Calls that change objects, checked by computing. No conditions. -/
namespace Go.Proofs.Ytfaiogajaaclcaa.Lift
open Go Go.RowKit

theorem aw_condT {rd : Rd} {P : Program} {n : Nat} {pre : List Nat} {Q : AExit → St → Prop} {s : St} {c : Operand} {x y : ACode} (hb : s.F.ev c = .val (.bool true)) (h : AWb rd P n pre x Q s) : AWb rd P n pre (.cond c x y) Q s := aw_cond hb (fun _ => h) (fun h => nomatch h)
theorem aw_condF {rd : Rd} {P : Program} {n : Nat} {pre : List Nat} {Q : AExit → St → Prop} {s : St} {c : Operand} {x y : ACode} (hb : s.F.ev c = .val (.bool false)) (h : AWb rd P n pre y Q s) : AWb rd P n pre (.cond c x y) Q s := aw_cond hb (fun h => nomatch h) (fun _ => h)
def HasAll (hp : Hp) : Hp → Prop
  | [] => True
  | x :: l => hget hp x.1 = some x.2 ∧ HasAll hp l
theorem HasAll.get {hp : Hp} : ∀ {h : Hp}, HasAll hp h → ∀ x ∈ h, hget hp x.1 = some x.2
  | [], _, x, hx => by simp at hx
  | y :: l, h, x, hx => by
    rcases List.mem_cons.1 hx with rfl | hx
    · exact h.1
    · exact HasAll.get h.2 x hx
theorem vr_valq {H : Heap} {V : List Nat} {m : List (Nat × Nat)} {v v' : Value} (h : v = v') : VR H V m (.val v) (.val v') := h ▸ vr_val v
theorem vr_listq {H : Heap} {V : List Nat} {m : List (Nat × Nat)} {l l' : List (List D)} (h : l = l') : VR H V m (.list l) (.list l') := h ▸ vr_list l
section
variable {P : Program} {dr : Bool} {b : Nat} {Q : St → Prop} {dst : Option Nat} {anc : List Nat} {l : List AOper} {k : Nat} {s : St} {log : Lg}
end
end Go.Proofs.Ytfaiogajaaclcaa.Lift
/- What comes behind a region, hidden while the region is walked. No conditions. -/
namespace Go.Proofs.Ytfaiogajaaclcaa.Lift
open Go Go.RowKit

theorem aw_hide {rd : Rd} {P : Program} {n : Nat} {pre : List Nat} {Q : AExit → St → Prop} {s : St} {x : ACode} (h : ∀ K : AExit → St → Prop, K = Q → AWb rd P n pre x K s) : AWb rd P n pre x Q s := h Q rfl
section
variable {K : St → Prop} {Q : AExit → St → Prop} {s : St}
theorem thenQ_n (h : K s) : thenQ K Q .norm s := h
theorem thenQ_e {i : Nat} (h : Q (.ex i) s) : thenQ K Q (.ex i) s := h
theorem blockQ_n {id : Nat} (h : Q .norm s) : blockQ id Q .norm s := h
theorem blockQ_t {id : Nat} (h : Q .norm s) : blockQ id Q (.ex id) s := by simp only [blockQ, if_true]; exact h
theorem blockQ_f {id i : Nat} (hn : i ≠ id) (h : Q (.ex i) s) : blockQ id Q (.ex i) s := by simp only [blockQ]; rw [if_neg hn]; exact h
end
end Go.Proofs.Ytfaiogajaaclcaa.Lift
/- The functions' bodies, translated. Written by a program; no conditions. -/
namespace Go.Proofs.Ytfaiogajaaclcaa
open Go.RowKit Lift

/-- spans_Below -/
def cspans_Below_B100025 : ACode :=
  (.region false [⟨some 13, .mem [(.val (.int .i64 0)), (.val (.int .i64 0)), (.val (.int .i64 0)), (.val (.int .i64 0))], none, []⟩,
    ⟨none, .store 4 (.tmp 13) (.tmp 25), none, []⟩] [])
def cspans_Below_B25 : ACode :=
  (.block 1
    (.seq
     (.region true [⟨some 26, .fad 2 (.tmp 13), none, []⟩,
       ⟨some 27, .loadN 2 (.tmp 26), none, [0]⟩,
       ⟨some 28, .call (.func 68) [(.tmp 27)], none, [1, 0]⟩,
       ⟨some 29, .load1 (.tmp 7), none, []⟩,
       ⟨some 30, .bin .gtr (.tmp 28) (.tmp 29), none, [2, 1, 0, 3]⟩] [26, 27, 28, 29])
    (.cond (.tmp 30)
      (.seq
       (.region true [⟨some 31, .fad 0 (.tmp 13), none, []⟩,
         ⟨some 32, .load1 (.tmp 31), none, [0]⟩,
         ⟨some 33, .fad 1 (.tmp 13), none, []⟩,
         ⟨some 34, .load1 (.tmp 33), none, [2]⟩,
         ⟨none, .store 1 (.tmp 8) (.tmp 32), none, [1, 0]⟩,
         ⟨none, .store 1 (.tmp 9) (.tmp 34), none, [3, 2, 4, 1, 0]⟩,
         ⟨none, .store 1 (.tmp 10) (.const (.bool false)), none, [5, 3, 2, 4, 1, 0]⟩,
         ⟨none, .store 1 (.tmp 11) (.const (.int .i64 0)), none, [6, 5, 3, 2, 4, 1, 0]⟩] [31, 32, 33, 34])
      .ret)
      .skip)))
def cspans_Below : ACode :=
  (.seq
   (.region false [⟨some 4, .box (.tmp 0), none, []⟩,
     ⟨some 5, .box (.tmp 1), none, []⟩,
     ⟨some 6, .box (.tmp 2), none, []⟩,
     ⟨some 7, .box (.tmp 3), none, []⟩,
     ⟨some 8, .mem [(.val (.int .i64 0))], none, []⟩,
     ⟨some 9, .mem [(.val (.int .i64 0))], none, []⟩,
     ⟨some 10, .mem [(.val (.bool false))], none, []⟩,
     ⟨some 11, .mem [(.val (.int .i64 0))], none, []⟩] [])
  (.seq
   (.seq
    (.region false [⟨some 14, .loadN 3 (.tmp 4), none, []⟩,
      ⟨some 15, .loadN 2 (.tmp 5), none, []⟩,
      ⟨some 16, .loadN 2 (.tmp 6), none, []⟩,
      ⟨some 17, .call (.func 66) [(.tmp 14), (.tmp 15), (.tmp 16)], none, []⟩,
      ⟨some 12, .mv (.tmp 17), none, []⟩] [14, 15, 16, 17])
   (.seq
    (.region false [⟨some 18, .mv (.tmp 12), none, []⟩,
      ⟨some 19, .bin .neq (.tmp 18) (.const (.int .i64 0)), none, []⟩] [18])
   (.cond (.tmp 19)
     (.seq
      (.region false [⟨some 20, .mv (.tmp 12), none, []⟩,
        ⟨none, .store 1 (.tmp 8) (.const (.int .i64 0)), none, []⟩,
        ⟨none, .store 1 (.tmp 9) (.const (.int .i64 0)), none, []⟩,
        ⟨none, .store 1 (.tmp 10) (.const (.bool false)), none, []⟩,
        ⟨none, .store 1 (.tmp 11) (.tmp 20), none, []⟩] [20])
     .ret)
     .skip)))
  (.seq
   (.seq
    (.region false [⟨some 21, .loadN 3 (.tmp 4), none, []⟩,
      ⟨some 22, .loadN 2 (.tmp 5), none, []⟩,
      ⟨some 23, .loadN 2 (.tmp 6), none, []⟩,
      ⟨some 24, .call (.func 87) [(.tmp 21), (.tmp 22), (.tmp 23)], none, []⟩] [21, 22, 23])
   (.block 0
     (.rangeFuncA (.tmp 24) [25] cspans_Below_B100025 cspans_Below_B25)))
  (.seq
   (.region false [⟨none, .store 1 (.tmp 8) (.const (.int .i64 0)), none, []⟩,
     ⟨none, .store 1 (.tmp 9) (.const (.int .i64 0)), none, []⟩,
     ⟨none, .store 1 (.tmp 10) (.const (.bool true)), none, []⟩,
     ⟨none, .store 1 (.tmp 11) (.const (.int .i64 0)), none, []⟩] [])
  .ret))))
set_option maxRecDepth 100000 in
theorem kspans_Below : IsCode Try.prog 35 35 cspans_Below [.cell1 8, .cell1 9, .cell1 10, .cell1 11] :=
  ⟨Try.f35, _, [30, 25, 24, 19, 0, 1, 2, 3, 4, 5, 6, 12, 8, 9, 10, 11, 13, 7], Try.func35, rfl, by decide, rfl, by kernel_rfl, by kernel_rfl⟩
/-- spans_corners -/
def cspans_corners : ACode :=
  (.seq
   (.region false [⟨some 3, .box (.tmp 0), none, []⟩,
     ⟨some 4, .box (.tmp 1), none, []⟩,
     ⟨some 5, .box (.tmp 2), none, []⟩,
     ⟨some 6, .mv (.const (.nilFunc)), none, []⟩] [])
  (.seq
   (.region false [⟨some 7, .mkfn 109 [] [(.tmp 3), (.tmp 4), (.tmp 5)], none, []⟩,
     ⟨some 6, .mv (.tmp 7), none, []⟩] [7])
  .ret))
set_option maxRecDepth 100000 in
theorem kspans_corners : IsCode Try.prog 87 8 cspans_corners [.tmp 6] :=
  ⟨Try.f87, _, [0, 1, 2, 3, 4, 5, 6], Try.func87, rfl, by decide, rfl, by kernel_rfl, by kernel_rfl⟩
/-- spans_corners_S1 -/
def cspans_corners_S1 : ACode :=
  (.seq
   (.region false [⟨some 9, .fad 0 (.tmp 1), none, []⟩,
     ⟨some 10, .load1 (.tmp 9), none, []⟩,
     ⟨some 11, .loadN 2 (.tmp 2), none, []⟩,
     ⟨some 12, .call (.func 110) [(.tmp 10), (.tmp 11)], none, []⟩,
     ⟨some 13, .len_ (.tmp 12), none, []⟩,
     ⟨some 14, .mv (.const (.int .i64 0)), none, []⟩] [9, 10, 11])
  (.block 0
    (.loop
      (.seq
       (.region false [⟨some 15, .bin .lss (.tmp 14) (.tmp 13), none, []⟩] [])
      (.seq
       (.cond (.tmp 15)
         .skip
         (.exit 0))
      (.seq
       (.block 1
         (.seq
          (.region false [⟨some 16, .iadS 1 (.tmp 12) (.tmp 14), none, []⟩,
            ⟨some 17, .load1 (.tmp 16), none, []⟩,
            ⟨some 6, .mv (.tmp 17), none, []⟩] [16, 17])
         (.seq
          (.region false [⟨some 18, .fad 1 (.tmp 1), none, []⟩,
            ⟨some 19, .load1 (.tmp 18), none, []⟩,
            ⟨some 20, .loadN 2 (.tmp 3), none, []⟩,
            ⟨some 21, .call (.func 110) [(.tmp 19), (.tmp 20)], none, []⟩,
            ⟨some 22, .len_ (.tmp 21), none, []⟩,
            ⟨some 23, .mv (.const (.int .i64 0)), none, []⟩] [18, 19, 20])
         (.block 2
           (.loop
             (.seq
              (.region false [⟨some 24, .bin .lss (.tmp 23) (.tmp 22), none, []⟩] [])
             (.seq
              (.cond (.tmp 24)
                .skip
                (.exit 2))
             (.seq
              (.block 3
                (.seq
                 (.region false [⟨some 25, .iadS 1 (.tmp 21) (.tmp 23), none, []⟩,
                   ⟨some 26, .load1 (.tmp 25), none, []⟩,
                   ⟨some 8, .mv (.tmp 26), none, []⟩] [25, 26])
                (.seq
                 (.region false [⟨some 27, .mv (.tmp 0), none, []⟩,
                   ⟨some 28, .mv (.tmp 6), none, []⟩,
                   ⟨some 29, .mv (.tmp 8), none, []⟩,
                   ⟨some 30, .loadN 3 (.tmp 1), none, []⟩,
                   ⟨some 31, .mv (.tmp 6), none, []⟩,
                   ⟨some 32, .mv (.tmp 8), none, []⟩,
                   ⟨some 33, .call (.func 83) [(.tmp 30), (.tmp 31), (.tmp 32)], none, []⟩,
                   ⟨some 34, .build [(.val (.int .i64 0)), (.val (.int .i64 0)), (.val (.int .i64 0)), (.val (.int .i64 0))] [(0, 1, (.tmp 28)), (1, 1, (.tmp 29)), (2, 2, (.tmp 33))], none, []⟩,
                   ⟨some 35, .call (.tmp 27) [(.tmp 34)], none, []⟩,
                   ⟨some 36, .un .not (.tmp 35), none, []⟩] [27, 28, 29, 30, 31, 32, 33, 34, 35])
                (.cond (.tmp 36)
                  .ret
                  .skip))))
             (.region false [⟨some 37, .bin .add (.tmp 23) (.const (.int .i64 1)), none, []⟩,
               ⟨some 23, .mv (.tmp 37), none, []⟩] [37])))))))))
      (.region false [⟨some 38, .bin .add (.tmp 14) (.const (.int .i64 1)), none, []⟩,
        ⟨some 14, .mv (.tmp 38), none, []⟩] [38])))))))
set_option maxRecDepth 100000 in
theorem kspans_corners_S1 : IsCode Try.prog 109 39 cspans_corners_S1 [] :=
  ⟨Try.f109, _, [36, 24, 15, 1, 2, 14, 13, 12, 3, 23, 22, 21, 0, 6, 8], Try.func109, rfl, by decide, rfl, by kernel_rfl, by kernel_rfl⟩
/-- spans_stops -/
def cspans_stops : ACode :=
  (.seq
   (.region false [⟨some 3, .box (.tmp 1), none, []⟩,
     ⟨some 4, .mv (.const (.slice none 0 0)), none, []⟩] [])
  (.seq
   (.region false [⟨some 8, .fad 0 (.tmp 3), none, []⟩,
     ⟨some 9, .load1 (.tmp 8), none, []⟩,
     ⟨some 10, .buildSl 1 1 [(.val (.int .i64 0))] [(0, 1, (.tmp 9))], none, []⟩,
     ⟨some 5, .mv (.tmp 10), none, []⟩] [8, 9, 10])
  (.seq
   (.seq
    (.region false [⟨some 11, .mv (.tmp 0), none, []⟩,
      ⟨some 12, .len_ (.tmp 11), none, []⟩,
      ⟨some 13, .mv (.const (.int .i64 0)), none, []⟩] [])
   (.block 0
     (.loop
       (.seq
        (.region false [⟨some 14, .bin .lss (.tmp 13) (.tmp 12), none, []⟩] [])
       (.seq
        (.cond (.tmp 14)
          .skip
          (.exit 0))
       (.seq
        (.block 1
          (.seq
           (.region false [⟨some 15, .iadS 1 (.tmp 11) (.tmp 13), none, []⟩,
             ⟨some 16, .load1 (.tmp 15), none, []⟩,
             ⟨some 7, .mv (.tmp 16), none, []⟩] [15, 16])
          (.seq
           (.region false [⟨some 17, .mv (.tmp 7), none, []⟩,
             ⟨some 18, .fad 0 (.tmp 3), none, []⟩,
             ⟨some 19, .load1 (.tmp 18), none, []⟩,
             ⟨some 20, .bin .gtr (.tmp 17) (.tmp 19), none, []⟩,
             ⟨some 21, .mv (.tmp 20), none, []⟩,
             ⟨some 22, .mv (.tmp 7), (some (some 21, true)), []⟩,
             ⟨some 23, .fad 1 (.tmp 3), (some (some 21, true)), []⟩,
             ⟨some 24, .load1 (.tmp 23), (some (some 21, true)), []⟩,
             ⟨some 25, .bin .lss (.tmp 22) (.tmp 24), (some (some 21, true)), []⟩,
             ⟨some 26, .pick (.tmp 21) (.tmp 25) (.const (.bool false)), none, []⟩] [17, 18, 19, 20, 21, 22, 23, 24, 25])
          (.cond (.tmp 26)
            (.region false [⟨some 27, .mv (.tmp 5), none, []⟩,
              ⟨some 28, .mv (.tmp 7), none, []⟩,
              ⟨some 29, .buildSl 1 1 [(.val (.int .i64 0))] [(0, 1, (.tmp 28))], none, []⟩,
              ⟨some 30, .app 1 8 (.tmp 27) (.tmp 29), none, []⟩,
              ⟨some 5, .mv (.tmp 30), none, []⟩] [27, 28, 29, 30])
            .skip))))
       (.region false [⟨some 31, .bin .add (.tmp 13) (.const (.int .i64 1)), none, []⟩,
         ⟨some 13, .mv (.tmp 31), none, []⟩] [31])))))))
  (.seq
   (.seq
    (.region false [⟨some 32, .fad 1 (.tmp 3), none, []⟩,
      ⟨some 33, .load1 (.tmp 32), none, []⟩,
      ⟨some 34, .fad 0 (.tmp 3), none, []⟩,
      ⟨some 35, .load1 (.tmp 34), none, []⟩,
      ⟨some 36, .bin .gtr (.tmp 33) (.tmp 35), none, []⟩] [32, 33, 34, 35])
   (.cond (.tmp 36)
     (.region false [⟨some 37, .mv (.tmp 5), none, []⟩,
       ⟨some 38, .fad 1 (.tmp 3), none, []⟩,
       ⟨some 39, .load1 (.tmp 38), none, []⟩,
       ⟨some 40, .buildSl 1 1 [(.val (.int .i64 0))] [(0, 1, (.tmp 39))], none, []⟩,
       ⟨some 41, .app 1 8 (.tmp 37) (.tmp 40), none, []⟩,
       ⟨some 5, .mv (.tmp 41), none, []⟩] [37, 38, 39, 40, 41])
     .skip))
  (.seq
   (.region false [⟨some 42, .mv (.tmp 5), none, []⟩,
     ⟨some 4, .mv (.tmp 42), none, []⟩] [42])
  .ret)))))
set_option maxRecDepth 100000 in
theorem kspans_stops : IsCode Try.prog 110 43 cspans_stops [.tmp 4] :=
  ⟨Try.f110, _, [36, 26, 14, 1, 3, 0, 13, 12, 11, 7, 5, 4], Try.func110, rfl, by decide, rfl, by kernel_rfl, by kernel_rfl⟩
/-- ref01_Below -/
def cref01_Below : ACode :=
  (.seq
   (.region false [⟨some 4, .box (.tmp 0), none, []⟩,
     ⟨some 5, .box (.tmp 1), none, []⟩,
     ⟨some 6, .box (.tmp 2), none, []⟩,
     ⟨some 8, .mv (.const (.int .i64 0)), none, []⟩,
     ⟨some 9, .mv (.const (.int .i64 0)), none, []⟩,
     ⟨some 10, .mv (.const (.bool false)), none, []⟩,
     ⟨some 11, .mv (.const (.int .i64 0)), none, []⟩] [])
  (.seq
   (.region false [⟨some 19, .loadN 3 (.tmp 4), none, []⟩,
     ⟨some 20, .loadN 2 (.tmp 5), none, []⟩,
     ⟨some 21, .loadN 2 (.tmp 6), none, []⟩,
     ⟨some 22, .call (.func 41) [(.tmp 19), (.tmp 20), (.tmp 21)], none, []⟩,
     ⟨some 12, .mv (.tmp 22), none, []⟩] [19, 20, 21, 22])
  (.seq
   (.seq
    (.region false [⟨some 23, .mv (.tmp 12), none, []⟩,
      ⟨some 24, .bin .neq (.tmp 23) (.const (.int .i64 0)), none, []⟩] [23])
   (.cond (.tmp 24)
     (.seq
      (.region false [⟨some 25, .mv (.tmp 12), none, []⟩,
        ⟨some 8, .mv (.const (.int .i64 0)), none, []⟩,
        ⟨some 9, .mv (.const (.int .i64 0)), none, []⟩,
        ⟨some 10, .mv (.const (.bool false)), none, []⟩,
        ⟨some 11, .mv (.tmp 25), none, []⟩] [25])
     .ret)
     .skip))
  (.seq
   (.region true [⟨some 26, .fad 0 (.tmp 4), none, []⟩,
     ⟨some 27, .load1 (.tmp 26), none, [0]⟩,
     ⟨some 28, .loadN 2 (.tmp 5), none, []⟩,
     ⟨some 29, .call (.func 79) [(.tmp 27), (.tmp 28)], none, [1, 0, 2]⟩,
     ⟨some 30, .fad 1 (.tmp 4), none, []⟩,
     ⟨some 31, .load1 (.tmp 30), none, [4]⟩,
     ⟨some 32, .loadN 2 (.tmp 6), none, []⟩,
     ⟨some 33, .call (.func 79) [(.tmp 31), (.tmp 32)], none, [5, 4, 6, 3, 1, 0, 2]⟩,
     ⟨some 13, .mv (.tmp 29), none, [3, 1, 0, 2, 7, 5, 4, 6]⟩,
     ⟨some 14, .mv (.tmp 33), none, [7, 5, 4, 6, 3, 1, 0, 2, 8]⟩] [26, 27, 28, 29, 30, 31, 32, 33])
  (.seq
   (.seq
    (.region false [⟨some 15, .mv (.const (.int .i64 0)), none, []⟩] [])
   (.block 0
     (.loop
       (.seq
        (.seq
         (.region false [⟨some 34, .mv (.tmp 15), none, []⟩,
           ⟨some 35, .mv (.tmp 13), none, []⟩,
           ⟨some 36, .len_ (.tmp 35), none, []⟩,
           ⟨some 37, .bin .lss (.tmp 34) (.tmp 36), none, []⟩] [34, 35, 36])
        (.cond (.tmp 37)
          .skip
          (.exit 0)))
       (.seq
        (.block 1
          (.seq
           (.region false [⟨some 16, .mv (.const (.int .i64 0)), none, []⟩] [])
          (.block 2
            (.loop
              (.seq
               (.seq
                (.region false [⟨some 40, .mv (.tmp 16), none, []⟩,
                  ⟨some 41, .mv (.tmp 14), none, []⟩,
                  ⟨some 42, .len_ (.tmp 41), none, []⟩,
                  ⟨some 43, .bin .lss (.tmp 40) (.tmp 42), none, []⟩] [40, 41, 42])
               (.cond (.tmp 43)
                 .skip
                 (.exit 2)))
              (.seq
               (.block 3
                 (.seq
                  (.region true [⟨some 47, .loadN 3 (.tmp 4), none, []⟩,
                    ⟨some 48, .mv (.tmp 13), none, []⟩,
                    ⟨some 49, .mv (.tmp 15), none, []⟩,
                    ⟨some 50, .iadS 1 (.tmp 48) (.tmp 49), none, [1, 2]⟩,
                    ⟨some 51, .load1 (.tmp 50), none, [3, 1, 2]⟩,
                    ⟨some 52, .mv (.tmp 14), none, []⟩,
                    ⟨some 53, .mv (.tmp 16), none, []⟩,
                    ⟨some 54, .iadS 1 (.tmp 52) (.tmp 53), none, [5, 6]⟩,
                    ⟨some 55, .load1 (.tmp 54), none, [7, 5, 6]⟩,
                    ⟨some 56, .call (.func 80) [(.tmp 47), (.tmp 51), (.tmp 55)], none, [0, 4, 3, 1, 2, 8, 7, 5, 6]⟩,
                    ⟨some 46, .mv (.tmp 56), none, [9, 0, 4, 3, 1, 2, 8, 7, 5, 6]⟩,
                    ⟨some 57, .ext (.tmp 46) 0, none, [10, 9, 0, 4, 3, 1, 2, 8, 7, 5, 6]⟩,
                    ⟨some 58, .ext (.tmp 46) 1, none, [10, 9, 0, 4, 3, 1, 2, 8, 7, 5, 6]⟩,
                    ⟨some 17, .mv (.tmp 57), none, [11, 10, 9, 0, 4, 3, 1, 2, 8, 7, 5, 6]⟩,
                    ⟨some 18, .mv (.tmp 58), none, [12, 10, 9, 0, 4, 3, 1, 2, 8, 7, 5, 6, 13, 11]⟩] [47, 48, 49, 50, 51, 52, 53, 54, 55, 56, 46, 57, 58])
                 (.seq
                  (.region false [⟨some 59, .mv (.tmp 17), none, []⟩,
                    ⟨some 60, .mv (.tmp 18), none, []⟩,
                    ⟨some 61, .call (.func 86) [(.tmp 59), (.tmp 60)], none, []⟩,
                    ⟨some 62, .mv (.tmp 3), none, []⟩,
                    ⟨some 63, .bin .gtr (.tmp 61) (.tmp 62), none, []⟩] [59, 60, 61, 62])
                 (.cond (.tmp 63)
                   (.seq
                    (.region true [⟨some 64, .mv (.tmp 13), none, []⟩,
                      ⟨some 65, .mv (.tmp 15), none, []⟩,
                      ⟨some 66, .iadS 1 (.tmp 64) (.tmp 65), none, [0, 1]⟩,
                      ⟨some 67, .load1 (.tmp 66), none, [2, 0, 1]⟩,
                      ⟨some 68, .mv (.tmp 14), none, []⟩,
                      ⟨some 69, .mv (.tmp 16), none, []⟩,
                      ⟨some 70, .iadS 1 (.tmp 68) (.tmp 69), none, [4, 5]⟩,
                      ⟨some 71, .load1 (.tmp 70), none, [6, 4, 5]⟩,
                      ⟨some 8, .mv (.tmp 67), none, [3, 2, 0, 1]⟩,
                      ⟨some 9, .mv (.tmp 71), none, [7, 6, 4, 5, 8, 3, 2, 0, 1]⟩,
                      ⟨some 10, .mv (.const (.bool false)), none, [9, 7, 6, 4, 5, 8, 3, 2, 0, 1]⟩,
                      ⟨some 11, .mv (.const (.int .i64 0)), none, [10, 9, 7, 6, 4, 5, 8, 3, 2, 0, 1]⟩] [64, 65, 66, 67, 68, 69, 70, 71])
                   .ret)
                   .skip))))
              (.region false [⟨some 44, .mv (.tmp 16), none, []⟩,
                ⟨some 45, .bin .add (.tmp 44) (.const (.int .i64 1)), none, []⟩,
                ⟨some 16, .mv (.tmp 45), none, []⟩] [44, 45])))))))
       (.region false [⟨some 38, .mv (.tmp 15), none, []⟩,
         ⟨some 39, .bin .add (.tmp 38) (.const (.int .i64 1)), none, []⟩,
         ⟨some 15, .mv (.tmp 39), none, []⟩] [38, 39]))))))
  (.seq
   (.region false [⟨some 8, .mv (.const (.int .i64 0)), none, []⟩,
     ⟨some 9, .mv (.const (.int .i64 0)), none, []⟩,
     ⟨some 10, .mv (.const (.bool true)), none, []⟩,
     ⟨some 11, .mv (.const (.int .i64 0)), none, []⟩] [])
  .ret))))))
set_option maxRecDepth 100000 in
theorem kref01_Below : IsCode Try.prog 36 72 cref01_Below [.tmp 8, .tmp 9, .tmp 10, .tmp 11] :=
  ⟨Try.f36, _, [63, 43, 37, 24, 0, 1, 2, 4, 5, 6, 12, 15, 13, 16, 14, 17, 18, 3, 8, 9, 10, 11], Try.func36, rfl, by decide, rfl, by kernel_rfl, by kernel_rfl⟩
/-- ref01_corners -/
def cref01_corners : ACode :=
  (.seq
   (.region false [⟨some 3, .box (.tmp 1), none, []⟩,
     ⟨some 4, .mv (.const (.slice none 0 0)), none, []⟩] [])
  (.seq
   (.region false [⟨some 7, .fad 0 (.tmp 3), none, []⟩,
     ⟨some 8, .load1 (.tmp 7), none, []⟩,
     ⟨some 9, .buildSl 1 1 [(.val (.int .i64 0))] [(0, 1, (.tmp 8))], none, []⟩,
     ⟨some 5, .mv (.tmp 9), none, []⟩] [7, 8, 9])
  (.seq
   (.seq
    (.region false [⟨some 6, .mv (.const (.int .i64 0)), none, []⟩] [])
   (.block 0
     (.loop
       (.seq
        (.seq
         (.region false [⟨some 10, .mv (.tmp 6), none, []⟩,
           ⟨some 11, .mv (.tmp 0), none, []⟩,
           ⟨some 12, .len_ (.tmp 11), none, []⟩,
           ⟨some 13, .bin .lss (.tmp 10) (.tmp 12), none, []⟩] [10, 11, 12])
        (.cond (.tmp 13)
          .skip
          (.exit 0)))
       (.seq
        (.block 1
          (.seq
           (.region true [⟨some 16, .mv (.tmp 0), none, []⟩,
             ⟨some 17, .mv (.tmp 6), none, []⟩,
             ⟨some 18, .iadS 1 (.tmp 16) (.tmp 17), none, [0, 1]⟩,
             ⟨some 19, .load1 (.tmp 18), none, [2, 0, 1]⟩,
             ⟨some 20, .fad 0 (.tmp 3), none, []⟩,
             ⟨some 21, .load1 (.tmp 20), none, [4]⟩,
             ⟨some 22, .bin .gtr (.tmp 19) (.tmp 21), none, [3, 2, 0, 1, 5, 4]⟩,
             ⟨some 23, .mv (.tmp 22), none, [6, 3, 2, 0, 1, 5, 4]⟩,
             ⟨some 24, .mv (.tmp 0), (some (some 23, true)), [7, 6, 3, 2, 0, 1, 5, 4]⟩,
             ⟨some 25, .mv (.tmp 6), (some (some 23, true)), [7, 6, 3, 2, 0, 1, 5, 4]⟩,
             ⟨some 26, .iadS 1 (.tmp 24) (.tmp 25), (some (some 23, true)), [8, 7, 6, 3, 2, 0, 1, 5, 4, 9]⟩,
             ⟨some 27, .load1 (.tmp 26), (some (some 23, true)), [10, 8, 7, 6, 3, 2, 0, 1, 5, 4, 9]⟩,
             ⟨some 28, .fad 1 (.tmp 3), (some (some 23, true)), [7, 6, 3, 2, 0, 1, 5, 4]⟩,
             ⟨some 29, .load1 (.tmp 28), (some (some 23, true)), [12, 7, 6, 3, 2, 0, 1, 5, 4]⟩,
             ⟨some 30, .bin .lss (.tmp 27) (.tmp 29), (some (some 23, true)), [11, 10, 8, 7, 6, 3, 2, 0, 1, 5, 4, 9, 13, 12]⟩,
             ⟨some 31, .pick (.tmp 23) (.tmp 30) (.const (.bool false)), none, [7, 6, 3, 2, 0, 1, 5, 4, 14, 11, 10, 8, 9, 13, 12]⟩] [16, 17, 18, 19, 20, 21, 22, 23, 24, 25, 26, 27, 28, 29, 30])
          (.cond (.tmp 31)
            (.region false [⟨some 32, .mv (.tmp 5), none, []⟩,
              ⟨some 33, .mv (.tmp 0), none, []⟩,
              ⟨some 34, .mv (.tmp 6), none, []⟩,
              ⟨some 35, .iadS 1 (.tmp 33) (.tmp 34), none, []⟩,
              ⟨some 36, .load1 (.tmp 35), none, []⟩,
              ⟨some 37, .buildSl 1 1 [(.val (.int .i64 0))] [(0, 1, (.tmp 36))], none, []⟩,
              ⟨some 38, .app 1 8 (.tmp 32) (.tmp 37), none, []⟩,
              ⟨some 5, .mv (.tmp 38), none, []⟩] [32, 33, 34, 35, 36, 37, 38])
            .skip)))
       (.region false [⟨some 14, .mv (.tmp 6), none, []⟩,
         ⟨some 15, .bin .add (.tmp 14) (.const (.int .i64 1)), none, []⟩,
         ⟨some 6, .mv (.tmp 15), none, []⟩] [14, 15]))))))
  (.seq
   (.seq
    (.region false [⟨some 39, .fad 1 (.tmp 3), none, []⟩,
      ⟨some 40, .load1 (.tmp 39), none, []⟩,
      ⟨some 41, .fad 0 (.tmp 3), none, []⟩,
      ⟨some 42, .load1 (.tmp 41), none, []⟩,
      ⟨some 43, .bin .gtr (.tmp 40) (.tmp 42), none, []⟩] [39, 40, 41, 42])
   (.cond (.tmp 43)
     (.region false [⟨some 44, .mv (.tmp 5), none, []⟩,
       ⟨some 45, .fad 1 (.tmp 3), none, []⟩,
       ⟨some 46, .load1 (.tmp 45), none, []⟩,
       ⟨some 47, .buildSl 1 1 [(.val (.int .i64 0))] [(0, 1, (.tmp 46))], none, []⟩,
       ⟨some 48, .app 1 8 (.tmp 44) (.tmp 47), none, []⟩,
       ⟨some 5, .mv (.tmp 48), none, []⟩] [44, 45, 46, 47, 48])
     .skip))
  (.seq
   (.region false [⟨some 49, .mv (.tmp 5), none, []⟩,
     ⟨some 4, .mv (.tmp 49), none, []⟩] [49])
  .ret)))))
set_option maxRecDepth 100000 in
theorem kref01_corners : IsCode Try.prog 79 50 cref01_corners [.tmp 4] :=
  ⟨Try.f79, _, [43, 31, 13, 1, 3, 6, 0, 5, 4], Try.func79, rfl, by decide, rfl, by kernel_rfl, by kernel_rfl⟩
/-- law01_SpansBelow -/
def claw01_SpansBelow : ACode :=
  (.seq
   (.region false [⟨some 3, .box (.tmp 0), none, []⟩,
     ⟨some 4, .box (.tmp 1), none, []⟩,
     ⟨some 6, .mv (.const (.bool false)), none, []⟩] [])
  (.seq
   (.seq
    (.region false [⟨some 17, .loadN 3 (.tmp 3), none, []⟩,
      ⟨some 18, .call (.func 17) [(.tmp 17)], none, []⟩] [17])
   (.cond (.tmp 18)
     (.seq
      (.region false [⟨some 19, .call (.func 19) [], none, []⟩,
        ⟨some 6, .mv (.tmp 19), none, []⟩] [19])
     .ret)
     .skip))
  (.seq
   (.region true [⟨some 21, .loadN 3 (.tmp 3), none, []⟩,
     ⟨some 22, .call (.func 21) [(.tmp 21)], none, [0]⟩,
     ⟨some 23, .fad 0 (.tmp 4), none, []⟩,
     ⟨some 24, .loadN 2 (.tmp 23), none, [2]⟩,
     ⟨some 25, .fad 2 (.tmp 4), none, []⟩,
     ⟨some 26, .loadN 2 (.tmp 25), none, [4]⟩,
     ⟨some 27, .mv (.tmp 2), none, []⟩,
     ⟨some 28, .call (.func 35) [(.tmp 22), (.tmp 24), (.tmp 26), (.tmp 27)], none, [1, 0, 3, 2, 5, 4, 6]⟩,
     ⟨some 20, .mv (.tmp 28), none, [7, 1, 0, 3, 2, 5, 4, 6]⟩,
     ⟨some 29, .ext (.tmp 20) 0, none, [8, 7, 1, 0, 3, 2, 5, 4, 6]⟩,
     ⟨some 30, .ext (.tmp 20) 1, none, [8, 7, 1, 0, 3, 2, 5, 4, 6]⟩,
     ⟨some 31, .ext (.tmp 20) 2, none, [8, 7, 1, 0, 3, 2, 5, 4, 6]⟩,
     ⟨some 32, .ext (.tmp 20) 3, none, [8, 7, 1, 0, 3, 2, 5, 4, 6]⟩,
     ⟨some 7, .mv (.tmp 29), none, [9, 8, 7, 1, 0, 3, 2, 5, 4, 6]⟩,
     ⟨some 8, .mv (.tmp 30), none, [10, 8, 7, 1, 0, 3, 2, 5, 4, 6, 13, 9]⟩,
     ⟨some 9, .mv (.tmp 31), none, [11, 8, 7, 1, 0, 3, 2, 5, 4, 6, 14, 10, 13, 9]⟩,
     ⟨some 10, .mv (.tmp 32), none, [12, 8, 7, 1, 0, 3, 2, 5, 4, 6, 15, 11, 14, 10, 13, 9]⟩] [21, 22, 23, 24, 25, 26, 27, 28, 20, 29, 30, 31, 32])
  (.seq
   (.region false [⟨some 34, .loadN 3 (.tmp 3), none, []⟩,
     ⟨some 35, .fad 0 (.tmp 4), none, []⟩,
     ⟨some 36, .loadN 2 (.tmp 35), none, []⟩,
     ⟨some 37, .fad 2 (.tmp 4), none, []⟩,
     ⟨some 38, .loadN 2 (.tmp 37), none, []⟩,
     ⟨some 39, .mv (.tmp 2), none, []⟩,
     ⟨some 40, .call (.func 36) [(.tmp 34), (.tmp 36), (.tmp 38), (.tmp 39)], none, []⟩,
     ⟨some 33, .mv (.tmp 40), none, []⟩,
     ⟨some 41, .ext (.tmp 33) 0, none, []⟩,
     ⟨some 42, .ext (.tmp 33) 1, none, []⟩,
     ⟨some 43, .ext (.tmp 33) 2, none, []⟩,
     ⟨some 44, .ext (.tmp 33) 3, none, []⟩,
     ⟨some 11, .mv (.tmp 41), none, []⟩,
     ⟨some 12, .mv (.tmp 42), none, []⟩,
     ⟨some 13, .mv (.tmp 43), none, []⟩,
     ⟨some 14, .mv (.tmp 44), none, []⟩] [34, 35, 36, 37, 38, 39, 40, 33, 41, 42, 43, 44])
  (.seq
   (.seq
    (.region false [⟨some 45, .mv (.tmp 7), none, []⟩,
      ⟨some 46, .mv (.tmp 11), none, []⟩,
      ⟨some 47, .bin .neq (.tmp 45) (.tmp 46), none, []⟩,
      ⟨some 48, .mv (.tmp 47), none, []⟩,
      ⟨some 49, .mv (.tmp 8), (some (some 48, false)), []⟩,
      ⟨some 50, .mv (.tmp 12), (some (some 48, false)), []⟩,
      ⟨some 51, .bin .neq (.tmp 49) (.tmp 50), (some (some 48, false)), []⟩,
      ⟨some 52, .pick (.tmp 48) (.const (.bool true)) (.tmp 51), none, []⟩,
      ⟨some 53, .mv (.tmp 52), none, []⟩,
      ⟨some 54, .mv (.tmp 9), (some (some 53, false)), []⟩,
      ⟨some 55, .mv (.tmp 13), (some (some 53, false)), []⟩,
      ⟨some 56, .eqb true (.tmp 54) (.tmp 55), (some (some 53, false)), []⟩,
      ⟨some 57, .pick (.tmp 53) (.const (.bool true)) (.tmp 56), none, []⟩,
      ⟨some 58, .mv (.tmp 57), none, []⟩,
      ⟨some 59, .mv (.tmp 10), (some (some 58, false)), []⟩,
      ⟨some 60, .mv (.tmp 14), (some (some 58, false)), []⟩,
      ⟨some 61, .bin .neq (.tmp 59) (.tmp 60), (some (some 58, false)), []⟩,
      ⟨some 62, .pick (.tmp 58) (.const (.bool true)) (.tmp 61), none, []⟩] [45, 46, 47, 48, 49, 50, 51, 52, 53, 54, 55, 56, 57, 58, 59, 60, 61])
   (.cond (.tmp 62)
     (.seq
      (.region false [⟨some 6, .mv (.const (.bool false)), none, []⟩] [])
     .ret)
     .skip))
  (.seq
   (.region true [⟨some 64, .loadN 3 (.tmp 3), none, []⟩,
     ⟨some 65, .call (.func 21) [(.tmp 64)], none, [0]⟩,
     ⟨some 66, .fad 0 (.tmp 4), none, []⟩,
     ⟨some 67, .loadN 2 (.tmp 66), none, [2]⟩,
     ⟨some 68, .fad 2 (.tmp 4), none, []⟩,
     ⟨some 69, .loadN 2 (.tmp 68), none, [4]⟩,
     ⟨some 70, .call (.func 27) [(.tmp 65), (.tmp 67), (.tmp 69)], none, [1, 0, 3, 2, 5, 4]⟩,
     ⟨some 63, .mv (.tmp 70), none, [6, 1, 0, 3, 2, 5, 4]⟩,
     ⟨some 71, .ext (.tmp 63) 0, none, [7, 6, 1, 0, 3, 2, 5, 4]⟩,
     ⟨some 72, .ext (.tmp 63) 1, none, [7, 6, 1, 0, 3, 2, 5, 4]⟩,
     ⟨some 15, .mem [(.val (.int .i64 0)), (.val (.int .i64 0))], none, []⟩,
     ⟨none, .store 2 (.tmp 15) (.tmp 71), none, [10, 8, 7, 6, 1, 0, 3, 2, 5, 4]⟩,
     ⟨some 16, .mv (.tmp 72), none, [9, 7, 6, 1, 0, 3, 2, 5, 4, 11, 10, 8]⟩] [64, 65, 66, 67, 68, 69, 70, 63, 71, 72])
  (.seq
   (.region false [⟨some 73, .mv (.tmp 16), none, []⟩,
     ⟨some 74, .mv (.tmp 10), none, []⟩,
     ⟨some 75, .bin .eql (.tmp 73) (.tmp 74), none, []⟩,
     ⟨some 76, .mv (.tmp 75), none, []⟩,
     ⟨some 77, .mv (.tmp 10), (some (some 76, true)), []⟩,
     ⟨some 78, .bin .neq (.tmp 77) (.const (.int .i64 0)), (some (some 76, true)), []⟩,
     ⟨some 79, .mv (.tmp 78), (some (some 76, true)), []⟩,
     ⟨some 80, .mv (.tmp 9), (some (some 79, false)), []⟩,
     ⟨some 81, .fad 1 (.tmp 15), (some (some 79, false)), []⟩,
     ⟨some 82, .load1 (.tmp 81), (some (some 79, false)), []⟩,
     ⟨some 83, .mv (.tmp 2), (some (some 79, false)), []⟩,
     ⟨some 84, .bin .leq (.tmp 82) (.tmp 83), (some (some 79, false)), []⟩,
     ⟨some 85, .eqb false (.tmp 80) (.tmp 84), (some (some 79, false)), []⟩,
     ⟨some 86, .pick (.tmp 79) (.const (.bool true)) (.tmp 85), (some (some 76, true)), []⟩,
     ⟨some 87, .pick (.tmp 76) (.tmp 86) (.const (.bool false)), none, []⟩,
     ⟨some 88, .mv (.tmp 87), none, []⟩,
     ⟨some 89, .call (.func 19) [], (some (some 88, true)), []⟩,
     ⟨some 90, .pick (.tmp 88) (.tmp 89) (.const (.bool false)), none, []⟩,
     ⟨some 6, .mv (.tmp 90), none, []⟩] [73, 74, 75, 76, 77, 78, 79, 80, 81, 82, 83, 84, 85, 86, 87, 88, 89, 90])
  .ret)))))))
set_option maxRecDepth 100000 in
theorem klaw01_SpansBelow : IsCode Try.prog 7 91 claw01_SpansBelow [.tmp 6] :=
  ⟨Try.f7, _, [62, 18, 0, 1, 3, 4, 2, 7, 11, 8, 12, 9, 13, 10, 14, 16, 15, 6], Try.func7, rfl, by decide, rfl, by kernel_rfl, by kernel_rfl⟩
end Go.Proofs.Ytfaiogajaaclcaa
