/- The contract of spans.CheckTable: 0 or ErrTable; old memory stays. -/
import Derived.Test.YtfaiogajaaclcaaTab2
namespace Go.Proofs.Ytfaiogajaaclcaa
open Go.RowKit

def tabB (xs ys : List Int) (vs : List (List Int)) : Bool := axB xs && axB ys && !((vs.length : Int) != (xs.length : Int)) && !vs.any (rowBad ys.length)
def tabErr (xs ys : List Int) (vs : List (List Int)) : Int := if tabB xs ys vs then 0 else 11
def RowsLe (vs : List (List Int)) : Prop := ∀ r, r ∈ vs → r.length ≤ 4611686018427387904
set_option maxHeartbeats 1000000 in
theorem checkTable_any (xs ys : List Int) (vs : List (List Int)) (X Y V : Option Addr) (cx cy cv : Nat) (w : World)
   (hxl : xs.length ≤ 4611686018427387904) (hyl : ys.length ≤ 4611686018427387904) (hvl : vs.length ≤ 4611686018427387904) (hr : RowsLe vs)
   (hX : Ints w X xs) (hY : Ints w Y ys) (hV : Mat w V vs) :
   Calls Try.prog 26 #[.agg #[.slice X xs.length cx, .slice Y ys.length cy, .slice V vs.length cv]] w fun e w' => e = .returned (.int .i64 (tabErr xs ys vs)) ∧ Below w.heap.size w w' := by
  have hB2 : ∀ (o1 o2 : Obj), Below w.heap.size w ((w.alloc o1).alloc o2) := fun o1 o2 => ((Below.refl _ w).alloc (Nat.le_refl _) _).alloc (by simp) _
  have HB2 := Lib.hid hB2
  have HXx := Lib.hid hX
  have HYy := Lib.hid hY
  have HVv := Lib.hid hV
  have HR := Lib.hid hr
  clear hX hY hV hr hB2
  by_cases hx : axB xs = true
  · have EX := Lib.hid hx
    by_cases hy : axB ys = true
    · have EY := Lib.hid hy
      by_cases hn : ((vs.length : Int) != (xs.length : Int)) = true
      · have R : Hid (tabErr xs ys vs = 11) := by unfold Hid tabErr tabB; rw [hn]; simp
        clear hx hy
        go_enter Try.func26, Try.ntmps26
        go_wp2_with fail
        refine (axis_any X xs cx _ hxl (HXx.out.below (HB2.out _ _))).mono ?_
        rintro e w' ⟨rfl, rfl⟩
        rw [EX.out]
        go_wp2_with fail
        refine (axis_any Y ys cy _ hyl (HYy.out.below (HB2.out _ _))).mono ?_
        rintro e w' ⟨rfl, rfl⟩
        rw [EY.out]
        go_wp2_with fail
        go_ret
        exact ⟨by rw [R.out]; rfl, HB2.out _ _⟩
      · have hn' : ((vs.length : Int) != (xs.length : Int)) = false := by simpa using hn
        have R : Hid (tabErr xs ys vs = if vs.any (rowBad ys.length) then 11 else 0) := by unfold Hid tabErr tabB; rw [hn', hx, hy]; cases vs.any (rowBad ys.length) <;> rfl
        clear hx hy hn
        go_enter Try.func26, Try.ntmps26
        go_wp2_with fail
        refine (axis_any X xs cx _ hxl (HXx.out.below (HB2.out _ _))).mono ?_
        rintro e w' ⟨rfl, rfl⟩
        rw [EX.out]
        go_wp2_with fail
        refine (axis_any Y ys cy _ hyl (HYy.out.below (HB2.out _ _))).mono ?_
        rintro e w' ⟨rfl, rfl⟩
        rw [EY.out]
        go_wp2_with fail
        refine (containsFuncRow 74 (rowBad ys.length) _ _ V vs cv _ hvl (HVv.out.below (HB2.out _ _)) enters_ct2 ?_).mono ?_
        · intro B x d w' hm hb hI
          exact ct2_any B Y x ys d cy w.heap.size (w.heap.size + 1) w' (HR.out x hm) hI (by rw [hb.cell (by simp <;> omega)]; simp) (by rw [hb.cell (by simp <;> omega)]; simp)
        · rintro e w1 ⟨rfl, hb1⟩
          have hb2 := (HB2.out _ _).trans (hb1.mono (by simp; omega))
          clear hb1
          by_cases ha : vs.any (rowBad ys.length) = true
          · rw [ha]
            go_wp2_with fail
            go_ret
            exact ⟨by rw [R.out, if_pos ha]; rfl, hb2⟩
          · have ha' : vs.any (rowBad ys.length) = false := by simpa using ha
            rw [ha']
            go_wp2_with fail
            go_ret
            exact ⟨by rw [R.out, if_neg ha]; rfl, hb2⟩
    · have hy' : axB ys = false := by simpa using hy
      have EY := Lib.hid hy'
      have R : Hid (tabErr xs ys vs = 11) := by unfold Hid tabErr tabB; rw [hy']; simp
      clear hx hy hy'
      go_enter Try.func26, Try.ntmps26
      go_wp2_with fail
      refine (axis_any X xs cx _ hxl (HXx.out.below (HB2.out _ _))).mono ?_
      rintro e w' ⟨rfl, rfl⟩
      rw [EX.out]
      go_wp2_with fail
      refine (axis_any Y ys cy _ hyl (HYy.out.below (HB2.out _ _))).mono ?_
      rintro e w' ⟨rfl, rfl⟩
      rw [EY.out]
      go_wp2_with fail
      go_ret
      exact ⟨by rw [R.out]; rfl, HB2.out _ _⟩
  · have hx' : axB xs = false := by simpa using hx
    have EX := Lib.hid hx'
    have R : Hid (tabErr xs ys vs = 11) := by unfold Hid tabErr tabB; rw [hx']; simp
    clear hx hx'
    go_enter Try.func26, Try.ntmps26
    go_wp2_with fail
    refine (axis_any X xs cx _ hxl (HXx.out.below (HB2.out _ _))).mono ?_
    rintro e w' ⟨rfl, rfl⟩
    rw [EX.out]
    go_wp2_with fail
    go_ret
    exact ⟨by rw [R.out]; rfl, HB2.out _ _⟩
end Go.Proofs.Ytfaiogajaaclcaa
