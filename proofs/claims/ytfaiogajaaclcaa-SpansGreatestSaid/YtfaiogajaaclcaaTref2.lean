/- The contract of the reference's CheckTable. -/
import Derived.Test.YtfaiogajaaclcaaTref
namespace Go.Proofs.Ytfaiogajaaclcaa
open Go.RowKit

def outI (x : Int) : Bool := !wB x (-1000000) 1000000
theorem any_drop {α : Type} (p : α → Bool) (l : List α) (d : α) (k : Nat) (h : k < l.length) : (l.drop k).any p = (p (l[k]?.getD d) || (l.drop (k + 1)).any p) := by
  rw [List.drop_eq_getElem_cons h, List.any_cons, show l[k]?.getD d = l[k] by simp [h]]
set_option maxRecDepth 100000 in
set_option maxHeartbeats 4000000 in
theorem rcheckTable_any (xs ys : List Int) (vs : List (List Int)) (X Y V : Option Addr) (cx cy cv : Nat) (w : World) (hS : TSm xs ys vs) (hR : TabR w X Y V cx cy cv xs ys vs) :
   Calls Try.prog 18 #[.agg #[.slice X xs.length cx, .slice Y ys.length cy, .slice V vs.length cv]] w fun e w' => e = .returned (.int .i64 (tabErr xs ys vs)) ∧ Below w.heap.size w w' := by
  have HXx := Lib.hid hR.hX
  have HYy := Lib.hid hR.hY
  have HVv := Lib.hid hR.hV
  have HSX := Lib.hid hS.x
  have HSY := Lib.hid hS.y
  have hsv := hS.v
  unfold maxLen at hsv
  have HBk0 := Lib.hid (blk_new' w (.cells #[.slice X xs.length cx, .slice Y ys.length cy, .slice V vs.length cv] 25))
  have HB0 := Lib.hid (show Below w.heap.size w (w.alloc (.cells #[.slice X xs.length cx, .slice Y ys.length cy, .slice V vs.length cv] 25)) from (Below.refl _ w).alloc (Nat.le_refl _) _)
  clear hR hS
  go_enter Try.func18, Try.ntmps18
  go_wp2_with fail
  refine (knots_any X xs cx _ HSX.out (HXx.out.below HB0.out)).mono ?_
  rintro e w1 ⟨rfl, hb1⟩
  have HBk1 := Lib.hid (blk' hb1 HBk0.out)
  have HB1 := Lib.hid (HB0.out.trans (hb1.mono HB0.out.size))
  obtain ⟨⟨c0, c1, c2⟩, _⟩ := cells3 HBk1.out
  clear hb1
  by_cases hx : axB xs = true
  · rw [hx]
    have EX := Lib.hid hx
    clear hx
    go_wp2_with fail
    refine (knots_any Y ys cy _ HSY.out (HYy.out.below HB1.out)).mono ?_
    rintro e w2 ⟨rfl, hb2⟩
    have HBk2 := Lib.hid (blk' hb2 HBk1.out)
    have HB2 := Lib.hid (HB1.out.trans (hb2.mono HB1.out.size))
    clear c0 c1 c2 hb2
    obtain ⟨⟨c0, c1, c2⟩, _⟩ := cells3 HBk2.out
    by_cases hy : axB ys = true
    · rw [hy]
      have EY := Lib.hid hy
      clear hy
      by_cases hn : ((vs.length : Int) != (xs.length : Int)) = true
      · have R : Hid (tabErr xs ys vs = 11) := by unfold Hid tabErr tabB; rw [hn]; simp
        go_wp2_with fail
        go_ret
        exact ⟨by rw [R.out]; rfl, HB2.out⟩
      · have hn' : ((vs.length : Int) != (xs.length : Int)) = false := by simpa using hn
        have R : Hid (tabErr xs ys vs = if vs.any (rowBad ys.length) then 11 else 0) := by unfold Hid tabErr tabB; rw [hn', EX.out, EY.out]; cases vs.any (rowBad ys.length) <;> rfl
        clear hn
        go_wp2_with fail
        clear c0 c1 c2
        go_loopw [3, 4] (fun i _ wr => ∃ k : Nat, k ≤ vs.length ∧ i = .int .i64 k ∧ (vs.drop k).any (rowBad ys.length) = vs.any (rowBad ys.length) ∧ Below w2.heap.size w2 wr) (fun i _ _ => vs.length - (intOf i).toNat)
        case atStart => exact ⟨0, by omega, rfl, by simp, Below.refl _ _⟩
        case round =>
          obtain ⟨k, hk, rfl, hp, hbr⟩ := hrel
          obtain ⟨wo, rfl⟩ : ∃ wo : World, wo = wr := ⟨_, rfl⟩
          have HP := Lib.hid hp
          have HBR := Lib.hid hbr
          obtain ⟨⟨c0, c1, c2⟩, _⟩ := cells3 (blk' hbr HBk2.out)
          clear hp hbr
          by_cases hlt : k < vs.length
          · obtain ⟨b, off, rfl, hbl, hc⟩ := HVv.out (by omega)
            obtain ⟨B, d, hc1, hB⟩ := hc k hlt
            have HBB := Lib.hid (HB2.out.trans (HBR.out.mono HB2.out.size))
            have h1 := (HBB.out.cell (p := ⟨b, off + k, none⟩) hbl).trans hc1
            have HI := Lib.hid (hB.below HBB.out)
            have HD := Lib.hid (any_drop (rowBad ys.length) vs [] k hlt)
            clear hc hc1 hB
            generalize hr : vs[k]?.getD [] = r at h1 HI HD
            clear hr
            have t1 : (k : Int) < (vs.length : Int) := by omega
            have t2 : (0 : Int) ≤ (k : Int) := by omega
            by_cases hl : ((r.length : Int) != (ys.length : Int)) = true
            · have HRB : Hid (rowBad ys.length r = true) := by unfold Hid rowBad; rw [hl]; rfl
              go_wp2_with fail
              go_quiet (fail)
              go_wp2_with fail
              go_ret
              exact ⟨by rw [R.out, ← HP.out, HD.out, HRB.out]; rfl, Below.drewN' HBB.out _⟩
            · have hl' : ((r.length : Int) != (ys.length : Int)) = false := by simpa using hl
              have HRB : Hid (rowBad ys.length r = r.any outI) := by unfold Hid rowBad; rw [hl']; rfl
              clear hl
              have hry : r.length ≤ 9223372036854775807 := by
                have := HSY.out
                unfold maxLen at this
                simp at hl'
                omega
              go_wp2_with fail
              go_quiet (fail)
              go_wp2_with fail
              go_loopw [4] (fun i wq => ∃ j : Nat, j ≤ r.length ∧ i = .int .i64 j ∧ (r.drop j).any outI = r.any outI ∧ Below wo.heap.size wo wq) (fun i _ => r.length - (intOf i).toNat)
              case atStart => exact ⟨0, by omega, rfl, by simp, Below.drewN' (Below.refl _ _) _⟩
              case round =>
                obtain ⟨j, hj, rfl, hp2, hbq⟩ := hrel
                have HP2 := Lib.hid hp2
                have HBQ := Lib.hid hbq
                have HBQ2 := Lib.hid (HBB.out.trans (hbq.mono HBB.out.size))
                obtain ⟨⟨e0, e1, e2⟩, _⟩ := cells3 (blk' hbq (blk' HBR.out HBk2.out))
                have h2 := cell_b' hbq h1
                clear hp2 hbq
                by_cases hlt2 : j < r.length
                · obtain ⟨b2, off2, rfl, hbl2, hc2⟩ := HI.out (by omega)
                  have h3 := cell_b' HBQ.out (hc2 j hlt2)
                  have HD2 := Lib.hid (any_drop outI r 0 j hlt2)
                  clear hc2
                  generalize hx2 : r[j]?.getD 0 = x at h3 HD2
                  clear hx2
                  go_wp2_with fail
                  refine (from_any _ _ _ _).mono ?_
                  rintro e w' ⟨rfl, rfl⟩
                  by_cases hv : wB x (-1000000) 1000000 = true
                  · rw [hv]
                    have HO : Hid (outI x = false) := by unfold Hid outI; rw [hv]; rfl
                    clear hv
                    go_wp2_with fail
                    go_roundw
                    case rel => exact ⟨j + 1, by omega, by go_num, by rw [← HP2.out, HD2.out, HO.out]; simp, HBQ.out⟩
                    case measure => simp [intOf]; omega
                  · have hv' : wB x (-1000000) 1000000 = false := by simpa using hv
                    rw [hv']
                    have HO : Hid (outI x = true) := by unfold Hid outI; rw [hv']; rfl
                    clear hv hv'
                    go_wp2_with fail
                    go_ret
                    exact ⟨by rw [R.out, ← HP.out, HD.out, HRB.out, ← HP2.out, HD2.out, HO.out]; rfl, HBQ2.out⟩
                · have HZ : Hid (rowBad ys.length r = false) := by unfold Hid; rw [HRB.out, ← HP2.out, List.drop_eq_nil_of_le (by omega)]; rfl
                  go_wp2_with fail
                  go_roundw
                  case rel => exact ⟨k + 1, by omega, by go_num, by rw [← HP.out, HD.out, HZ.out]; simp, HBR.out.trans (HBQ.out.mono HBR.out.size)⟩
                  case measure => simp [intOf]; omega
          · go_wp2_with fail
            go_ret
            exact ⟨by rw [R.out, ← HP.out, List.drop_eq_nil_of_le (by omega)]; rfl, HB2.out.trans (HBR.out.mono HB2.out.size)⟩
    · have hy' : axB ys = false := by simpa using hy
      rw [hy']
      have R : Hid (tabErr xs ys vs = 11) := by unfold Hid tabErr tabB; rw [hy']; simp
      clear hy hy'
      go_wp2_with fail
      go_ret
      exact ⟨by rw [R.out]; rfl, HB2.out⟩
  · have hx' : axB xs = false := by simpa using hx
    rw [hx']
    have R : Hid (tabErr xs ys vs = 11) := by unfold Hid tabErr tabB; rw [hx']; simp
    clear hx hx'
    go_wp2_with fail
    go_ret
    exact ⟨by rw [R.out]; rfl, HB1.out⟩
end Go.Proofs.Ytfaiogajaaclcaa
