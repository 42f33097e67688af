/- The contract of spans.cell. -/
import Derived.Test.YtfaiogajaaclcaaBin
namespace Go.Proofs.Ytfaiogajaaclcaa
open Go.RowKit

/-- the number of the part of an axis: what spans.cell may return -/
def CellAt (l : List Int) (x : Int) (i : Nat) : Prop := i + 2 ≤ l.length ∧ (0 < i → l[i]?.getD 0 < x) ∧ (i + 2 < l.length → x ≤ l[i+1]?.getD 0)
theorem cellAt_of_bin (l : List Int) (x : Int) (i : Nat) (h2 : 2 ≤ l.length) (h : BinAt ((l.drop 1).take (l.length - 2)) x i) : CellAt l x i := by
  obtain ⟨h1, h3, h4⟩ := h
  have e : ((l.drop 1).take (l.length - 2)).length = l.length - 2 := by simp; omega
  rw [e] at h1 h4
  refine ⟨by omega, fun h0 => ?_, fun hi => ?_⟩
  · have := h3 h0
    rw [List.getElem?_take, if_pos (by omega), List.getElem?_drop, show 1 + (i - 1) = i by omega] at this
    exact this
  · have := h4 (by omega)
    rw [List.getElem?_take, if_pos (by omega), List.getElem?_drop, show 1 + i = i + 1 by omega] at this
    exact this
def CellPost (l : List Int) (x : Int) (w : World) (e : Ending) (w' : World) : Prop := ∃ i : Nat, CellAt l x i ∧ e = .returned (.int .i64 i) ∧ w' = w
set_option maxHeartbeats 400000 in
theorem cell_any (A : Option Addr) (l : List Int) (c : Nat) (x : Int) (w : World) (h2 : 2 ≤ l.length) (hl : l.length ≤ 1000000) (hlc : l.length ≤ c) (hA : Ints w A l) :
    Calls Try.prog 108 #[.slice A l.length c, .int .i64 x] w (CellPost l x w) := by
  obtain ⟨b, off, rfl, hb, hc⟩ := hA (by omega)
  have e : ((l.drop 1).take (l.length - 2)).length = l.length - 1 - 1 := by simp; omega
  have hsub : Ints w (some ⟨b, off + 1, none⟩) ((l.drop 1).take (l.length - 2)) := fun _ => ⟨b, off + 1, rfl, hb, fun k hk => by
    rw [e] at hk
    rw [List.getElem?_take, if_pos (by omega), List.getElem?_drop, show off + 1 + k = off + (1 + k) by omega]
    exact hc (1 + k) (by omega)⟩
  have h := binSearch_any (some ⟨b, off + 1, none⟩) ((l.drop 1).take (l.length - 2)) (c - 1) x w (by omega) hsub
  rw [e] at h
  have H := Lib.hid h
  have hi1 : (1 : Int) ≤ (l.length : Int) - 1 := by omega
  have hi2 : (l.length : Int) - 1 ≤ (c : Int) := by omega
  clear hc hA e hsub h
  go_enter Try.func108, Try.ntmps108
  go_wp2_with fail
  refine H.out.mono ?_
  rintro e w' ⟨i, bb, hbin, rfl, rfl⟩
  have HB := Lib.hid hbin
  clear hbin
  go_wp2_with fail
  go_ret
  exact ⟨i, cellAt_of_bin l x i h2 HB.out, rfl, rfl⟩
end Go.Proofs.Ytfaiogajaaclcaa
