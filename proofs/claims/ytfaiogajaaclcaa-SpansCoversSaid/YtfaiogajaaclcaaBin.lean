/- The contract of slices.BinarySearch at ints, and of spans.cell. -/
import Derived.Test.YtfaiogajaaclcaaTab3
namespace Go.Proofs.Ytfaiogajaaclcaa
open Go.RowKit

theorem isNaN_any (n : Int) (w : World) : Calls Try.prog 120 #[.int .i64 n] w fun e w' => e = .returned (.bool false) ∧ w' = w := by
  have h : (n != n) = false := by simp
  go_enter Try.func120, Try.ntmps120
  go_wp2
  go_ret
  exact ⟨rfl, rfl⟩
theorem cisNaN_any (n : Int) (w : World) : Calls Try.prog 118 #[.int .i64 n] w fun e w' => e = .returned (.bool false) ∧ w' = w := by
  have h : (n != n) = false := by simp
  go_enter Try.func118, Try.ntmps118
  go_wp2
  go_ret
  exact ⟨rfl, rfl⟩
set_option maxHeartbeats 400000 in
theorem less_any (a b : Int) (w : World) : Calls Try.prog 119 #[.int .i64 a, .int .i64 b] w fun e w' => e = .returned (.bool (decide (a < b))) ∧ w' = w := by
  go_enter Try.func119, Try.ntmps119
  go_wp2_with (go_at_call 118; refine (cisNaN_any _ _).mono ?_; rintro e w' ⟨rfl, rfl⟩)
  go_ret
  exact ⟨rfl, rfl⟩
def BinAt (l : List Int) (x : Int) (i : Nat) : Prop := i ≤ l.length ∧ (0 < i → l[i-1]?.getD 0 < x) ∧ (i < l.length → x ≤ l[i]?.getD 0)
def BinPost (l : List Int) (x : Int) (w : World) (e : Ending) (w' : World) : Prop := ∃ (i : Nat) (b : Bool), BinAt l x i ∧ e = .returned (.tuple #[.int .i64 i, .bool b]) ∧ w' = w
set_option maxHeartbeats 400000 in
theorem binSearch_any (A : Option Addr) (l : List Int) (c : Nat) (x : Int) (w : World) (hl : l.length ≤ 1000000000) (hA : Ints w A l) :
    Calls Try.prog 115 #[.slice A l.length c, .int .i64 x] w (BinPost l x w) := by
  have HA := Lib.hid hA
  clear hA
  go_enter Try.func115, Try.ntmps115
  go_wp2
  go_loop [7, 8, 9] (fun i j _ => ∃ a b : Nat, a ≤ b ∧ b ≤ l.length ∧ i = .int .i64 a ∧ j = .int .i64 b ∧ (0 < a → l[a-1]?.getD 0 < x) ∧ (b < l.length → x ≤ l[b]?.getD 0)) (fun i j _ => (intOf j).toNat - (intOf i).toNat)
  case atStart => exact ⟨0, l.length, by omega, by omega, rfl, rfl, by omega, by omega⟩
  case round =>
    obtain ⟨a, b, hab, hbl, rfl, rfl, h1, h2⟩ := hrel
    have H1 := Lib.hid h1
    have H2 := Lib.hid h2
    clear h1 h2
    by_cases hlt : a < b
    · obtain ⟨bb, off, rfl, hbl2, hc⟩ := HA.out (by omega)
      have hc1 := hc ((a + b) / 2) (by omega)
      clear hc
      generalize hy : l[(a + b) / 2]?.getD 0 = y at hc1
      have HY := Lib.hid hy
      clear hy
      go_wp2_with fail
      refine (less_any _ _ _).mono ?_
      rintro e w' ⟨rfl, rfl⟩
      by_cases hyx : y < x
      · rw [decide_eq_true hyx]
        go_wp2_with fail
        go_round
        case rel => exact ⟨(a + b) / 2 + 1, b, by omega, by omega, by go_num, rfl, fun _ => by rw [Nat.add_sub_cancel, HY.out]; exact hyx, H2.out⟩
        case measure => simp [intOf]; omega
      · rw [decide_eq_false hyx]
        go_wp2_with fail
        go_round
        case rel => exact ⟨a, (a + b) / 2, by omega, by omega, rfl, by go_num, H1.out, fun _ => by rw [HY.out]; omega⟩
        case measure => simp [intOf]; omega
    · obtain rfl : a = b := by omega
      have HB : Hid (BinAt l x a) := ⟨hbl, H1.out, H2.out⟩
      clear H1 H2
      by_cases hal : a < l.length
      · obtain ⟨bb, off, rfl, hbl2, hc⟩ := HA.out (by omega)
        have hc1 := hc a hal
        clear hc
        generalize l[a]?.getD 0 = y at hc1
        by_cases hyx : (y == x) = true
        · go_wp2_with (go_at_call 120; refine (isNaN_any _ _).mono ?_; rintro e w' ⟨rfl, rfl⟩)
          go_ret2
          exact ⟨a, _, HB.out, rfl, rfl⟩
        · have hyx' : (y == x) = false := by simpa using hyx
          clear hyx
          go_wp2_with (go_at_call 120; refine (isNaN_any _ _).mono ?_; rintro e w' ⟨rfl, rfl⟩)
          go_ret2
          exact ⟨a, _, HB.out, rfl, rfl⟩
      · obtain rfl : a = l.length := by omega
        go_wp2_with (go_at_call 120; refine (isNaN_any _ _).mono ?_; rintro e w' ⟨rfl, rfl⟩)
        go_ret2
        exact ⟨_, _, HB.out, rfl, rfl⟩
end Go.Proofs.Ytfaiogajaaclcaa
