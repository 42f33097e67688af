/- The contracts of cmp.Or at ints and of spans' comparison of two fractions; old memory stays. -/
import Derived.Test.YtfaiogajaaclcaaStops
namespace Go.Proofs.Ytfaiogajaaclcaa
open Go.RowKit

def orL : List Int → Int
  | [] => 0
  | x :: xs => if x = 0 then orL xs else x
theorem orL_drop (l : List Int) (k : Nat) (h : k < l.length) : orL (l.drop k) = if l[k]?.getD 0 = 0 then orL (l.drop (k + 1)) else l[k]?.getD 0 := by
  rw [List.drop_eq_getElem_cons h]
  simp [orL, h]
set_option maxHeartbeats 400000 in
theorem cmpOr_any (A : Option Addr) (l : List Int) (c : Nat) (w : World) (hl : l.length ≤ 1000000) (hA : Ints w A l) :
    Calls Try.prog 113 #[.slice A l.length c] w fun e w' => e = .returned (.int .i64 (orL l)) ∧ w' = w := by
  have HA := Lib.hid hA
  clear hA
  go_enter Try.func113, Try.ntmps113
  go_wp2
  go_loop [5, 8] (fun _ i => ∃ k : Nat, k ≤ l.length ∧ i = .int .i64 k ∧ orL (l.drop k) = orL l) (fun _ i => l.length - (intOf i).toNat)
  case atStart => exact ⟨0, by omega, rfl, by simp⟩
  case round =>
    obtain ⟨k, hk, rfl, hp⟩ := hrel
    have HP := Lib.hid hp
    clear hp
    by_cases hlt : k < l.length
    · obtain ⟨b, off, rfl, hbl, hc⟩ := HA.out (by omega)
      have h1 := hc k hlt
      have hd := Lib.hid (orL_drop l k hlt)
      clear hc
      generalize hx : l[k]?.getD 0 = x at h1
      have HX := Lib.hid hx
      clear hx
      by_cases hx0 : (x != 0) = true
      · go_wp2
        go_ret
        refine ⟨?_, rfl⟩
        rw [← HP.out, hd.out, HX.out, if_neg (by simpa using hx0)]; rfl
      · have hx1 : (x != 0) = false := by simpa using hx0
        clear hx0
        go_wp2
        go_round
        case rel => exact ⟨k + 1, by omega, by go_num, by rw [← HP.out, hd.out, HX.out, if_pos (by simpa using hx1)]⟩
        case measure => simp [intOf]; omega
    · go_wp2
      go_ret
      refine ⟨?_, rfl⟩
      rw [← HP.out, List.drop_eq_nil_of_le (by omega)]; rfl
theorem ints_new2 (w : World) (x y : Int) (t : TypeId) (B : Nat) (hB : B = w.heap.size) : Ints (w.alloc (.cells #[.int .i64 x, .int .i64 y] t)) (some ⟨B, 0, none⟩) [x, y] := fun _ => by
  subst hB
  refine ⟨_, 0, rfl, by simp, fun k hk => ?_⟩
  match k, hk with
  | 0, _ => simp
  | 1, _ => simp
def cmpV (n d m f : Int) : Int := orL [n / d - m / f, (n - n / d * d) * f - (m - m / f * f) * d]
theorem rem_bd (n d : Int) (hd : 1 ≤ d) : 0 ≤ n - n / d * d ∧ n - n / d * d < d := by
  have e2 := Int.mul_ediv_add_emod n d
  have e3 := Int.emod_nonneg n (show d ≠ 0 by omega)
  have e4 := Int.emod_lt_of_pos n (show 0 < d by omega)
  rw [Int.mul_comm] at e2
  omega
set_option maxHeartbeats 1000000 in
theorem compare_any (n d m f : Int) (w : World) (hd : 1 ≤ d) (hd' : d ≤ 100000000) (hf : 1 ≤ f) (hf' : f ≤ 100000000) (hn : -1000000000000000 ≤ n) (hn' : n ≤ 1000000000000000) (hm : -1000000000000000 ≤ m) (hm' : m ≤ 1000000000000000) :
    Calls Try.prog 101 #[.agg #[.int .i64 n, .int .i64 d], .agg #[.int .i64 m, .int .i64 f]] w fun e w' => e = .returned (.int .i64 (cmpV n d m f)) ∧ Below w.heap.size w w' := by
  have hq1 : ∀ W, Calls Try.prog 78 #[.int .i64 n, .int .i64 d] W fun e w' => e = .returned (.int .i64 (n / d)) ∧ w' = W := fun W => floor_any n d W hd (by omega) (by omega) (by omega)
  have hq2 : ∀ W, Calls Try.prog 78 #[.int .i64 m, .int .i64 f] W fun e w' => e = .returned (.int .i64 (m / f)) ∧ w' = W := fun W => floor_any m f W hf (by omega) (by omega) (by omega)
  have b1 := ediv_bd n d 1000000000000000 (by omega) hd hn hn'
  have b2 := ediv_bd m f 1000000000000000 (by omega) hf hm hm'
  have r1 := rem_bd n d hd
  have r2 := rem_bd m f hf
  have hC : cmpV n d m f = orL [n / d - m / f, (n - n / d * d) * f - (m - m / f * f) * d] := rfl
  generalize n / d = a at *
  generalize m / f = b at *
  have p1 := mul_bd (a := n - a * d) (b := f) (A := 100000000) (B := 100000000) (by omega) (by omega) (by omega) (by omega)
  have p2 := mul_bd (a := m - b * f) (b := d) (A := 100000000) (B := 100000000) (by omega) (by omega) (by omega) (by omega)
  have HQ1 := Lib.hid hq1
  have HQ2 := Lib.hid hq2
  have HC := Lib.hid hC
  clear hq1 hq2 hC
  go_enter Try.func101, Try.ntmps101
  go_wp2_with fail
  go_quiet ((go_at_call 78; first | (with_reducible exact Calls.quiet_of_same (HQ1.out _)) | (with_reducible exact Calls.quiet_of_same (HQ2.out _))))
  go_wp2_with fail
  refine (cmpOr_any _ [a - b, (n - a * d) * f - (m - b * f) * d] 2 _ (by simp) ?_).mono ?_
  · exact ints_new2 _ _ _ _ _ (by simp)
  · rintro e w' ⟨rfl, rfl⟩
    go_wp2_with fail
    go_ret
    refine ⟨by rw [HC.out]; rfl, ?_⟩
    repeat (first | exact Below.refl _ _ | refine Below.alloc ?_ (by simp <;> omega) _ | refine Below.drewN' ?_ _)
end Go.Proofs.Ytfaiogajaaclcaa
