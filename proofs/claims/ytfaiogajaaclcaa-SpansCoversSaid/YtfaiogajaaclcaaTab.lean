/- The contracts of axis, CheckTable and what it hands to slices.ContainsFunc, floor, ceil: what each returns; old memory stays. -/
import Derived.Test.YtfaiogajaaclcaaPlain
import Derived.Test.YtfaiogajaaclcaaLeaf
namespace Go.Proofs.Ytfaiogajaaclcaa
open Go.RowKit

set_option maxHeartbeats 400000 in
theorem floor_any (a b : Int) (w : World) (hb : 1 ≤ b) (hb' : b ≤ 4000000000000000000) (ha : -4000000000000000000 ≤ a) (ha' : a ≤ 4000000000000000000):
    Calls Try.prog 78 #[.int .i64 a, .int .i64 b] w fun e w' => e = .returned (.int .i64 (a / b)) ∧ w' = w := by
  have F := Lib.hid (floor_eq a b hb)
  obtain ⟨hq1, hq2⟩ := tdiv_bd a b _ ha ha'
  go_enter Try.func78, Try.ntmps78
  go_wp2
  all_goals
    go_ret
    refine ⟨?_, rfl⟩
  · rw [F.out, if_pos (by assumption)]; rfl
  · rw [F.out, if_neg (by omega)]; rfl
set_option maxHeartbeats 400000 in
theorem ceil_any (a b : Int) (w : World) (hb : 1 ≤ b) (hb' : b ≤ 4000000000000000000) (ha : -4000000000000000000 ≤ a) (ha' : a ≤ 4000000000000000000):
    Calls Try.prog 84 #[.int .i64 a, .int .i64 b] w fun e w' => e = .returned (.int .i64 (-(-a / b))) ∧ w' = w := by
  obtain ⟨hq1, hq2⟩ := ediv_bd (-a) b 4000000000000000000 (by omega) hb (by omega) (by omega)
  go_enter Try.func84, Try.ntmps84
  go_wp2_with (go_at_call 78; refine (floor_any _ _ _ (by omega) (by omega) (by omega) (by omega)).mono ?_; rintro e w' ⟨rfl, rfl⟩)
  go_ret
  exact ⟨rfl, rfl⟩
set_option maxHeartbeats 400000 in
theorem up_any (a b : Int) (w : World) (hb : 1 ≤ b) (hb' : b ≤ 4000000000000000000) (ha : -4000000000000000000 ≤ a) (ha' : a ≤ 4000000000000000000):
    Calls Try.prog 68 #[.agg #[.int .i64 a, .int .i64 b]] w fun e w' => e = .returned (.int .i64 (-(-a / b))) ∧ Below w.heap.size w w' := by
  go_enter Try.func68, Try.ntmps68
  go_wp2_with (go_at_call 84; refine (ceil_any _ _ _ (by omega) (by omega) (by omega) (by omega)).mono ?_; rintro e w' ⟨rfl, rfl⟩)
  go_ret
  exact ⟨rfl, (Below.refl _ _).alloc (Nat.le_refl _) _⟩

/-- knots, the one before the first at hand -/
def axFrom : Option Int → List Int → Bool
  | _, [] => true
  | p, x :: xs => wB x (-1000000) 1000000 && (match p with | none => true | some y => wB (x - y) 1 10000) && axFrom (some x) xs
def axB (l : List Int) : Bool := wB l.length 2 12 && axFrom none l
def prev (l : List Int) (k : Nat) : Option Int := if k = 0 then none else some (l[k - 1]?.getD 0)
theorem axFrom_drop (l : List Int) (k : Nat) (h : k < l.length) : axFrom (prev l k) (l.drop k) = (wB (l[k]?.getD 0) (-1000000) 1000000 && (if k = 0 then true else wB (l[k]?.getD 0 - l[k-1]?.getD 0) 1 10000) && axFrom (prev l (k + 1)) (l.drop (k + 1))) := by
  rw [List.drop_eq_getElem_cons h]
  have e : l[k]?.getD 0 = l[k] := by simp [h]
  by_cases hk : k = 0
  · subst hk; simp [prev, e, axFrom]
  · simp [prev, hk, e, axFrom]
theorem wB_iff {a b c : Int} : wB a b c = true ↔ b ≤ a ∧ a ≤ c := by simp [wB]
theorem wB_not {a b c : Int} : wB a b c = false ↔ ¬ (b ≤ a ∧ a ≤ c) := by simp [wB]
set_option maxHeartbeats 1000000 in
theorem axis_any (A : Option Addr) (l : List Int) (c : Nat) (w : World) (hl : l.length ≤ 4611686018427387904) (hA : Ints w A l) :
    Calls Try.prog 76 #[.slice A l.length c] w fun e w' => e = .returned (.bool (axB l)) ∧ w' = w := by
  by_cases hw : wB l.length 2 12 = true
  · have E := Lib.hid hw
    obtain ⟨h2, h12⟩ := wB_iff.1 hw
    have R : Hid (axB l = axFrom none l) := by unfold Hid axB; rw [hw]; rfl
    obtain ⟨b, off, rfl, hbl, hc⟩ := hA (by omega)
    have HC := Lib.hid hc
    clear hw hc hA
    go_enter Try.func76, Try.ntmps76
    go_wp2_with (go_at_call 71; refine (within_any _ _ _ _).mono ?_; rintro e w' ⟨rfl, rfl⟩; rw [E.out])
    go_loop [3, 4, 11] (fun _ _ i => ∃ k : Nat, k ≤ l.length ∧ i = .int .i64 k ∧ axFrom (prev l k) (l.drop k) = axFrom none l ∧ (0 < k → -1000000 ≤ l[k-1]?.getD 0 ∧ l[k-1]?.getD 0 ≤ 1000000)) (fun _ _ i => l.length - (intOf i).toNat)
    case atStart => exact ⟨0, by omega, rfl, by simp [prev], by omega⟩
    case round =>
      obtain ⟨k, hk, rfl, hp, hbd⟩ := hrel
      have HP := Lib.hid hp
      have HB := Lib.hid hbd
      clear hp hbd
      by_cases hlt : k < l.length
      · have hd := Lib.hid (axFrom_drop l k hlt)
        have h1 := HC.out k hlt
        generalize hx : l[k]?.getD 0 = x at h1
        have HX := Lib.hid hx
        clear hx
        by_cases hv : wB x (-1000000) 1000000 = true
        · have hvb := wB_iff.1 hv
          have HV := Lib.hid hv
          clear hv
          by_cases hk0 : k = 0
          · subst hk0
            simp only [Nat.add_zero] at h1
            go_wp2_with (go_at_call 71; refine (within_any _ _ _ _).mono ?_; rintro e w' ⟨rfl, rfl⟩; rw [HV.out])
            go_round
            case rel => exact ⟨1, by omega, by go_num, by rw [← HP.out, hd.out, HX.out, HV.out]; simp, fun _ => by simpa [HX.out] using hvb⟩
            case measure => simp [intOf]; omega
          · obtain ⟨j, rfl⟩ : ∃ j, k = j + 1 := ⟨k - 1, by omega⟩
            have h3 := HC.out j (by omega)
            have hyb := HB.out (by omega)
            simp only [Nat.add_sub_cancel] at hyb
            generalize hy : l[j]?.getD 0 = y at h3 hyb
            have HY := Lib.hid hy
            clear hy hk0
            have hj0 : (0 : Int) < (j : Int) + 1 := by omega
            by_cases hv2 : wB (x - y) 1 10000 = true
            · have HV2 := Lib.hid hv2
              clear hv2
              go_wp2_with (go_at_call 71; refine (within_any _ _ _ _).mono ?_; rintro e w' ⟨rfl, rfl⟩; first | rw [HV.out] | rw [HV2.out])
              go_round
              case rel => exact ⟨j + 1 + 1, by omega, by go_num, by rw [← HP.out, hd.out, HX.out, HV.out]; simp [HY.out, HV2.out], fun _ => by simpa [HX.out] using hvb⟩
              case measure => simp [intOf]; omega
            · have hv3 : wB (x - y) 1 10000 = false := by simpa using hv2
              have HV2 := Lib.hid hv3
              clear hv2 hv3
              go_wp2_with (go_at_call 71; refine (within_any _ _ _ _).mono ?_; rintro e w' ⟨rfl, rfl⟩; first | rw [HV.out] | rw [HV2.out])
              go_ret
              exact ⟨by rw [R.out, ← HP.out, hd.out, HX.out, HV.out]; simp [HY.out, HV2.out], rfl⟩
        · have hv3 : wB x (-1000000) 1000000 = false := by simpa using hv
          have HV := Lib.hid hv3
          clear hv hv3
          go_wp2_with (go_at_call 71; refine (within_any _ _ _ _).mono ?_; rintro e w' ⟨rfl, rfl⟩; rw [HV.out])
          go_ret
          exact ⟨by rw [R.out, ← HP.out, hd.out, HX.out, HV.out]; simp, rfl⟩
      · go_wp2
        go_ret
        exact ⟨by rw [R.out, ← HP.out, List.drop_eq_nil_of_le (by omega)]; simp [axFrom], rfl⟩
  · have hw' : wB l.length 2 12 = false := by simpa using hw
    have E := Lib.hid hw'
    have R : Hid (axB l = false) := by unfold Hid axB; rw [hw']; rfl
    clear hw hw' hA
    go_enter Try.func76, Try.ntmps76
    go_wp2_with (go_at_call 71; refine (within_any _ _ _ _).mono ?_; rintro e w' ⟨rfl, rfl⟩; rw [E.out])
    go_ret
    exact ⟨by rw [R.out]; rfl, rfl⟩
end Go.Proofs.Ytfaiogajaaclcaa
