/- The contracts of sameInts and sameTable at equal lists. -/
import Derived.Test.YtfaiogajaaclcaaTref2
import Derived.Test.YtfaiogajaaclcaaMeets
namespace Go.Proofs.Ytfaiogajaaclcaa
open Go.RowKit

set_option maxHeartbeats 1000000 in
theorem sameInts_any (l : List Int) (A B : Option Addr) (c d : Nat) (w : World) (hl : l.length ≤ maxLen) (hA : Ints w A l) (hB : Ints w B l) :
    Calls Try.prog 61 #[.slice A l.length c, .slice B l.length d] w fun e w' => e = .returned (.bool true) ∧ ∃ m, w' = w.drewN m := by
  unfold maxLen at hl
  have HAA := Lib.hid hA
  have HBB := Lib.hid hB
  have hne : ((l.length : Int) != (l.length : Int)) = false := by simp
  clear hA hB
  go_enter Try.func61, Try.ntmps61
  go_wp2_with fail
  go_loopw [5] (fun i wr => ∃ k m : Nat, k ≤ l.length ∧ i = .int .i64 k ∧ wr = w.drewN m) (fun i _ => l.length - (intOf i).toNat)
  case atStart => exact ⟨0, 0, by omega, rfl, rfl⟩
  case round =>
    obtain ⟨k, m, hk, rfl, rfl⟩ := hrel
    by_cases hlt : k < l.length
    · obtain ⟨b, off, rfl, hbl, hc⟩ := HAA.out (by omega)
      obtain ⟨b2, off2, rfl, hbl2, hc2⟩ := HBB.out (by omega)
      have h1 := hc k hlt
      have h2 := hc2 k hlt
      generalize l[k]?.getD 0 = x at h1 h2
      have t1 : (k : Int) < (l.length : Int) := by omega
      have t2 : (0 : Int) ≤ (k : Int) := by omega
      have hxx : (x != x) = false := by simp
      clear hc hc2 HAA HBB
      go_wp2_with fail
      go_quiet (fail)
      go_wp2_with fail
      go_roundw
      case rel => exact ⟨k + 1, _, by omega, by go_num, by first | rfl | (simp; rfl)⟩
      case measure => simp [intOf]; omega
    · go_wp2_with fail
      go_ret
      exact ⟨rfl, m, rfl⟩
set_option maxHeartbeats 1000000 in
theorem sameTable_any (xs ys : List Int) (vs : List (List Int)) (X Y V X' Y' V' : Option Addr) (cx cy cv cx' cy' cv' : Nat) (w : World) (hS : TSm xs ys vs)
   (hR : TabR w X Y V cx cy cv xs ys vs) (hR' : TabR w X' Y' V' cx' cy' cv' xs ys vs) :
   Calls Try.prog 33 #[.agg #[.slice X xs.length cx, .slice Y ys.length cy, .slice V vs.length cv], .agg #[.slice X' xs.length cx', .slice Y' ys.length cy', .slice V' vs.length cv']] w
     fun e w' => e = .returned (.bool true) ∧ Below w.heap.size w w' := by
  have HS := Lib.hid hS
  obtain ⟨sx, sy, sv, sr⟩ := hS
  unfold maxLen at sv
  obtain ⟨W0, hW0⟩ : ∃ W0, ((w.alloc (.cells #[.slice X xs.length cx, .slice Y ys.length cy, .slice V vs.length cv] 25)).alloc (.cells #[.slice X' xs.length cx', .slice Y' ys.length cy', .slice V' vs.length cv'] 25)) = W0 := ⟨_, rfl⟩
  have HB : Hid (Below w.heap.size w W0) := by
    unfold Hid; rw [← hW0]
    repeat (first | exact Below.refl _ _ | refine Below.alloc ?_ (by simp <;> omega) _)
  have ha : W0.heap[w.heap.size]? = some (.cells #[.slice X xs.length cx, .slice Y ys.length cy, .slice V vs.length cv] 25) := by
    rw [← hW0]; simp only [heap_alloc_at, World.size_alloc]; repeat (first | rw [if_pos trivial] | rw [if_neg (by omega)])
  have hb : W0.heap[w.heap.size + 1]? = some (.cells #[.slice X' xs.length cx', .slice Y' ys.length cy', .slice V' vs.length cv'] 25) := by
    rw [← hW0]; simp only [heap_alloc_at, World.size_alloc]; repeat (first | rw [if_pos trivial] | rw [if_neg (by omega)])
  obtain ⟨⟨c0, c1, c2⟩, _⟩ := cells3 ha
  obtain ⟨⟨d0, d1, d2⟩, _⟩ := cells3 hb
  have zb := blk_lt hb
  have HR := Lib.hid (hR.below HB.out)
  have HR' := Lib.hid (hR'.below HB.out)
  have HW0 := Lib.hid hW0
  have hne : ((vs.length : Int) != (vs.length : Int)) = false := by simp
  have HSX := Lib.hid sx
  have HSY := Lib.hid sy
  have HSR := Lib.hid sr
  clear hR hR' hW0 ha hb sx sy sr
  go_enter Try.func33, Try.ntmps33
  go_wp2_with fail
  rw [HW0.out]
  refine (sameInts_any xs X X' cx cx' _ HSX.out HR.out.hX HR'.out.hX).mono ?_
  rintro e w1 ⟨rfl, m1, rfl⟩
  go_wp2_with fail
  refine (sameInts_any ys Y Y' cy cy' (W0.drewN m1) HSY.out HR.out.hY HR'.out.hY).mono ?_
  rintro e w1 ⟨rfl, m2, rfl⟩
  go_wp2_with fail
  go_loopw [5] (fun i wr => ∃ k : Nat, k ≤ vs.length ∧ i = .int .i64 k ∧ Below W0.heap.size W0 wr) (fun i _ => vs.length - (intOf i).toNat)
  case atStart => exact ⟨0, by omega, rfl, Below.drewN' (Below.refl _ _) _⟩
  case round =>
    obtain ⟨k, hk, rfl, hbr⟩ := hrel
    obtain ⟨wo, rfl⟩ : ∃ wo : World, wo = wr := ⟨_, rfl⟩
    have HBR := Lib.hid hbr
    replace c2 := cell_b' hbr c2
    replace d2 := cell_b' hbr d2
    clear hbr c0 c1 d0 d1
    by_cases hlt : k < vs.length
    · obtain ⟨b, off, rfl, hbl, hc⟩ := (HR.out.below HBR.out).hV (by omega)
      obtain ⟨b2, off2, rfl, hbl2, hc2⟩ := (HR'.out.below HBR.out).hV (by omega)
      obtain ⟨B1, n1, h1, i1⟩ := hc k hlt
      obtain ⟨B2, n2, h2, i2⟩ := hc2 k hlt
      have hrl : (vs[k]?.getD []).length ≤ maxLen := by
        have : vs[k]?.getD [] = vs[k] := by simp [hlt]
        rw [this]
        exact HSR.out _ (List.getElem_mem hlt)
      generalize vs[k]?.getD [] = r at h1 h2 i1 i2 hrl
      have HQ : Hid (∀ n, Calls Try.prog 61 #[.slice B1 r.length n1, .slice B2 r.length n2] (wo.drewN n) fun e w' => e = .returned (.bool true) ∧ ∃ m, w' = (wo.drewN n).drewN m) := fun n => sameInts_any r B1 B2 n1 n2 _ hrl i1 i2
      have t1 : (k : Int) < (vs.length : Int) := by omega
      have t2 : (0 : Int) ≤ (k : Int) := by omega
      clear hc hc2 i1 i2 hrl
      go_wp2_with fail
      go_quiet ((go_at_call 61; with_reducible exact Calls.quiet_of (HQ.out _)))
      go_wp2_with fail
      go_roundw
      case rel => exact ⟨k + 1, by omega, by go_num, Below.drewN' HBR.out _⟩
      case measure => simp [intOf]; omega
    · go_wp2_with fail
      go_ret
      exact ⟨rfl, HB.out.trans (HBR.out.mono HB.out.size)⟩
end Go.Proofs.Ytfaiogajaaclcaa
