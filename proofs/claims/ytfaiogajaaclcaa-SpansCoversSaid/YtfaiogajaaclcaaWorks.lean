/- The contract of the law's look at an example: works() is true; old memory stays. -/
import Derived.Test.YtfaiogajaaclcaaGrt
namespace Go.Proofs.Ytfaiogajaaclcaa
open Go.RowKit

theorem ints_of_block {w : World} {B : Nat} {cs : Array Value} {t : TypeId} {fz : Nat × Nat} (l : List Int) (h : w.heap[B]? = some (.cells cs t fz)) (hc : cs = (IV l).toArray) : Ints w (some ⟨B, 0, none⟩) l := fun _ => by
  subst hc
  refine ⟨B, 0, rfl, (Array.getElem?_eq_some_iff.1 h).1, fun k hk => ?_⟩
  rw [cell_of_row w B (0 + k) _ _ _ h]
  simp [IV, hk]
def exX : List Int := [0, 10, 20]
def exY : List Int := [0, 5]
def exV : List (List Int) := [[0, 10], [20, 30], [10, 50]]
def ExPost (w : World) (e : Ending) (w' : World) : Prop := ∃ X Y V, e = .returned (.agg #[.slice X 3 3, .slice Y 2 2, .slice V 3 3]) ∧ TabR w' X Y V 3 2 3 exX exY exV ∧ Below w.heap.size w w'
set_option maxHeartbeats 1000000 in
theorem example_any (w : World) : Calls Try.prog 65 #[] w (ExPost w) := by
  go_enter Try.func65, Try.ntmps65
  go_wp2_with fail
  have hx : ∀ (o1 o2 o3 o4 o5 o6 o7 : Obj) (k : Nat), ((((((((w.alloc o1).alloc o2).alloc o3).alloc o4).alloc o5).alloc o6).alloc o7)).heap[w.heap.size + k]? = match k with | 0 => some o1 | 1 => some o2 | 2 => some o3 | 3 => some o4 | 4 => some o5 | 5 => some o6 | 6 => some o7 | _ => none := by
    intro o1 o2 o3 o4 o5 o6 o7 k
    simp only [heap_alloc_at, World.size_alloc]
    match k with
    | 0 =>
      repeat (first | rw [if_pos trivial] | rw [if_pos (by omega)] | rw [if_neg (by omega)])
      rfl
    | 1 =>
      repeat (first | rw [if_pos trivial] | rw [if_pos (by omega)] | rw [if_neg (by omega)])
      rfl
    | 2 =>
      repeat (first | rw [if_pos trivial] | rw [if_pos (by omega)] | rw [if_neg (by omega)])
      rfl
    | 3 =>
      repeat (first | rw [if_pos trivial] | rw [if_pos (by omega)] | rw [if_neg (by omega)])
      rfl
    | 4 =>
      repeat (first | rw [if_pos trivial] | rw [if_pos (by omega)] | rw [if_neg (by omega)])
      rfl
    | 5 =>
      repeat (first | rw [if_pos trivial] | rw [if_pos (by omega)] | rw [if_neg (by omega)])
      rfl
    | 6 =>
      repeat (first | rw [if_pos trivial] | rw [if_pos (by omega)] | rw [if_neg (by omega)])
      rfl
    | k + 7 =>
      repeat (rw [if_neg (by omega)])
      exact Array.getElem?_eq_none (by omega)
  refine bodyPost_ret (v := .agg #[.slice (some ⟨w.heap.size + 1, 0, none⟩) 3 3, .slice (some ⟨w.heap.size + 2, 0, none⟩) 2 2, .slice (some ⟨w.heap.size + 6, 0, none⟩) 3 3]) (by simp [results, Try.results65, go_sem]) rfl ⟨_, _, _, rfl, ⟨?_, ?_, ?_, by decide, by decide⟩, ?_⟩
  · exact ints_of_block exX (hx _ _ _ _ _ _ _ 1) rfl
  · exact ints_of_block exY (hx _ _ _ _ _ _ _ 2) rfl
  · intro _
    refine ⟨_, 0, rfl, by simp, fun k hk => ?_⟩
    match k, hk with
    | 0, _ => exact ⟨some ⟨w.heap.size + 3, 0, none⟩, 2, by rw [cell_of_row _ _ _ _ _ _ (hx _ _ _ _ _ _ _ 6)]; rfl, ints_of_block [0, 10] (hx _ _ _ _ _ _ _ 3) rfl⟩
    | 1, _ => exact ⟨some ⟨w.heap.size + 4, 0, none⟩, 2, by rw [cell_of_row _ _ _ _ _ _ (hx _ _ _ _ _ _ _ 6)]; rfl, ints_of_block [20, 30] (hx _ _ _ _ _ _ _ 4) rfl⟩
    | 2, _ => exact ⟨some ⟨w.heap.size + 5, 0, none⟩, 2, by rw [cell_of_row _ _ _ _ _ _ (hx _ _ _ _ _ _ _ 6)]; rfl, ints_of_block [10, 50] (hx _ _ _ _ _ _ _ 5) rfl⟩
  · repeat (first | exact Below.refl _ _ | refine Below.alloc ?_ (by simp <;> omega) _)
theorem exSz : TSz exX exY exV := ⟨by decide, by decide, by decide, by intro r hr; simp [exV] at hr; rcases hr with rfl | rfl | rfl <;> simp⟩
theorem ex_bound : boundR exX exY exV (5, 15) (0, 5) = ((10, 40), 0) := by decide +kernel
theorem ex_great : grtR exX exY exV (0, 5) 29 = (9, 0) := by decide +kernel
set_option maxHeartbeats 1000000 in
theorem works_any (w : World) : Calls Try.prog 19 #[] w fun e w' => e = .returned (.bool true) ∧ Below w.heap.size w w' := by
  have EB := Lib.hid ex_bound
  have EG := Lib.hid ex_great
  go_enter Try.func19, Try.ntmps19
  go_wp2_with fail
  refine (example_any _).mono ?_
  rintro e w1 ⟨X, Y, V, rfl, hR, hb1⟩
  have HR := Lib.hid hR
  have HB1 := Lib.hid hb1
  clear hR hb1
  go_wp2_with fail
  refine (bound_any exX exY exV X Y V 3 2 3 (5, 15) (0, 5) w1 exSz HR.out).mono ?_
  rintro e w2 ⟨rfl, hb2⟩
  rw [EB.out]
  have HB2 := Lib.hid (HB1.out.trans (hb2.mono HB1.out.size))
  clear hb2
  go_wp2_with fail
  refine (example_any _).mono ?_
  rintro e w3 ⟨X', Y', V', rfl, hR, hb3⟩
  have HR3 := Lib.hid hR
  have c0 : w3.cell? ⟨w2.heap.size, 0, none⟩ = some (.int .i64 10) := (hb3.cell (p := ⟨w2.heap.size, 0, none⟩) (by simp)).trans (by simp)
  have c1 : w3.cell? ⟨w2.heap.size, 1, none⟩ = some (.int .i64 40) := (hb3.cell (p := ⟨w2.heap.size, 1, none⟩) (by simp)).trans (by simp)
  have hz : w2.heap.size < w3.heap.size := by have := hb3.size; simp at this; omega
  have HB3 := Lib.hid ((HB2.out.alloc HB2.out.size _).trans (hb3.mono (by have := HB2.out.size; simp; omega)))
  clear hR hb3
  go_wp2_with fail
  refine (greatest_any exX exY exV X' Y' V' 3 2 3 (0, 5) 29 w3 exSz HR3.out).mono ?_
  rintro e w4 ⟨rfl, hb4⟩
  rw [EG.out]
  have d0 : w4.cell? ⟨w2.heap.size, 0, none⟩ = some (.int .i64 10) := (hb4.cell (p := ⟨w2.heap.size, 0, none⟩) hz).trans c0
  have d1 : w4.cell? ⟨w2.heap.size, 1, none⟩ = some (.int .i64 40) := (hb4.cell (p := ⟨w2.heap.size, 1, none⟩) hz).trans c1
  have HB4 := Lib.hid (HB3.out.trans (hb4.mono HB3.out.size))
  clear hb4 c0 c1
  go_wp2_with fail
  go_ret
  exact ⟨rfl, HB4.out⟩
end Go.Proofs.Ytfaiogajaaclcaa
