/- More aggregates of ints. -/
import Derived.Test.YtfaiogajaaclcaaOpen
namespace Go.Proofs.Ytfaiogajaaclcaa
open Go.RowKit
theorem Try.allArr2 : AllI Try.prog 28 2 := allI_array (n := 2) (m := 1) Try.underlying28 Try.allInt (by kernel_rfl) (by kernel_rfl)
theorem Try.allArr4 : AllI Try.prog 68 4 := allI_array (n := 4) (m := 1) Try.underlying68 Try.allInt (by kernel_rfl) (by kernel_rfl)
theorem Try.allArr6 : AllI Try.prog 60 6 := allI_array (n := 6) (m := 1) Try.underlying60 Try.allInt (by kernel_rfl) (by kernel_rfl)
theorem Try.allPoint : AllI Try.prog 50 2 := allI_struct Try.underlying50 (by kernel_rfl) (fun j hj => by
  match j, hj with
  | 0, _ => exact ⟨0, _, 1, rfl, by decide, by decide, Try.allInt, by kernel_rfl⟩
  | 1, _ => exact ⟨1, _, 1, rfl, by decide, by decide, Try.allInt, by kernel_rfl⟩)
theorem Try.allArea : AllI Try.prog 43 4 := allI_struct Try.underlying43 (by kernel_rfl) (fun j hj => by
  match j, hj with
  | 0, _ => exact ⟨0, _, 2, rfl, by decide, by decide, Try.allSpan, by kernel_rfl⟩
  | 1, _ => exact ⟨0, _, 2, rfl, by decide, by decide, Try.allSpan, by kernel_rfl⟩
  | 2, _ => exact ⟨1, _, 2, rfl, by decide, by decide, Try.allSpan, by kernel_rfl⟩
  | 3, _ => exact ⟨1, _, 2, rfl, by decide, by decide, Try.allSpan, by kernel_rfl⟩)
theorem Try.allPick : AllI Try.prog 62 10 := allI_struct Try.underlying62 (by kernel_rfl) (fun j hj => by
  rcases Nat.lt_or_ge j 4 with h | h
  · exact ⟨0, _, 4, rfl, Nat.zero_le _, by simpa using h, Try.allArea, by kernel_rfl⟩
  · exact ⟨1, _, 6, rfl, by simpa using h, by simpa using hj, Try.allArr6, by kernel_rfl⟩)
end Go.Proofs.Ytfaiogajaaclcaa
