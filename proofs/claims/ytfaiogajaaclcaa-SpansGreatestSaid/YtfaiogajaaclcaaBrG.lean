/- Old contracts as abstract ones: tables. -/
import Derived.Test.YtfaiogajaaclcaaBr
import Derived.Test.YtfaiogajaaclcaaGrt
import Derived.Test.YtfaiogajaaclcaaWorks
import Derived.Test.YtfaiogajaaclcaaTref2
namespace Go.Proofs.Ytfaiogajaaclcaa
open Go.RowKit Lift

theorem works_ac : AC Try.prog 19 [] [] [] (dB true) :=
  ac_of_calls ⟨Try.f19, Try.func19, by decide, rfl⟩ (fun _ _ _ => .val _) fun w vs β Z hs hr => by
    obtain rfl : vs = #[] := Array.size_eq_zero_iff.1 (by simpa using hs)
    exact works_any w
section
variable {xs ys : List Int} {vs : List (List Int)}
theorem far_ac (hS : TSm xs ys vs) : AC Try.prog 17 [tabD xs ys vs] [] [] (dB (farB xs ys vs)) :=
  ac_of_calls ⟨Try.f17, Try.func17, by decide, rfl⟩ (fun _ _ _ => .val _) fun w us β Z hs hr => by
    obtain ⟨X, Y, V, cx, cy, cv, e, hR⟩ := rep_tab (hr 0 (by simp))
    rw [args1 hs, e]
    exact far_any xs ys vs X Y V cx cy cv w hS hR
theorem rcheckTable_ac (hS : TSm xs ys vs) : AC Try.prog 18 [tabD xs ys vs] [] [] (dI (tabErr xs ys vs)) :=
  ac_of_calls ⟨Try.f18, Try.func18, by decide, rfl⟩ (fun _ _ _ => .val _) fun w us β Z hs hr => by
    obtain ⟨X, Y, V, cx, cy, cv, e, hR⟩ := rep_tab (hr 0 (by simp))
    rw [args1 hs, e]
    exact rcheckTable_any xs ys vs X Y V cx cy cv w hS hR
theorem rvalid_ac (x : Int × Int) : AC Try.prog 49 [spD x] [] [] (dB (vB x)) :=
  ac_of_calls ⟨Try.f49, Try.func49, by decide, rfl⟩ (fun _ _ _ => .val _) fun w us β Z hs hr => by
    rw [args1 hs, rep_sp (hr 0 (by simp))]
    exact rvalid_any x w
theorem between_ac (l : List Int) (x : Int × Int) (h1 : 1 ≤ l.length) (hl : l.length ≤ 1000000) : AC Try.prog 69 [.list (ints l), spD x] [] [] (dB (liesB l x)) :=
  ac_of_calls ⟨Try.f69, Try.func69, by decide, rfl⟩ (fun _ _ _ => .val _) fun w us β Z hs hr => by
    obtain ⟨A, c, e, hA, _⟩ := rep_ints (hr 0 (by simp))
    rw [args2 hs, e, rep_sp (hr 1 (by simp))]
    exact between_any A l c x.1 x.2 w h1 hl hA
theorem flat_sp (x : Int × Int) (w : World) (β : Bet) (Z : Blk) : Rep w β Z (.agg #[.int .i64 x.1, .int .i64 x.2]) (spD x) :=
  .agg _ _ rfl fun i hi => by
    have : i < 2 := by simpa using hi
    match i, this with
    | 0, _ => exact .val _
    | 1, _ => exact .val _
theorem flat_2 (a b : Int) (w : World) (β : Bet) (Z : Blk) : Rep w β Z (.tuple #[.int .i64 a, .int .i64 b]) (.tup [.val (.int .i64 a), .val (.int .i64 b)]) :=
  .tup _ _ rfl fun i hi => by
    have : i < 2 := by simpa using hi
    match i, this with
    | 0, _ => exact .val _
    | 1, _ => exact .val _
theorem rbnd_ac (x y : Int × Int) (hO : OnT xs ys vs x y) : AC Try.prog 70 [tabD xs ys vs, spD x, spD y] [] [] (spD (bnd xs ys vs x y)) :=
  ac_of_calls ⟨Try.f70, Try.func70, by decide, rfl⟩ (flat_sp _) fun w us β Z hs hr => by
    obtain ⟨X, Y, V, cx, cy, cv, e, hR⟩ := rep_tab (hr 0 (by simp))
    rw [args3 hs, e, rep_sp (hr 1 (by simp)), rep_sp (hr 2 (by simp))]
    exact rbnd_any xs ys vs X Y V cx cy cv x y w hO hR
theorem greatest_ac (y : Int × Int) (limit : Int) (hS : TSz xs ys vs) : AC Try.prog 20 [tabD xs ys vs, spD y, dI limit] [] [] (.tup [dI (grtR xs ys vs y limit).1, dI (grtR xs ys vs y limit).2]) :=
  ac_of_calls ⟨Try.f20, Try.func20, by decide, rfl⟩ (flat_2 _ _) fun w us β Z hs hr => by
    obtain ⟨X, Y, V, cx, cy, cv, e, hR⟩ := rep_tab (hr 0 (by simp))
    rw [args3 hs, e, rep_sp (hr 1 (by simp)), ← (hr 2 (by simp)).val_eq]
    exact greatest_any xs ys vs X Y V cx cy cv y limit w hS hR
end
end Go.Proofs.Ytfaiogajaaclcaa
