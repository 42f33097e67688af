/- works of law01, as a contract on abstract values. No conditions. -/
import Derived.Test.YtfaiogajaaclcaaVals
import Derived.Test.YtfaiogajaaclcaaWorks
namespace Go.Proofs.Ytfaiogajaaclcaa
open Go.RowKit Lift

theorem works_acW : AC Try.prog 19 [] [] [] (dB true) :=
  ac_of_calls ⟨Try.f19, Try.func19, by decide, rfl⟩ (fun _ _ _ => .val _) fun w vs β Z hs hr => by
    obtain rfl : vs = #[] := Array.size_eq_zero_iff.1 (by simpa using hs)
    exact works_any w
end Go.Proofs.Ytfaiogajaaclcaa
