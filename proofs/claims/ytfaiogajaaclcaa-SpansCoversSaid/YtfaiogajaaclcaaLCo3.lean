/- Covers, the reference's. No conditions. -/
import Derived.Test.YtfaiogajaaclcaaLCo2
namespace Go.Proofs.Ytfaiogajaaclcaa
open Go.RowKit Lift

def fst1 (o : Option (List Int)) (r : Bx) : Option (List Int) :=
  match o with
  | none => some (lowsL r)
  | some f => if lex (lowsL r) f < 0 then some (lowsL r) else some f
def fstO (R : List Bx) : Option (List Int) := R.foldl fst1 none
def optD : Option (List Int) → D
  | none => .val (.slice none 0 0)
  | some f => .list (ints f)
def covE (a : Bx) (l : List Bx) : Int := if l.length > 20 then 2 else if boxE a = 0 then chk a.length l else 10
def covO (a : Bx) (l : List Bx) : Option (List Int) := if covE a l = 0 then fstO (leftR l.reverse a) else none
def covB (a : Bx) (l : List Bx) : Bool := if covE a l = 0 then decide (((leftR l.reverse a).length : Int) = 0) else false
theorem fst_take (R : List Bx) (i : Nat) (h : i < R.length) : fstO (R.take (i + 1)) = fst1 (fstO (R.take i)) (R[i]?.getD []) := by
  unfold fstO
  rw [← List.take_append_getElem h, List.foldl_append]
  simp [h]
theorem fst_len {n : Nat} : ∀ (R : List Bx) (o : Option (List Int)), (∀ f, o = some f → f.length = n) → (∀ b ∈ R, b.length = n) → ∀ f, R.foldl fst1 o = some f → f.length = n
  | [], o, ho, _, f, hf => ho f hf
  | b :: R, o, ho, hR, f, hf => by
    refine fst_len R (fst1 o b) (fun g hg => ?_) (fun x hx => hR x (List.mem_cons_of_mem _ hx)) f hf
    have hb := hR b (List.mem_cons_self ..)
    have hl : (lowsL b).length = n := by simpa [lowsL] using hb
    cases o with
    | none => simp only [fst1, Option.some.injEq] at hg; rw [← hg]; exact hl
    | some q =>
      simp only [fst1] at hg
      split at hg
      · simp only [Option.some.injEq] at hg; rw [← hg]; exact hl
      · simp only [Option.some.injEq] at hg; rw [← hg]; exact ho q rfl
theorem fst_some (R : List Bx) (i : Nat) (h0 : 0 < i) (h : i ≤ R.length) : ∃ f, fstO (R.take i) = some f := by
  obtain ⟨k, rfl⟩ := Nat.exists_eq_succ_of_ne_zero (by omega : i ≠ 0)
  rw [Nat.succ_eq_add_one, fst_take R k (by omega)]
  cases fstO (R.take k) with
  | none => exact ⟨_, rfl⟩
  | some f => simp only [fst1]; split <;> exact ⟨_, rfl⟩
end Go.Proofs.Ytfaiogajaaclcaa
