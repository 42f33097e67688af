/- Each point of a box is in another one or in just one part of what is left: in numbers. No conditions. -/
import Derived.Test.YtfaiogajaaclcaaBxs
namespace Go.Proofs.Ytfaiogajaaclcaa

def pv (p : List Int) (k : Nat) : Int := p[k]?.getD 0
def inD (p : List Int) (b : Bx) (k : Nat) : Bool := decide (lo b k ≤ pv p k) && decide (pv p k ≤ hi b k)
def inL (p : List Int) (b : Bx) : Bool := (List.range b.length).all fun k => inD p b k
theorem inL_iff {p : List Int} {b : Bx} : inL p b = true ↔ ∀ k, k < b.length → lo b k ≤ pv p k ∧ pv p k ≤ hi b k := by
  simp [inL, inD, List.all_eq_true]
theorem inL_set {p : List Int} {l : Bx} {d : Nat} {x : Int × Int} (h : d < l.length) : inL p (l.set d x) = true ↔ (∀ k, k < l.length → k ≠ d → lo l k ≤ pv p k ∧ pv p k ≤ hi l k) ∧ x.1 ≤ pv p d ∧ pv p d ≤ x.2 := by
  rw [inL_iff, List.length_set]
  constructor
  · intro hh
    refine ⟨fun k hk hne => ?_, ?_⟩
    · have := hh k hk
      rwa [lo_set_ne _ _ _ _ (Ne.symm hne), hi_set_ne _ _ _ _ (Ne.symm hne)] at this
    · have := hh d h
      obtain ⟨u, v⟩ := x
      rwa [lo_set _ _ _ _ h, hi_set _ _ _ _ h] at this
  · rintro ⟨h1, h2⟩ k hk
    by_cases hkd : k = d
    · subst hkd
      obtain ⟨u, v⟩ := x
      rw [lo_set _ _ _ _ h, hi_set _ _ _ _ h]; exact h2
    · rw [lo_set_ne _ _ _ _ (Ne.symm hkd), hi_set_ne _ _ _ _ (Ne.symm hkd)]
      exact h1 k hk hkd
theorem inL_at {p : List Int} {l : Bx} {d : Nat} (h : d < l.length) : inL p l = true ↔ (∀ k, k < l.length → k ≠ d → lo l k ≤ pv p k ∧ pv p k ≤ hi l k) ∧ lo l d ≤ pv p d ∧ pv p d ≤ hi l d := by
  rw [inL_iff]
  constructor
  · intro hh; exact ⟨fun k hk _ => hh k hk, hh d h⟩
  · rintro ⟨h1, h2⟩ k hk
    by_cases hkd : k = d
    · subst hkd; exact h2
    · exact h1 k hk hkd
/-- one if so, else none -/
def one? (c : Prop) [Decidable c] : Nat := if c then 1 else 0
theorem cut_count {p : List Int} {l : Bx} {d : Nat} {x : Int × Int} : (cut1 l d x).countP (inL p) = if x.1 ≤ x.2 ∧ inL p (l.set d x) = true then 1 else 0 := by
  unfold cut1
  by_cases h : x.1 > x.2
  · rw [if_pos h, if_neg (fun hh => by omega)]; rfl
  · rw [if_neg h]
    by_cases h2 : inL p (l.set d x) = true
    · rw [if_pos ⟨by omega, h2⟩]; simp [h2]
    · rw [if_neg (fun hh => h2 hh.2)]; simp [h2]
open Classical in
theorem mn_count (p : List Int) (b : Bx) (hb : OkB b) : ∀ (n : Nat) (l : Bx) (d : Nat), d + n = l.length → l.length = b.length →
    (mnGo b n l d).countP (inL p) = if inL p l = true ∧ ¬ (∀ k, d ≤ k → k < b.length → lo b k ≤ pv p k ∧ pv p k ≤ hi b k) then 1 else 0
  | 0, l, d, h1, h2 => by
    rw [if_neg]
    · rfl
    · rintro ⟨_, h⟩
      exact h fun k hk1 hk2 => by omega
  | n + 1, l, d, h1, h2 => by
    have hd : d < l.length := by omega
    have hbd := hb.le d (by omega)
    unfold mnGo
    have ih := mn_count p b hb n (l.set d (pMid l b d)) (d + 1) (by rw [List.length_set]; omega) (by rw [List.length_set]; exact h2)
    have hmid : (if (pMid l b d).1 > (pMid l b d).2 then [] else mnGo b n (l.set d (pMid l b d)) (d + 1)).countP (inL p) = if inL p (l.set d (pMid l b d)) = true ∧ ¬ (∀ k, d + 1 ≤ k → k < b.length → lo b k ≤ pv p k ∧ pv p k ≤ hi b k) then 1 else 0 := by
      by_cases hm : (pMid l b d).1 > (pMid l b d).2
      · rw [if_pos hm, if_neg]
        · rfl
        · rintro ⟨h, _⟩
          have := ((inL_set hd).1 h).2
          omega
      · rw [if_neg hm, ih]
    rw [List.countP_append, List.countP_append, cut_count, cut_count, hmid]
    have hrest : (∀ k, d ≤ k → k < b.length → lo b k ≤ pv p k ∧ pv p k ≤ hi b k) ↔ (lo b d ≤ pv p d ∧ pv p d ≤ hi b d) ∧ ∀ k, d + 1 ≤ k → k < b.length → lo b k ≤ pv p k ∧ pv p k ≤ hi b k := by
      constructor
      · intro h; exact ⟨h d (Nat.le_refl _) (by omega), fun k hk hk2 => h k (by omega) hk2⟩
      · rintro ⟨h3, h4⟩ k hk hk2
        by_cases hkd : k = d
        · subst hkd; exact h3
        · exact h4 k (by omega) hk2
    rw [hrest]
    simp only [inL_set hd, inL_at hd]
    by_cases hA : ∀ k, k < l.length → k ≠ d → lo l k ≤ pv p k ∧ pv p k ≤ hi l k
    · by_cases hR : ∀ k, d + 1 ≤ k → k < b.length → lo b k ≤ pv p k ∧ pv p k ≤ hi b k
      · simp only [eq_true hA, eq_true hR, true_and, and_true, not_true_eq_false, and_false, if_false]
        unfold pLow pHigh
        generalize pv p d = x
        generalize lo l d = l0 at *
        generalize hi l d = l1 at *
        generalize lo b d = b0 at *
        generalize hi b d = b1 at *
        simp only
        repeat' split
        all_goals omega
      · simp only [eq_true hA, eq_false hR, true_and, not_false_eq_true, and_true, and_false]
        unfold pLow pHigh pMid
        generalize pv p d = x
        generalize lo l d = l0 at *
        generalize hi l d = l1 at *
        generalize lo b d = b0 at *
        generalize hi b d = b1 at *
        simp only
        repeat' split
        all_goals omega
    · simp only [eq_false hA, false_and, and_false, if_false]
theorem okB_set {l : Bx} {d : Nat} {x : Int × Int} (h : OkB l) (hd : d < l.length) (h1 : -1000000 ≤ x.1) (h2 : x.1 ≤ x.2) (h3 : x.2 ≤ 1000000) : OkB (l.set d x) := by
  obtain ⟨u, v⟩ := x
  have key : ∀ k, k < l.length → -1000000 ≤ lo (l.set d (u, v)) k ∧ lo (l.set d (u, v)) k ≤ hi (l.set d (u, v)) k ∧ hi (l.set d (u, v)) k ≤ 1000000 := fun k hk => by
    by_cases hkd : d = k
    · subst hkd; rw [lo_set _ _ _ _ hd, hi_set _ _ _ _ hd]; exact ⟨h1, h2, h3⟩
    · rw [lo_set_ne _ _ _ _ hkd, hi_set_ne _ _ _ _ hkd]; exact ⟨h.low k hk, h.le k hk, h.high k hk⟩
  exact ⟨by rw [List.length_set]; exact h.pos, by rw [List.length_set]; exact h.len, fun k hk => (key k (by simpa using hk)).1, fun k hk => (key k (by simpa using hk)).2.1, fun k hk => (key k (by simpa using hk)).2.2⟩
theorem okB_E {b : Bx} (h : OkB b) : boxE b = 0 := by
  unfold boxE
  rw [if_pos]
  refine ⟨h.pos, h.len, List.all_eq_true.2 fun x hx => ?_⟩
  obtain ⟨k, hk, rfl⟩ := List.getElem_of_mem hx
  have h1 := h.low k hk
  have h2 := h.le k hk
  have h3 := h.high k hk
  have e1 : lo b k = b[k].1 := by simp [lo, hk]
  have e2 : hi b k = b[k].2 := by simp [hi, hk]
  rw [e1] at h1 h2
  rw [e2] at h2 h3
  simp [okS, h1, h2, h3]
theorem mn_ok (b : Bx) : ∀ (n : Nat) (l : Bx) (d : Nat), d + n = l.length → OkB l → ∀ x ∈ mnGo b n l d, OkB x
  | 0, _, _, _, _ => by simp [mnGo]
  | n + 1, l, d, h1, hl => by
    intro x hx
    have hd : d < l.length := by omega
    have g1 := hl.low d hd
    have g2 := hl.le d hd
    have g3 := hl.high d hd
    unfold mnGo at hx
    simp only [List.mem_append] at hx
    rcases hx with (hx | hx) | hx
    · unfold cut1 at hx
      by_cases hc : (pLow l b d).1 > (pLow l b d).2
      · rw [if_pos hc] at hx; simp at hx
      · rw [if_neg hc] at hx
        have hx' : x = l.set d (pLow l b d) := by simpa using hx
        rw [hx']
        refine okB_set hl hd g1 (by omega) ?_
        show (if lo b d - 1 < hi l d then lo b d - 1 else hi l d) ≤ 1000000
        split <;> omega
    · unfold cut1 at hx
      by_cases hc : (pHigh l b d).1 > (pHigh l b d).2
      · rw [if_pos hc] at hx; simp at hx
      · rw [if_neg hc] at hx
        have hx' : x = l.set d (pHigh l b d) := by simpa using hx
        rw [hx']
        refine okB_set hl hd ?_ (by omega) g3
        show -1000000 ≤ (if hi b d + 1 > lo l d then hi b d + 1 else lo l d)
        split <;> omega
    · split at hx
      · simp at hx
      · rename_i hm
        refine mn_ok b n _ (d + 1) (by rw [List.length_set]; omega) (okB_set hl hd ?_ (by omega) ?_) x hx
        · show -1000000 ≤ (if lo b d > lo l d then lo b d else lo l d)
          split <;> omega
        · show (if hi b d < hi l d then hi b d else hi l d) ≤ 1000000
          split <;> omega
/-- the boxes of what is left -/
theorem lost (p : List Int) (a b : Bx) (ha : OkB a) (hb : OkB b) (hl : a.length = b.length) : (mnL a b).countP (inL p) = if inL p a = true ∧ inL p b = false then 1 else 0 := by
  unfold mnL
  rw [mn_count p b hb _ a 0 (by omega) hl]
  have : (∀ k, 0 ≤ k → k < b.length → lo b k ≤ pv p k ∧ pv p k ≤ hi b k) ↔ inL p b = true := by
    rw [inL_iff]; exact ⟨fun h k hk => h k (Nat.zero_le _) hk, fun h k _ hk => h k hk⟩
  rw [this]
  by_cases h1 : inL p a = true <;> by_cases h2 : inL p b = true <;> simp [h1, h2]
theorem mnL_ok (a b : Bx) (ha : OkB a) : ∀ x ∈ mnL a b, OkB x := mn_ok b _ a 0 (by omega) ha
end Go.Proofs.Ytfaiogajaaclcaa
