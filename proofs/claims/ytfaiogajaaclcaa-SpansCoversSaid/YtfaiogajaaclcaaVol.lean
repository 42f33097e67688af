/- How many points what is left of boxes has: never more than all. In numbers; no conditions. -/
import Derived.Test.YtfaiogajaaclcaaLostP
namespace Go.Proofs.Ytfaiogajaaclcaa

def wid (x : Int × Int) : Int := if x.1 > x.2 then 0 else x.2 - x.1 + 1
def vol : Bx → Int
  | [] => 1
  | x :: b => wid x * vol b
def cp1 (x y : Int × Int) : Int × Int := (max x.1 y.1, min x.2 y.2)
def cap2 : Bx → Bx → Bx
  | x :: a, y :: b => cp1 x y :: cap2 a b
  | _, _ => []
theorem wid_nn (x : Int × Int) : 0 ≤ wid x := by unfold wid; split <;> omega
theorem vol_nn : ∀ b : Bx, 0 ≤ vol b
  | [] => by simp [vol]
  | x :: b => Int.mul_nonneg (wid_nn x) (vol_nn b)
theorem cp1_comm (x y : Int × Int) : cp1 x y = cp1 y x := by unfold cp1; rw [Int.max_comm, Int.min_comm]
theorem cp1_assoc (x y z : Int × Int) : cp1 (cp1 x y) z = cp1 x (cp1 y z) := by unfold cp1; rw [Int.max_assoc, Int.min_assoc]
theorem cap2_comm : ∀ a b : Bx, cap2 a b = cap2 b a
  | [], [] => rfl
  | [], _ :: _ => rfl
  | _ :: _, [] => rfl
  | x :: a, y :: b => by simp only [cap2, cp1_comm x y, cap2_comm a b]
theorem cap2_assoc : ∀ a b c : Bx, cap2 (cap2 a b) c = cap2 a (cap2 b c)
  | [], _, _ => by simp [cap2]
  | _ :: _, [], _ => by simp [cap2]
  | _ :: _, _ :: _, [] => by simp [cap2]
  | x :: a, y :: b, z :: c => by simp only [cap2, cp1_assoc, cap2_assoc a b c]
theorem cap2_len : ∀ a b : Bx, a.length = b.length → (cap2 a b).length = a.length
  | [], [], _ => rfl
  | [], _ :: _, h => by simp at h
  | _ :: _, [], h => by simp at h
  | x :: a, y :: b, h => by simp only [cap2, List.length_cons]; rw [cap2_len a b (by simpa using h)]
def at_ (b : Bx) (d : Nat) : Int × Int := (lo b d, hi b d)
theorem at_get (b : Bx) (d : Nat) (h : d < b.length) : at_ b d = b[d] := by simp [at_, lo, hi, h]
theorem vol_set : ∀ (l c : Bx) (d : Nat), d < l.length → l.length = c.length → ∃ P : Int, ∀ x, vol (cap2 (l.set d x) c) = P * wid (cp1 x (at_ c d))
  | [], _, _, h, _ => by simp at h
  | _ :: _, [], _, _, h => by simp at h
  | y :: l, z :: c, 0, _, _ => ⟨vol (cap2 l c), fun x => by simp only [List.set_cons_zero, cap2, vol]; rw [Int.mul_comm]; rfl⟩
  | y :: l, z :: c, d + 1, h, h2 => by
    obtain ⟨P, hP⟩ := vol_set l c d (by simpa using h) (by simpa using h2)
    refine ⟨wid (cp1 y z) * P, fun x => ?_⟩
    simp only [List.set_cons_succ, cap2, vol, hP x, Int.mul_assoc]
    rfl
theorem set_at (l : Bx) (d : Nat) (h : d < l.length) : l.set d (at_ l d) = l := by rw [at_get l d h]; exact List.set_getElem_self h
/-- a width falls into the part below, the part above and the part between -/
theorem wid_parts (l0 l1 b0 b1 c0 c1 : Int) (hb : b0 ≤ b1) : wid (cp1 (l0, l1) (c0, c1)) = wid (cp1 (l0, if b0 - 1 < l1 then b0 - 1 else l1) (c0, c1)) + wid (cp1 (if b1 + 1 > l0 then b1 + 1 else l0, l1) (c0, c1)) +
    wid (cp1 (if b0 > l0 then b0 else l0, if b1 < l1 then b1 else l1) (c0, c1)) := by
  unfold wid cp1
  simp only
  repeat' split
  all_goals omega
def sumV (c : Bx) (l : List Bx) : Int := (l.map fun y => vol (cap2 y c)).sum
theorem sumV_app (c : Bx) (a b : List Bx) : sumV c (a ++ b) = sumV c a + sumV c b := by simp [sumV]
theorem sumV_cut (c l : Bx) (d : Nat) (x : Int × Int) (hd : d < l.length) (hl : l.length = c.length) : sumV c (cut1 l d x) = vol (cap2 (l.set d x) c) := by
  unfold cut1
  by_cases h : x.1 > x.2
  · rw [if_pos h]
    obtain ⟨P, hP⟩ := vol_set l c d hd hl
    rw [hP]
    have : wid (cp1 x (at_ c d)) = 0 := by unfold wid cp1; simp only; rw [if_pos (by omega)]
    rw [this]; simp [sumV]
  · rw [if_neg h]; simp [sumV]
/-- the part of l that lies in b from dimension d on -/
def clip (b : Bx) : Nat → Bx → Nat → Bx
  | 0, l, _ => l
  | n + 1, l, d => clip b n (l.set d (pMid l b d)) (d + 1)
theorem clip_len (b : Bx) : ∀ (n : Nat) (l : Bx) (d : Nat), (clip b n l d).length = l.length
  | 0, _, _ => rfl
  | n + 1, l, d => by unfold clip; rw [clip_len b n]; simp
theorem clip_before (b : Bx) : ∀ (n : Nat) (l : Bx) (d k : Nat), k < d → lo (clip b n l d) k = lo l k ∧ hi (clip b n l d) k = hi l k
  | 0, _, _, _, _ => ⟨rfl, rfl⟩
  | n + 1, l, d, k, h => by
    unfold clip
    obtain ⟨h1, h2⟩ := clip_before b n (l.set d (pMid l b d)) (d + 1) k (by omega)
    rw [h1, h2, lo_set_ne _ _ _ _ (by omega), hi_set_ne _ _ _ _ (by omega)]
    exact ⟨rfl, rfl⟩
theorem clip_in (b : Bx) : ∀ (n : Nat) (l : Bx) (d k : Nat), d + n = l.length → d ≤ k → k < l.length → lo (clip b n l d) k = (pMid l b k).1 ∧ hi (clip b n l d) k = (pMid l b k).2
  | 0, _, _, _, _, _, _ => by omega
  | n + 1, l, d, k, h, h1, h2 => by
    unfold clip
    by_cases hk : k = d
    · subst hk
      obtain ⟨h3, h4⟩ := clip_before b n (l.set k (pMid l b k)) (k + 1) k (by omega)
      rw [h3, h4]
      generalize pMid l b k = m
      obtain ⟨u, v⟩ := m
      rw [lo_set _ _ _ _ h2, hi_set _ _ _ _ h2]
      exact ⟨rfl, rfl⟩
    · obtain ⟨h3, h4⟩ := clip_in b n (l.set d (pMid l b d)) (d + 1) k (by rw [List.length_set]; omega) (by omega) (by rw [List.length_set]; exact h2)
      rw [h3, h4]
      unfold pMid
      rw [lo_set_ne _ _ _ _ (Ne.symm hk), hi_set_ne _ _ _ _ (Ne.symm hk)]
      exact ⟨rfl, rfl⟩
theorem cap2_at : ∀ (a b : Bx) (k : Nat), k < a.length → a.length = b.length → (cap2 a b)[k]? = some (cp1 (at_ a k) (at_ b k))
  | [], _, _, h, _ => by simp at h
  | _ :: _, [], _, _, h => by simp at h
  | x :: a, y :: b, 0, _, _ => rfl
  | x :: a, y :: b, k + 1, h, h2 => by
    have := cap2_at a b k (by simpa using h) (by simpa using h2)
    simp only [cap2, List.getElem?_cons_succ]
    rw [this]
    simp [at_, lo, hi]
theorem clip_cap (a b : Bx) (h : a.length = b.length) : clip b a.length a 0 = cap2 a b := by
  apply List.ext_getElem?
  intro k
  by_cases hk : k < a.length
  · rw [cap2_at a b k hk h]
    have hk' : k < (clip b a.length a 0).length := by rw [clip_len]; exact hk
    rw [List.getElem?_eq_getElem hk', ← at_get _ _ hk']
    obtain ⟨h1, h2⟩ := clip_in b a.length a 0 k (by omega) (by omega) hk
    unfold at_
    rw [h1, h2]
    unfold pMid cp1
    simp only [Option.some.injEq, Prod.mk.injEq]
    constructor
    · split <;> omega
    · split <;> omega
  · rw [List.getElem?_eq_none (by rw [clip_len]; omega), List.getElem?_eq_none (by rw [cap2_len a b h]; omega)]
theorem clip_empty (b c : Bx) (n : Nat) (l : Bx) (d : Nat) (hd : d < l.length) (hl : l.length = c.length) (h : lo l d > hi l d) : vol (cap2 (clip b n l (d + 1)) c) = 0 := by
  have hlen : (clip b n l (d + 1)).length = l.length := clip_len ..
  obtain ⟨P, hP⟩ := vol_set (clip b n l (d + 1)) c d (by omega) (by omega)
  have h1 := hP (at_ (clip b n l (d + 1)) d)
  rw [set_at _ _ (by omega)] at h1
  obtain ⟨h2, h3⟩ := clip_before b n l (d + 1) d (by omega)
  have : wid (cp1 (at_ (clip b n l (d + 1)) d) (at_ c d)) = 0 := by
    unfold wid cp1 at_
    rw [h2, h3]
    simp only
    rw [if_pos (by omega)]
  rw [h1, this]; simp
theorem mn_vol (b c : Bx) (hb : ∀ k, k < b.length → lo b k ≤ hi b k) : ∀ (n : Nat) (l : Bx) (d : Nat), d + n = l.length → l.length = b.length → l.length = c.length →
    sumV c (mnGo b n l d) = vol (cap2 l c) - vol (cap2 (clip b n l d) c)
  | 0, l, d, _, _, _ => by simp [mnGo, sumV, clip]
  | n + 1, l, d, h1, h2, h3 => by
    have hd : d < l.length := by omega
    unfold mnGo clip
    rw [sumV_app, sumV_app, sumV_cut c l d _ hd h3, sumV_cut c l d _ hd h3]
    have hrest : sumV c (if (pMid l b d).1 > (pMid l b d).2 then [] else mnGo b n (l.set d (pMid l b d)) (d + 1)) = vol (cap2 (l.set d (pMid l b d)) c) - vol (cap2 (clip b n (l.set d (pMid l b d)) (d + 1)) c) := by
      by_cases hm : (pMid l b d).1 > (pMid l b d).2
      · rw [if_pos hm]
        have hl' : lo (l.set d (pMid l b d)) d > hi (l.set d (pMid l b d)) d := by
          generalize pMid l b d = m at hm
          obtain ⟨u, v⟩ := m
          rw [lo_set _ _ _ _ hd, hi_set _ _ _ _ hd]; exact hm
        rw [clip_empty b c n _ d (by rw [List.length_set]; exact hd) (by rw [List.length_set]; exact h3) hl']
        obtain ⟨P, hP⟩ := vol_set l c d hd h3
        rw [hP]
        have : wid (cp1 (pMid l b d) (at_ c d)) = 0 := by unfold wid cp1; simp only; rw [if_pos (by omega)]
        rw [this]; simp [sumV]
      · rw [if_neg hm]
        exact mn_vol b c hb n _ (d + 1) (by rw [List.length_set]; omega) (by rw [List.length_set]; exact h2) (by rw [List.length_set]; exact h3)
    rw [hrest]
    obtain ⟨P, hP⟩ := vol_set l c d hd h3
    have h0 := hP (at_ l d)
    rw [set_at l d hd] at h0
    rw [h0, hP, hP, hP]
    have hw := wid_parts (lo l d) (hi l d) (lo b d) (hi b d) (lo c d) (hi c d) (hb d (by omega))
    have e : wid (cp1 (at_ l d) (at_ c d)) = wid (cp1 (pLow l b d) (at_ c d)) + wid (cp1 (pHigh l b d) (at_ c d)) + wid (cp1 (pMid l b d) (at_ c d)) := hw
    rw [e, Int.mul_add, Int.mul_add]
    omega
theorem mnL_vol (a b c : Bx) (hb : OkB b) (h1 : a.length = b.length) (h2 : a.length = c.length) : sumV c (mnL a b) = vol (cap2 a c) - vol (cap2 a (cap2 b c)) := by
  unfold mnL
  rw [mn_vol b c hb.le a.length a 0 (by omega) h1 h2, clip_cap a b h1, cap2_assoc]
end Go.Proofs.Ytfaiogajaaclcaa
