/- What is left of boxes without others, one after the other, has no more points than all there are. No conditions. -/
import Derived.Test.YtfaiogajaaclcaaVol
namespace Go.Proofs.Ytfaiogajaaclcaa

def rst (l : List Bx) (b : Bx) : List Bx := l.flatMap fun a => mnL a b
/-- what is left of x without the boxes of R, the last one first -/
def leftR : List Bx → Bx → List Bx
  | [], x => [x]
  | b :: R, x => rst (leftR R x) b
theorem mnGo_ln (b : Bx) : ∀ (n : Nat) (l : Bx) (d : Nat), ∀ x ∈ mnGo b n l d, x.length = l.length
  | 0, _, _ => by simp [mnGo]
  | n + 1, l, d => by
    intro x hx
    unfold mnGo at hx
    have hc : ∀ y, x ∈ cut1 l d y → x.length = l.length := by
      intro y hy
      unfold cut1 at hy
      split at hy
      · simp at hy
      · simp at hy; subst hy; simp
    simp only [List.mem_append] at hx
    rcases hx with (hx | hx) | hx
    · exact hc _ hx
    · exact hc _ hx
    · split at hx
      · simp at hx
      · have := mnGo_ln b n _ _ x hx
        simpa using this
theorem rst_mem {l : List Bx} {b x : Bx} (h : x ∈ rst l b) : ∃ a ∈ l, x ∈ mnL a b := by simpa [rst] using h
theorem leftR_len {n : Nat} : ∀ (R : List Bx) (x : Bx), x.length = n → ∀ y ∈ leftR R x, y.length = n
  | [], x, h, y, hy => by simp [leftR] at hy; subst hy; exact h
  | b :: R, x, h, y, hy => by
    obtain ⟨a, ha, hm⟩ := rst_mem hy
    have := leftR_len R x h a ha
    rw [mnGo_ln b _ a 0 y hm, this]
theorem leftR_ok : ∀ (R : List Bx) (x : Bx), OkB x → ∀ y ∈ leftR R x, OkB y
  | [], x, h, y, hy => by simp [leftR] at hy; subst hy; exact h
  | b :: R, x, h, y, hy => by
    obtain ⟨a, ha, hm⟩ := rst_mem hy
    exact mnL_ok a b (leftR_ok R x h a ha) y hm
theorem sumV_rst (b c : Bx) (hb : OkB b) (hc : c.length = b.length) : ∀ (l : List Bx), (∀ y ∈ l, y.length = b.length) → sumV c (rst l b) = sumV c l - sumV (cap2 b c) l
  | [], _ => by simp [rst, sumV]
  | a :: l, h => by
    have ih := sumV_rst b c hb hc l fun y hy => h y (List.mem_cons_of_mem _ hy)
    have ha := h a (List.mem_cons_self ..)
    have e : rst (a :: l) b = mnL a b ++ rst l b := by simp [rst]
    rw [e, sumV_app, ih, mnL_vol a b c hb ha (by omega)]
    simp only [sumV, List.map_cons, List.sum_cons]
    omega
theorem left_dep {n : Nat} : ∀ (R : List Bx) (x x' c c' : Bx), (∀ b ∈ R, OkB b ∧ b.length = n) → x.length = n → x'.length = n → c.length = n → c'.length = n → cap2 x c = cap2 x' c' → sumV c (leftR R x) = sumV c' (leftR R x')
  | [], x, x', c, c', _, _, _, _, _, h => by simp [leftR, sumV, h]
  | b :: R, x, x', c, c', hR, h1, h2, h3, h4, h => by
    obtain ⟨hb, hbl⟩ := hR b (List.mem_cons_self ..)
    have hR' : ∀ b ∈ R, OkB b ∧ b.length = n := fun y hy => hR y (List.mem_cons_of_mem _ hy)
    unfold leftR
    rw [sumV_rst b c hb (by omega) _ (fun y hy => by rw [leftR_len R x h1 y hy, hbl]), sumV_rst b c' hb (by omega) _ (fun y hy => by rw [leftR_len R x' h2 y hy, hbl])]
    rw [left_dep R x x' c c' hR' h1 h2 h3 h4 h]
    have hk : cap2 x (cap2 b c) = cap2 x' (cap2 b c') := by
      rw [cap2_comm b c, cap2_comm b c', ← cap2_assoc, ← cap2_assoc, h]
    rw [left_dep R x x' (cap2 b c) (cap2 b c') hR' h1 h2 (by rw [cap2_len b c (by omega)]; exact hbl) (by rw [cap2_len b c' (by omega)]; exact hbl) hk]
def univ (n : Nat) : Bx := List.replicate n (-1000000, 1000000)
theorem cap_self : ∀ b : Bx, cap2 b b = b
  | [] => rfl
  | x :: b => by
    obtain ⟨u, v⟩ := x
    simp only [cap2, cap_self b, cp1, Int.max_self, Int.min_self]
theorem cap_univ (b : Bx) (h : OkB b) : cap2 b (univ b.length) = b := by
  apply List.ext_getElem?
  intro k
  have hu : (univ b.length).length = b.length := by simp [univ]
  by_cases hk : k < b.length
  · rw [cap2_at b _ k hk hu.symm, List.getElem?_eq_getElem hk, ← at_get b k hk]
    have h1 := h.low k hk
    have h2 := h.le k hk
    have h3 := h.high k hk
    have e1 : lo (univ b.length) k = -1000000 := by simp [lo, univ, hk]
    have e2 : hi (univ b.length) k = 1000000 := by simp [hi, univ, hk]
    unfold cp1 at_
    rw [e1, e2]
    simp only [Option.some.injEq, Prod.mk.injEq]
    omega
  · rw [List.getElem?_eq_none (by rw [cap2_len b _ hu.symm]; omega), List.getElem?_eq_none (by omega)]
theorem sumV_nn (c : Bx) : ∀ l : List Bx, 0 ≤ sumV c l
  | [] => by simp [sumV]
  | y :: l => by
    have := sumV_nn c l
    have := vol_nn (cap2 y c)
    simp only [sumV, List.map_cons, List.sum_cons] at *
    omega
def sumW (l : List Bx) : Int := (l.map vol).sum
theorem sumW_univ {n : Nat} : ∀ l : List Bx, (∀ y ∈ l, OkB y ∧ y.length = n) → sumV (univ n) l = sumW l
  | [], _ => rfl
  | y :: l, h => by
    have ih := sumW_univ l fun x hx => h x (List.mem_cons_of_mem _ hx)
    obtain ⟨h1, h2⟩ := h y (List.mem_cons_self ..)
    have e := cap_univ y h1
    rw [h2] at e
    simp only [sumV, sumW, List.map_cons, List.sum_cons, e] at *
    omega
/-- how many points the first i boxes have, each without those before it -/
def cnt (l : List Bx) : Nat → Int
  | 0 => 0
  | i + 1 => cnt l i + sumW (leftR (l.take i).reverse (l[i]?.getD []))
theorem cnt_all {n : Nat} (l : List Bx) (hl : ∀ b ∈ l, OkB b ∧ b.length = n) : ∀ i, i ≤ l.length → cnt l i + sumV (univ n) (leftR (l.take i).reverse (univ n)) = vol (univ n)
  | 0, _ => by simp [cnt, leftR, sumV, cap_self]
  | i + 1, h => by
    have ih := cnt_all l hl i (by omega)
    have hi : i < l.length := h
    have hul : (univ n).length = n := by simp [univ]
    have hm : l[i]?.getD [] ∈ l := by simp [hi]
    obtain ⟨hb, hbl⟩ := hl _ hm
    have hrev : (l.take (i + 1)).reverse = l[i]?.getD [] :: (l.take i).reverse := by
      rw [← List.take_append_getElem hi]; simp [hi]
    have hR : ∀ b ∈ (l.take i).reverse, OkB b ∧ b.length = n := fun b hb => hl b (List.mem_of_mem_take (List.mem_reverse.1 hb))
    unfold cnt
    rw [hrev]
    generalize l[i]?.getD [] = b at *
    have e0 : leftR (b :: (l.take i).reverse) (univ n) = rst (leftR (l.take i).reverse (univ n)) b := rfl
    rw [e0, sumV_rst b (univ n) hb (by omega) _ (fun y hy => by rw [leftR_len _ _ hul y hy, hbl])]
    have e : sumV (cap2 b (univ n)) (leftR (l.take i).reverse (univ n)) = sumV (univ n) (leftR (l.take i).reverse b) := by
      refine left_dep _ _ _ _ _ hR hul hbl (by rw [cap2_len b _ (by omega)]; exact hbl) hul ?_
      rw [cap2_comm b, ← cap2_assoc, cap_self, cap2_comm]
    rw [e, sumW_univ _ (fun y hy => ⟨leftR_ok _ b hb y hy, leftR_len _ b hbl y hy⟩)]
    omega
theorem vol_univ : ∀ n, n ≤ 3 → vol (univ n) ≤ 8000012000006000001 := by
  intro n hn
  rcases (by omega : n = 0 ∨ n = 1 ∨ n = 2 ∨ n = 3) with rfl | rfl | rfl | rfl <;> decide
theorem cnt_le {n : Nat} (l : List Bx) (hn : n ≤ 3) (hl : ∀ b ∈ l, OkB b ∧ b.length = n) (i : Nat) (hi : i ≤ l.length) : cnt l i ≤ 8000012000006000001 := by
  have h1 := cnt_all l hl i hi
  have h2 := sumV_nn (univ n) (leftR (l.take i).reverse (univ n))
  have h3 := vol_univ n hn
  omega
theorem sumW_nn : ∀ l : List Bx, 0 ≤ sumW l
  | [] => by simp [sumW]
  | y :: l => by
    have := sumW_nn l
    have := vol_nn y
    simp only [sumW, List.map_cons, List.sum_cons] at *
    omega
theorem cnt_nn (l : List Bx) : ∀ i, 0 ≤ cnt l i
  | 0 => by simp [cnt]
  | i + 1 => by
    have := cnt_nn l i
    have := sumW_nn (leftR (l.take i).reverse (l[i]?.getD []))
    unfold cnt; omega
theorem sumW_take_succ (l : List Bx) (k : Nat) (h : k < l.length) : sumW (l.take (k + 1)) = sumW (l.take k) + vol (l[k]?.getD []) := by
  unfold sumW
  rw [← List.take_append_getElem h, List.map_append, List.sum_append]
  simp [h]
theorem sumW_take_le (l : List Bx) (k : Nat) : sumW (l.take k) ≤ sumW l := by
  have h := List.take_append_drop k l
  have : sumW l = sumW (l.take k) + sumW (l.drop k) := by
    unfold sumW
    rw [← List.sum_append, ← List.map_append, h]
  have := sumW_nn (l.drop k)
  omega
end Go.Proofs.Ytfaiogajaaclcaa
