/- Texts of the law RecordWears, part 3. No conditions. -/
import Derived.Test.YtdcodicoclecnaaPRecordWears02
import Derived.Test.YtdcodicoclecnaaRows
/- Lists of numbers, rows and spans as abstract values. No conditions. -/
namespace Go.Proofs.Ytdcodicoclecnaa
open Go.RowKit Lift

def dI (n : Int) : D := .val (.int .i64 n)
def dB (b : Bool) : D := .val (.bool b)
def ints (l : List Int) : List (List D) := l.map fun n => [.val (.int .i64 n)]
def rows (l : List (List Int)) : List (List D) := l.map fun r => [.list (ints r)]
theorem ints_len (l : List Int) : (ints l).length = l.length := by simp [ints]
theorem rows_len (l : List (List Int)) : (rows l).length = l.length := by simp [rows]
theorem ints_all (l : List Int) : (ints l).all (fun x => x.length == 1) = true := by simp [ints]
theorem rows_all (l : List (List Int)) : (rows l).all (fun x => x.length == 1) = true := by simp [rows]
def icells (l : List Int) : List D := l.map fun n => .val (.int .i64 n)
def rcells (l : List (List Int)) : List D := l.map fun r => .list (ints r)
theorem ints_flat (l : List Int) : (ints l).flatten = icells l := by
  induction l with
  | nil => rfl
  | cons x l ih => simp [ints, icells] at ih ⊢; exact ih
theorem rows_flat (l : List (List Int)) : (rows l).flatten = rcells l := by
  induction l with
  | nil => rfl
  | cons x l ih => simp [rows, rcells] at ih ⊢; exact ih
theorem icells_leaf (l : List Int) : (icells l).all D.leaf = true := by simp [icells, D.leaf]
theorem icells_in (l : List Int) : ∀ d ∈ icells l, In (fun _ => False) d := by
  intro d hd; obtain ⟨x, _, rfl⟩ := List.mem_map.1 hd; exact .val _
theorem rcells_in (l : List (List Int)) : ∀ d ∈ rcells l, In (fun _ => False) d := by
  intro d hd; obtain ⟨x, _, rfl⟩ := List.mem_map.1 hd; exact .list _
theorem icells_len (l : List Int) : (icells l).length = l.length := by simp [icells]
theorem rcells_len (l : List (List Int)) : (rcells l).length = l.length := by simp [rcells]
theorem ints_one (l : List Int) : ∀ e ∈ ints l, e.length = 1 := by simp [ints]
theorem rows_one (l : List (List Int)) : ∀ e ∈ rows l, e.length = 1 := by simp [rows]
theorem ints_gd (l : List Int) (k : Nat) (h : k < l.length) : (ints l)[k]? = some [.val (.int .i64 (l[k]?.getD 0))] := by simp [ints, h]
theorem rows_gd (l : List (List Int)) (k : Nat) (h : k < l.length) : (rows l)[k]? = some [.list (ints (l[k]?.getD []))] := by simp [rows, h]
end Go.Proofs.Ytdcodicoclecnaa
/- Turning points, cycles and damage, in numbers. No conditions. -/
namespace Go.Proofs.Ytdcodicoclecnaa
open Go.RowKit Lift

def wg (l : List Int) (i : Nat) : Int := l[i]?.getD 0
theorem wg_app1 (a b : List Int) (i : Nat) (h : i < a.length) : wg (a ++ b) i = wg a i := by simp [wg, List.getElem?_append_left h]
theorem wg_app2 (a b : List Int) (i : Nat) (h : a.length ≤ i) : wg (a ++ b) i = wg b (i - a.length) := by simp [wg, List.getElem?_append_right h]
theorem wg_last (a : List Int) (x : Int) : wg (a ++ [x]) a.length = x := by simp [wg]
def ddN (s : List Int) : Nat → List Int
  | 0 => []
  | i + 1 => if i = 0 ∨ wg s i ≠ wg s (i - 1) then ddN s i ++ [wg s i] else ddN s i
def wtpC (p : List Int) (i : Nat) : Prop := i = 0 ∨ i + 1 = p.length ∨ decide (wg p i > wg p (i - 1)) ≠ decide (wg p (i + 1) > wg p i)
instance (p : List Int) (i : Nat) : Decidable (wtpC p i) := inferInstanceAs (Decidable (_ ∨ _ ∨ _))
def tpN (p : List Int) : Nat → List Int
  | 0 => []
  | i + 1 => if wtpC p i then tpN p i ++ [wg p i] else tpN p i
def tstep (l : List Int) (n : Int) : List Int :=
  if 0 < l.length ∧ wg l (l.length - 1) = n then l
  else if 1 < l.length ∧ decide (wg l (l.length - 1) > wg l (l.length - 2)) = decide (n > wg l (l.length - 1)) then l.set (l.length - 1) n
  else l ++ [n]
def tfold (s : List Int) : Nat → List Int
  | 0 => []
  | i + 1 => tstep (tfold s i) (wg s i)
def wturn (s : List Int) : List Int := tfold s s.length
theorem tpN_app (p : List Int) (n : Int) : ∀ i, i + 1 ≤ p.length → tpN (p ++ [n]) i = tpN p i
  | 0, _ => rfl
  | i + 1, h => by
    have e : wtpC (p ++ [n]) i ↔ wtpC p i := by
      unfold wtpC
      rw [wg_app1 p _ i (by omega), wg_app1 p _ (i - 1) (by omega), wg_app1 p _ (i + 1) (by omega)]
      simp only [List.length_append, List.length_cons, List.length_nil]
      constructor
      · rintro (h1 | h1 | h1)
        · exact .inl h1
        · omega
        · exact .inr (.inr h1)
      · rintro (h1 | h1 | h1)
        · exact .inl h1
        · omega
        · exact .inr (.inr h1)
    simp only [tpN]
    rw [tpN_app p n i (by omega), wg_app1 p _ i (by omega)]
    by_cases hc : wtpC p i
    · rw [if_pos hc, if_pos (e.2 hc)]
    · rw [if_neg hc, if_neg (fun h => hc (e.1 h))]
def TInv (s : List Int) (i : Nat) : Prop := (i = 0 ∧ ddN s i = [] ∧ tfold s i = []) ∨
  ∃ q a, 0 < i ∧ ddN s i = q ++ [a] ∧ a = wg s (i - 1) ∧
    ((q = [] ∧ tfold s i = [a]) ∨ ∃ q' c T b, q = q' ++ [c] ∧ tfold s i = T ++ [b, a] ∧ tpN (q ++ [a]) q.length = T ++ [b] ∧ decide (a > b) = decide (a > c) ∧ a ≠ c)
theorem two_len (T : List Int) (b a : Int) : (T ++ [b, a]).length = T.length + 2 := by simp
theorem two_a (T : List Int) (b a : Int) : wg (T ++ [b, a]) (T.length + 1) = a := by rw [wg_app2 _ _ _ (by omega)]; simp [wg]
theorem two_b (T : List Int) (b a : Int) : wg (T ++ [b, a]) T.length = b := by rw [wg_app2 _ _ _ (by omega)]; simp [wg]
theorem tinv (s : List Int) : ∀ i, TInv s i
  | 0 => .inl ⟨rfl, rfl, rfl⟩
  | i + 1 => by
    rcases tinv s i with ⟨rfl, h1, h2⟩ | ⟨q, a, h0, h1, h2, h3⟩
    · refine .inr ⟨[], wg s 0, by omega, by simp [ddN], rfl, .inl ⟨rfl, ?_⟩⟩
      simp [tfold, tstep]
    refine .inr ?_
    obtain ⟨n, hn⟩ : ∃ n, wg s i = n := ⟨_, rfl⟩
    by_cases han : a = n
    · have e1 : ddN s (i + 1) = q ++ [a] := by
        simp only [ddN]; rw [if_neg, h1]
        rintro (h | h)
        · omega
        · exact h (by rw [hn, ← h2, han])
      have e2 : tfold s (i + 1) = tfold s i := by
        simp only [tfold]
        rw [hn]
        unfold tstep
        rw [if_pos]
        rcases h3 with ⟨_, h4⟩ | ⟨q', c, T, b, _, h4, _⟩
        · rw [h4]; simp [wg, han]
        · rw [h4, two_len, show T.length + 2 - 1 = T.length + 1 by omega, two_a]; exact ⟨by omega, han⟩
      exact ⟨q, a, by omega, e1, by rw [Nat.add_sub_cancel, hn, han], by rw [e2]; exact h3⟩
    · have e1 : ddN s (i + 1) = (q ++ [a]) ++ [n] := by
        simp only [ddN]; rw [if_pos, h1, hn]
        exact .inr (by rw [hn, ← h2]; exact fun h => han h.symm)
      have hq : tpN ((q ++ [a]) ++ [n]) q.length = tpN (q ++ [a]) q.length := tpN_app _ _ _ (by simp)
      have g1 : wg ((q ++ [a]) ++ [n]) q.length = a := by rw [wg_app1 _ _ _ (by simp), wg_last]
      have g2 : wg ((q ++ [a]) ++ [n]) (q.length + 1) = n := by
        have := wg_last (q ++ [a]) n
        rwa [List.length_append, List.length_singleton] at this
      have hlen : ((q ++ [a]) ++ [n]).length = q.length + 2 := by simp
      have hu : tpN ((q ++ [a]) ++ [n]) (q ++ [a]).length = if wtpC ((q ++ [a]) ++ [n]) q.length then tpN (q ++ [a]) q.length ++ [a] else tpN (q ++ [a]) q.length := by
        rw [List.length_append, List.length_singleton]; simp only [tpN]; rw [hq, g1]
      refine ⟨q ++ [a], n, by omega, e1, by rw [Nat.add_sub_cancel, hn], .inr ?_⟩
      rcases h3 with ⟨rfl, h4⟩ | ⟨q', c, T, b, h5, h4, h6, h7, h8⟩
      · refine ⟨[], a, [], a, rfl, ?_, ?_, rfl, fun h => han h.symm⟩
        · simp only [tfold]; rw [hn, h4]
          unfold tstep
          rw [if_neg (by simp [wg, han]), if_neg (by simp)]; rfl
        · rw [hu, if_pos (.inl rfl)]; rfl
      · have g3 : wg ((q ++ [a]) ++ [n]) (q.length - 1) = c := by
          subst h5
          rw [wg_app1 _ _ _ (by simp), wg_app1 _ _ _ (by simp), List.length_append, List.length_singleton, Nat.add_sub_cancel, wg_last]
        have hq1 : 0 < q.length := by subst h5; simp
        have hst : tfold s (i + 1) = if decide (a > b) = decide (n > a) then T ++ [b, n] else T ++ [b, a] ++ [n] := by
          simp only [tfold]; rw [hn, h4]
          unfold tstep
          rw [two_len, show T.length + 2 - 1 = T.length + 1 by omega, show T.length + 2 - 2 = T.length by omega, two_a, two_b, if_neg (by simp [han])]
          by_cases hd : decide (a > b) = decide (n > a)
          · rw [if_pos ⟨by omega, hd⟩, if_pos hd, List.set_append_right _ _ (by omega), show T.length + 1 - T.length = 1 by omega]; rfl
          · rw [if_neg (fun h => hd h.2), if_neg hd]
        have hC : wtpC ((q ++ [a]) ++ [n]) q.length ↔ ¬ decide (a > b) = decide (n > a) := by
          unfold wtpC
          rw [g1, g2, g3, hlen, h7]
          constructor
          · rintro (h | h | h)
            · omega
            · omega
            · exact h
          · exact fun h => .inr (.inr h)
        by_cases hd : decide (a > b) = decide (n > a)
        · refine ⟨q, a, T, b, rfl, by rw [hst, if_pos hd], ?_, ?_, fun h => han h.symm⟩
          · rw [hu, if_neg (fun h => hC.1 h hd), h6]
          · by_cases hna : n > a
            · have hx : a > b := of_decide_eq_true (hd.trans (decide_eq_true hna))
              rw [decide_eq_true hna, decide_eq_true (by omega)]
            · have hx : ¬ a > b := of_decide_eq_false (hd.trans (decide_eq_false hna))
              rw [decide_eq_false hna, decide_eq_false (by omega)]
        · refine ⟨q, a, T ++ [b], a, rfl, by rw [hst, if_neg hd]; simp, ?_, rfl, fun h => han h.symm⟩
          rw [hu, if_pos (hC.2 hd), h6]
theorem wturn_eq (s : List Int) : wturn s = tpN (ddN s s.length) (ddN s s.length).length := by
  unfold wturn
  rcases tinv s s.length with ⟨h0, h1, h2⟩ | ⟨q, a, h0, h1, h2, h3⟩
  · rw [h2, h1]; rfl
  · rw [h1]
    have e : tpN (q ++ [a]) (q ++ [a]).length = tpN (q ++ [a]) q.length ++ [a] := by
      rw [List.length_append, List.length_singleton]
      simp only [tpN]
      rw [if_pos (.inr (.inl (by simp))), wg_last]
    rw [e]
    rcases h3 with ⟨rfl, h4⟩ | ⟨q', c, T, b, h5, h4, h6, _, _⟩
    · rw [h4]; rfl
    · rw [h4, h6]; simp
theorem tstep_len (l : List Int) (n : Int) : (tstep l n).length ≤ l.length + 1 := by
  unfold tstep; split
  · omega
  · split
    · simp
    · simp
theorem tfold_len (s : List Int) : ∀ i, (tfold s i).length ≤ i
  | 0 => Nat.le_refl _
  | i + 1 => by have := tstep_len (tfold s i) (wg s i); have := tfold_len s i; simp only [tfold]; omega
theorem ddN_len (s : List Int) : ∀ i, (ddN s i).length ≤ i
  | 0 => Nat.le_refl _
  | i + 1 => by
    have := ddN_len s i
    simp only [ddN]; split
    · simp; omega
    · omega
theorem tpN_len (s : List Int) : ∀ i, (tpN s i).length ≤ i
  | 0 => Nat.le_refl _
  | i + 1 => by
    have := tpN_len s i
    simp only [tpN]; split
    · simp; omega
    · omega
def WSm (l : List Int) : Prop := ∀ x ∈ l, -1000000 ≤ x ∧ x ≤ 1000000
theorem WSm.get {l : List Int} (h : WSm l) (i : Nat) : -1000000 ≤ wg l i ∧ wg l i ≤ 1000000 := by
  by_cases hi : i < l.length
  · have := h l[i] (List.getElem_mem hi)
    simpa [wg, hi] using this
  · have : l[i]? = none := List.getElem?_eq_none (by omega)
    simp [wg, this]
theorem WSm.app {a b : List Int} (h : WSm a) (h' : WSm b) : WSm (a ++ b) := fun x hx => (List.mem_append.1 hx).elim (h x) (h' x)
theorem WSm.one {x : Int} (h : -1000000 ≤ x ∧ x ≤ 1000000) : WSm [x] := fun y hy => by rw [List.mem_singleton.1 hy]; exact h
theorem WSm.snoc {a : List Int} {x : Int} (h : WSm a) (h' : -1000000 ≤ x ∧ x ≤ 1000000) : WSm (a ++ [x]) := h.app (.one h')
theorem WSm.nil : WSm [] := fun x hx => by cases hx
theorem ddN_sm {s : List Int} (h : WSm s) : ∀ i, WSm (ddN s i)
  | 0 => .nil
  | i + 1 => by simp only [ddN]; split; exact (ddN_sm h i).snoc (h.get i); exact ddN_sm h i
theorem tpN_sm {s : List Int} (h : WSm s) : ∀ i, WSm (tpN s i)
  | 0 => .nil
  | i + 1 => by simp only [tpN]; split; exact (tpN_sm h i).snoc (h.get i); exact tpN_sm h i
theorem wturn_sm {s : List Int} (h : WSm s) : WSm (wturn s) := by rw [wturn_eq]; exact tpN_sm (ddN_sm h _) _
theorem wturn_len (s : List Int) : (wturn s).length ≤ s.length := tfold_len s _

/-! ### cycles -/
def wdst (a b : Int) : Int := if b - a > a - b then b - a else a - b
def redL : Nat → List Int → List (Int × Int) × List Int
  | 0, p => ([], p)
  | f + 1, p => if p.length < 3 then ([], p) else
    if wdst (wg p (p.length - 1)) (wg p (p.length - 2)) < wdst (wg p (p.length - 2)) (wg p (p.length - 3)) then ([], p) else
    if p.length = 3 then let r := redL f (p.drop 1); ((wdst (wg p (p.length - 2)) (wg p (p.length - 3)), 1) :: r.1, r.2)
    else let r := redL f (p.take (p.length - 3) ++ [wg p (p.length - 1)]); ((wdst (wg p (p.length - 2)) (wg p (p.length - 3)), 2) :: r.1, r.2)
def wred (p : List Int) : List (Int × Int) × List Int := redL p.length p
theorem redL_fuel : ∀ (f : Nat) (p : List Int), p.length ≤ f → redL f p = wred p := by
  intro f
  induction f using Nat.strongRecOn with
  | ind f ih =>
    intro p hp
    unfold wred
    rcases Nat.eq_or_lt_of_le hp with h | h
    · rw [h]
    · cases f with
      | zero => omega
      | succ f =>
        cases hl : p.length with
        | zero => simp [redL, hl]
        | succ n =>
          simp only [redL]
          split
          · rfl
          · split
            · rfl
            · split
              · rw [ih f (by omega) (p.drop 1) (by simp; omega), ih n (by omega) (p.drop 1) (by simp; omega)]
              · rw [ih f (by omega) _ (by simp; omega), ih n (by omega) _ (by simp; omega)]
theorem wred_short {p : List Int} (h : p.length < 3) : wred p = ([], p) := by
  unfold wred
  cases hl : p.length with
  | zero => rfl
  | succ n => simp only [redL]; rw [if_pos (by omega)]
theorem wred_stop {p : List Int} (h : wdst (wg p (p.length - 1)) (wg p (p.length - 2)) < wdst (wg p (p.length - 2)) (wg p (p.length - 3))) : wred p = ([], p) := by
  unfold wred
  cases hl : p.length with
  | zero => rfl
  | succ n =>
    simp only [redL]
    split
    · rfl
    · first | rfl | rw [if_pos h]
theorem redL_succ (f : Nat) (p : List Int) : redL (f + 1) p = if p.length < 3 then ([], p) else
    if wdst (wg p (p.length - 1)) (wg p (p.length - 2)) < wdst (wg p (p.length - 2)) (wg p (p.length - 3)) then ([], p) else
    if p.length = 3 then ((wdst (wg p (p.length - 2)) (wg p (p.length - 3)), 1) :: (redL f (p.drop 1)).1, (redL f (p.drop 1)).2)
    else ((wdst (wg p (p.length - 2)) (wg p (p.length - 3)), 2) :: (redL f (p.take (p.length - 3) ++ [wg p (p.length - 1)])).1, (redL f (p.take (p.length - 3) ++ [wg p (p.length - 1)])).2) := rfl
theorem wred_three {p : List Int} (h3 : p.length = 3) (h : ¬ wdst (wg p (p.length - 1)) (wg p (p.length - 2)) < wdst (wg p (p.length - 2)) (wg p (p.length - 3))) :
    wred p = ((wdst (wg p (p.length - 2)) (wg p (p.length - 3)), 1) :: (wred (p.drop 1)).1, (wred (p.drop 1)).2) := by
  have e : wred p = redL (2 + 1) p := by unfold wred; rw [h3]
  rw [e, redL_succ, if_neg (by omega), if_neg h, if_pos h3, redL_fuel 2 (p.drop 1) (by simp; omega)]
theorem wred_more {p : List Int} (h3 : 3 < p.length) (h : ¬ wdst (wg p (p.length - 1)) (wg p (p.length - 2)) < wdst (wg p (p.length - 2)) (wg p (p.length - 3))) :
    wred p = ((wdst (wg p (p.length - 2)) (wg p (p.length - 3)), 2) :: (wred (p.take (p.length - 3) ++ [wg p (p.length - 1)])).1, (wred (p.take (p.length - 3) ++ [wg p (p.length - 1)])).2) := by
  obtain ⟨n, hn⟩ : ∃ n, p.length = n + 1 := ⟨p.length - 1, by omega⟩
  have e : wred p = redL (n + 1) p := by unfold wred; rw [hn]
  rw [e, redL_succ, if_neg (by omega), if_neg h, if_neg (by omega), redL_fuel n _ (by simp; omega)]
theorem redL_len : ∀ (f : Nat) (p : List Int), (redL f p).1.length + (redL f p).2.length ≤ p.length
  | 0, p => by simp [redL]
  | f + 1, p => by
    simp only [redL]
    split
    · simp
    · split
      · simp
      · split
        · have := redL_len f (p.drop 1)
          simp only [List.length_cons, List.length_drop] at this ⊢; omega
        · have := redL_len f (p.take (p.length - 3) ++ [wg p (p.length - 1)])
          simp only [List.length_cons, List.length_append, List.length_take, List.length_nil] at this ⊢; omega
theorem wred_len (p : List Int) : (wred p).1.length + (wred p).2.length ≤ p.length := redL_len _ p
theorem WSm.take {l : List Int} (h : WSm l) (n : Nat) : WSm (l.take n) := fun x hx => h x (List.mem_of_mem_take hx)
theorem WSm.drop {l : List Int} (h : WSm l) (n : Nat) : WSm (l.drop n) := fun x hx => h x (List.mem_of_mem_drop hx)
theorem redL_sm : ∀ (f : Nat) (p : List Int), WSm p → WSm (redL f p).2
  | 0, p, h => h
  | f + 1, p, h => by
    simp only [redL]
    split
    · exact h
    · split
      · exact h
      · split
        · exact redL_sm f _ (h.drop 1)
        · exact redL_sm f _ ((h.take _).snoc (h.get _))
def cyP (t : List Int) : Nat → List (Int × Int) × List Int
  | 0 => ([], [])
  | i + 1 => ((cyP t i).1 ++ (wred ((cyP t i).2 ++ [wg t i])).1, (wred ((cyP t i).2 ++ [wg t i])).2)
theorem cyP_len (t : List Int) : ∀ i, (cyP t i).1.length + (cyP t i).2.length ≤ i
  | 0 => Nat.le_refl _
  | i + 1 => by
    have := cyP_len t i
    have := wred_len ((cyP t i).2 ++ [wg t i])
    simp only [cyP, List.length_append, List.length_singleton] at this ⊢; omega
theorem cyP_sm {t : List Int} (h : WSm t) : ∀ i, WSm (cyP t i).2
  | 0 => .nil
  | i + 1 => by simp only [cyP]; exact redL_sm _ _ ((cyP_sm h i).snoc (h.get i))
def rsN (p : List Int) : Nat → List (Int × Int)
  | 0 => []
  | i + 1 => if i = 0 then [] else rsN p i ++ [(wdst (wg p i) (wg p (i - 1)), 1)]
def cyc (t : List Int) : List (Int × Int) := (cyP t t.length).1 ++ rsN (cyP t t.length).2 (cyP t t.length).2.length
theorem rsN_len (p : List Int) : ∀ i, (rsN p i).length ≤ i
  | 0 => Nat.le_refl _
  | i + 1 => by
    have := rsN_len p i
    simp only [rsN]; split
    · simp
    · simp; omega
/-! ### damage -/
def dmg (st : List (Int × Int)) (size : Int) : Nat → Int
  | 0 => 0
  | k + 1 => if (st[k]?.getD (0, 0)).1 ≤ size then (st[k]?.getD (0, 0)).2 else dmg st size k
def dsum (st : List (Int × Int)) (c : List (Int × Int)) : Int := (c.map fun x => x.2 * dmg st x.1 st.length).sum
theorem dsum_app (st a b : List (Int × Int)) : dsum st (a ++ b) = dsum st a + dsum st b := by simp [dsum]
theorem dsum_one (st : List (Int × Int)) (x y : Int) : dsum st [(x, y)] = y * dmg st x st.length := by simp [dsum]
def StOk (st : List (Int × Int)) : Prop := ∀ k, k < st.length → 0 ≤ (st[k]?.getD (0, 0)).2 ∧ (st[k]?.getD (0, 0)).2 ≤ 1000000
theorem dmg_bd {st : List (Int × Int)} (h : StOk st) (size : Int) : ∀ k, k ≤ st.length → 0 ≤ dmg st size k ∧ dmg st size k ≤ 1000000
  | 0, _ => by simp [dmg]
  | k + 1, hk => by
    simp only [dmg]; split
    · exact h k hk
    · exact dmg_bd h size k (by omega)
end Go.Proofs.Ytdcodicoclecnaa
/- The functions' bodies, translated. Written by a program; no conditions. -/
namespace Go.Proofs.Ytdcodicoclecnaa
open Go.RowKit Lift

def cparts_within : ACode :=
 (.seq
 (.region false [⟨some 6, .mv (.const (.bool false)), none, []⟩] [])
 (.seq
 (.region false [⟨some 7, .mv (.tmp 0), none, []⟩,
 ⟨some 8, .mv (.tmp 1), none, []⟩,
 ⟨some 9, .bin .geq (.tmp 7) (.tmp 8), none, []⟩,
 ⟨some 10, .mv (.tmp 9), none, []⟩,
 ⟨some 11, .mv (.tmp 0), (some (some 10, true)), []⟩,
 ⟨some 12, .mv (.tmp 2), (some (some 10, true)), []⟩,
 ⟨some 13, .bin .leq (.tmp 11) (.tmp 12), (some (some 10, true)), []⟩,
 ⟨some 14, .pick (.tmp 10) (.tmp 13) (.const (.bool false)), none, []⟩,
 ⟨some 6, .mv (.tmp 14), none, []⟩] [7, 8, 9, 10, 11, 12, 13, 14])
 .ret))
set_option maxRecDepth 100000 in
theorem kparts_within : IsCode Try.prog 102 15 cparts_within [.tmp 6] :=
 ⟨Try.f102, _, [0, 1, 2, 6], Try.func102, rfl, by decide, rfl, by kernel_rfl, by kernel_rfl⟩
def cparts_amount : ACode :=
 (.seq
 (.region false [⟨some 4, .mv (.const (.int .i64 0)), none, []⟩] [])
 (.seq
 (.region false [⟨some 5, .mv (.tmp 0), none, []⟩,
 ⟨some 6, .mv (.tmp 1), none, []⟩,
 ⟨some 7, .bin .sub (.tmp 5) (.tmp 6), none, []⟩,
 ⟨some 8, .mv (.tmp 1), none, []⟩,
 ⟨some 9, .mv (.tmp 0), none, []⟩,
 ⟨some 10, .bin .sub (.tmp 8) (.tmp 9), none, []⟩,
 ⟨some 11, .mnx true [(.tmp 7), (.tmp 10)], none, []⟩,
 ⟨some 4, .mv (.tmp 11), none, []⟩] [5, 6, 7, 8, 9, 10, 11])
 .ret))
set_option maxRecDepth 100000 in
theorem kparts_amount : IsCode Try.prog 138 12 cparts_amount [.tmp 4] :=
 ⟨Try.f138, _, [0, 1, 4], Try.func138, rfl, by decide, rfl, by kernel_rfl, by kernel_rfl⟩
def cparts_turning : ACode :=
 (.seq
 (.region false [⟨some 2, .mv (.const (.slice none 0 0)), none, []⟩] [])
 (.seq
 (.seq
 (.region false [⟨some 6, .mv (.tmp 0), none, []⟩,
 ⟨some 7, .len_ (.tmp 6), none, []⟩,
 ⟨some 8, .mv (.const (.int .i64 0)), none, []⟩] [])
 (.block 0
 (.loop
 (.seq
 (.region false [⟨some 9, .bin .lss (.tmp 8) (.tmp 7), none, []⟩] [])
 (.seq
 (.cond (.tmp 9)
 .skip
 (.exit 0))
 (.seq
 (.block 1
 (.seq
 (.region false [⟨some 10, .iadS 1 (.tmp 6) (.tmp 8), none, []⟩,
 ⟨some 11, .load1 (.tmp 10), none, []⟩,
 ⟨some 4, .mv (.tmp 11), none, []⟩] [10, 11])
 (.seq
 (.region false [⟨some 12, .mv (.tmp 2), none, []⟩,
 ⟨some 13, .len_ (.tmp 12), none, []⟩,
 ⟨some 5, .mv (.tmp 13), none, []⟩] [12, 13])
 (.block 2
 (.seq
 (.region false [⟨some 19, .mv (.tmp 5), none, []⟩,
 ⟨some 20, .bin .gtr (.tmp 19) (.const (.int .i64 0)), none, []⟩,
 ⟨some 21, .mv (.tmp 20), none, []⟩,
 ⟨some 22, .mv (.tmp 2), (some (some 21, true)), []⟩,
 ⟨some 23, .mv (.tmp 5), (some (some 21, true)), []⟩,
 ⟨some 24, .bin .sub (.tmp 23) (.const (.int .i64 1)), (some (some 21, true)), []⟩,
 ⟨some 25, .iadS 1 (.tmp 22) (.tmp 24), (some (some 21, true)), []⟩,
 ⟨some 26, .load1 (.tmp 25), (some (some 21, true)), []⟩,
 ⟨some 27, .mv (.tmp 4), (some (some 21, true)), []⟩,
 ⟨some 28, .bin .eql (.tmp 26) (.tmp 27), (some (some 21, true)), []⟩,
 ⟨some 29, .pick (.tmp 21) (.tmp 28) (.const (.bool false)), none, []⟩,
 ⟨some 18, .mv (.tmp 29), none, []⟩] [19, 20, 21, 22, 23, 24, 25, 26, 27, 28, 29])
 (.cond (.tmp 18)
 .skip
 (.seq
 (.region true [⟨some 31, .mv (.tmp 5), none, []⟩,
 ⟨some 32, .bin .gtr (.tmp 31) (.const (.int .i64 1)), none, [0]⟩,
 ⟨some 33, .mv (.tmp 32), none, [1, 0]⟩,
 ⟨some 34, .mv (.tmp 2), (some (some 33, true)), [2, 1, 0]⟩,
 ⟨some 35, .mv (.tmp 5), (some (some 33, true)), [2, 1, 0]⟩,
 ⟨some 36, .bin .sub (.tmp 35) (.const (.int .i64 1)), (some (some 33, true)), [4, 2, 1, 0]⟩,
 ⟨some 37, .iadS 1 (.tmp 34) (.tmp 36), (some (some 33, true)), [3, 2, 1, 0, 5, 4]⟩,
 ⟨some 38, .load1 (.tmp 37), (some (some 33, true)), [6, 3, 2, 1, 0, 5, 4]⟩,
 ⟨some 39, .mv (.tmp 2), (some (some 33, true)), [2, 1, 0]⟩,
 ⟨some 40, .mv (.tmp 5), (some (some 33, true)), [2, 1, 0]⟩,
 ⟨some 41, .bin .sub (.tmp 40) (.const (.int .i64 2)), (some (some 33, true)), [9, 2, 1, 0]⟩,
 ⟨some 42, .iadS 1 (.tmp 39) (.tmp 41), (some (some 33, true)), [8, 2, 1, 0, 10, 9]⟩,
 ⟨some 43, .load1 (.tmp 42), (some (some 33, true)), [11, 8, 2, 1, 0, 10, 9]⟩,
 ⟨some 44, .bin .gtr (.tmp 38) (.tmp 43), (some (some 33, true)), [7, 6, 3, 2, 1, 0, 5, 4, 12, 11, 8, 10, 9]⟩,
 ⟨some 45, .mv (.tmp 4), (some (some 33, true)), [2, 1, 0]⟩,
 ⟨some 46, .mv (.tmp 2), (some (some 33, true)), [2, 1, 0]⟩,
 ⟨some 47, .mv (.tmp 5), (some (some 33, true)), [2, 1, 0]⟩,
 ⟨some 48, .bin .sub (.tmp 47) (.const (.int .i64 1)), (some (some 33, true)), [16, 2, 1, 0]⟩,
 ⟨some 49, .iadS 1 (.tmp 46) (.tmp 48), (some (some 33, true)), [15, 2, 1, 0, 17, 16]⟩,
 ⟨some 50, .load1 (.tmp 49), (some (some 33, true)), [18, 15, 2, 1, 0, 17, 16]⟩,
 ⟨some 51, .bin .gtr (.tmp 45) (.tmp 50), (some (some 33, true)), [14, 2, 1, 0, 19, 18, 15, 17, 16]⟩,
 ⟨some 52, .eqb false (.tmp 44) (.tmp 51), (some (some 33, true)), [13, 7, 6, 3, 2, 1, 0, 5, 4, 12, 11, 8, 10, 9, 20, 14, 19, 18, 15, 17, 16]⟩,
 ⟨some 53, .pick (.tmp 33) (.tmp 52) (.const (.bool false)), none, [2, 1, 0, 21, 13, 7, 6, 3, 5, 4, 12, 11, 8, 10, 9, 20, 14, 19, 18, 15, 17, 16]⟩,
 ⟨some 30, .mv (.tmp 53), none, [22, 2, 1, 0, 21, 13, 7, 6, 3, 5, 4, 12, 11, 8, 10, 9, 20, 14, 19, 18, 15, 17, 16]⟩] [31, 32, 33, 34, 35, 36, 37, 38, 39, 40, 41, 42, 43, 44, 45, 46, 47, 48, 49, 50, 51, 52, 53])
 (.cond (.tmp 30)
 (.region false [⟨some 54, .mv (.tmp 2), none, []⟩,
 ⟨some 55, .mv (.tmp 5), none, []⟩,
 ⟨some 56, .bin .sub (.tmp 55) (.const (.int .i64 1)), none, []⟩,
 ⟨some 57, .mv (.tmp 4), none, []⟩,
 ⟨some 58, .iadS 1 (.tmp 54) (.tmp 56), none, []⟩,
 ⟨none, .store 1 (.tmp 58) (.tmp 57), none, []⟩] [54, 55, 56, 57, 58])
 (.region false [⟨some 14, .mv (.tmp 2), none, []⟩,
 ⟨some 15, .mv (.tmp 4), none, []⟩,
 ⟨some 16, .buildSl 1 1 [(.val (.int .i64 0))] [(0, 1, (.tmp 15))], none, []⟩,
 ⟨some 17, .app 1 8 (.tmp 14) (.tmp 16), none, []⟩,
 ⟨some 2, .mv (.tmp 17), none, []⟩] [14, 15, 16, 17])))))))))
 (.region false [⟨some 59, .bin .add (.tmp 8) (.const (.int .i64 1)), none, []⟩,
 ⟨some 8, .mv (.tmp 59), none, []⟩] [59])))))))
 (.seq
 (.region false [⟨some 60, .mv (.tmp 2), none, []⟩,
 ⟨some 2, .mv (.tmp 60), none, []⟩] [60])
 .ret)))
set_option maxRecDepth 100000 in
theorem kparts_turning : IsCode Try.prog 137 61 cparts_turning [.tmp 2] :=
 ⟨Try.f137, _, [30, 18, 9, 0, 8, 7, 6, 2, 5, 4], Try.func137, rfl, by decide, rfl, by kernel_rfl, by kernel_rfl⟩
def cparts_checkSeries_S1 : ACode :=
 (.seq
 (.region false [⟨some 2, .mv (.const (.bool false)), none, []⟩] [])
 (.seq
 (.region false [⟨some 3, .mv (.tmp 0), none, []⟩,
 ⟨some 4, .call (.func 102) [(.tmp 3), (.const (.int .i64 (-1000000))), (.const (.int .i64 1000000))], none, []⟩,
 ⟨some 5, .un .not (.tmp 4), none, []⟩,
 ⟨some 2, .mv (.tmp 5), none, []⟩] [3, 4, 5])
 .ret))
set_option maxRecDepth 100000 in
theorem kparts_checkSeries_S1 : IsCode Try.prog 135 6 cparts_checkSeries_S1 [.tmp 2] :=
 ⟨Try.f135, _, [0, 2], Try.func135, rfl, by decide, rfl, by kernel_rfl, by kernel_rfl⟩
def cparts_checkSeries : ACode :=
 (.seq
 (.region false [⟨some 2, .mv (.const (.int .i64 0)), none, []⟩] [])
 (.seq
 (.seq
 (.region false [⟨some 3, .mv (.tmp 0), none, []⟩,
 ⟨some 4, .len_ (.tmp 3), none, []⟩,
 ⟨some 5, .bin .gtr (.tmp 4) (.const (.int .i64 300)), none, []⟩] [3, 4])
 (.cond (.tmp 5)
 (.seq
 (.region false [⟨some 2, .mv (.const (.int .i64 2)), none, []⟩] [])
 .ret)
 .skip))
 (.seq
 (.seq
 (.region false [⟨some 6, .mv (.tmp 0), none, []⟩,
 ⟨some 7, .call (.func 110) [(.tmp 6), (.func 135)], none, []⟩] [6])
 (.cond (.tmp 7)
 (.seq
 (.region false [⟨some 2, .mv (.const (.int .i64 1)), none, []⟩] [])
 .ret)
 .skip))
 (.seq
 (.region false [⟨some 2, .mv (.const (.int .i64 0)), none, []⟩] [])
 .ret))))
set_option maxRecDepth 100000 in
theorem kparts_checkSeries : IsCode Try.prog 101 8 cparts_checkSeries [.tmp 2] :=
 ⟨Try.f101, _, [7, 5, 0, 2], Try.func101, rfl, by decide, rfl, by kernel_rfl, by kernel_rfl⟩
def cslices_Backward_L_L_J_L2_Jint_K_L2_Jint_J_S1 : ACode :=
 (.seq
 (.region false [⟨some 4, .load1 (.tmp 1), none, []⟩,
 ⟨some 5, .len_ (.tmp 4), none, []⟩,
 ⟨some 6, .bin .sub (.tmp 5) (.const (.int .i64 1)), none, []⟩,
 ⟨some 3, .mv (.tmp 6), none, []⟩] [4, 5, 6])
 (.block 0
 (.loop
 (.seq
 (.seq
 (.region false [⟨some 7, .mv (.tmp 3), none, []⟩,
 ⟨some 8, .bin .geq (.tmp 7) (.const (.int .i64 0)), none, []⟩] [7])
 (.cond (.tmp 8)
 .skip
 (.exit 0)))
 (.seq
 (.block 1
 (.seq
 (.region false [⟨some 11, .mv (.tmp 0), none, []⟩,
 ⟨some 12, .mv (.tmp 3), none, []⟩,
 ⟨some 13, .load1 (.tmp 1), none, []⟩,
 ⟨some 14, .mv (.tmp 3), none, []⟩,
 ⟨some 15, .iadS 2 (.tmp 13) (.tmp 14), none, []⟩,
 ⟨some 16, .loadN 2 (.tmp 15), none, []⟩,
 ⟨some 17, .call (.tmp 11) [(.tmp 12), (.tmp 16)], none, []⟩,
 ⟨some 18, .un .not (.tmp 17), none, []⟩] [11, 12, 13, 14, 15, 16, 17])
 (.cond (.tmp 18)
 .ret
 .skip)))
 (.region false [⟨some 9, .mv (.tmp 3), none, []⟩,
 ⟨some 10, .bin .sub (.tmp 9) (.const (.int .i64 1)), none, []⟩,
 ⟨some 3, .mv (.tmp 10), none, []⟩] [9, 10]))))))
set_option maxRecDepth 100000 in
theorem kslices_Backward_L_L_J_L2_Jint_K_L2_Jint_J_S1 : IsCode Try.prog 140 19 cslices_Backward_L_L_J_L2_Jint_K_L2_Jint_J_S1 [] :=
 ⟨Try.f140, _, [18, 8, 1, 3, 0], Try.func140, rfl, by decide, rfl, by kernel_rfl, by kernel_rfl⟩
def cslices_Backward_L_L_J_L2_Jint_K_L2_Jint_J : ACode :=
 (.seq
 (.region false [⟨some 1, .box (.tmp 0), none, []⟩,
 ⟨some 2, .mv (.const (.nilFunc)), none, []⟩] [])
 (.seq
 (.region false [⟨some 3, .mkfn 140 [] [(.tmp 1)], none, []⟩,
 ⟨some 2, .mv (.tmp 3), none, []⟩] [3])
 .ret))
set_option maxRecDepth 100000 in
theorem kslices_Backward_L_L_J_L2_Jint_K_L2_Jint_J : IsCode Try.prog 104 4 cslices_Backward_L_L_J_L2_Jint_K_L2_Jint_J [.tmp 2] :=
 ⟨Try.f104, _, [0, 1, 2], Try.func104, rfl, by decide, rfl, by kernel_rfl, by kernel_rfl⟩
def cparts_count_S1 : ACode :=
 (.seq
 (.region false [⟨some 3, .mv (.const (.slice none 0 0)), none, []⟩] [])
 (.seq
 (.seq
 (.region false [⟨some 10, .load1 (.tmp 1), none, []⟩,
 ⟨some 11, .call (.func 137) [(.tmp 10)], none, []⟩,
 ⟨some 12, .len_ (.tmp 11), none, []⟩,
 ⟨some 13, .mv (.const (.int .i64 0)), none, []⟩] [10])
 (.block 0
 (.loop
 (.seq
 (.region false [⟨some 14, .bin .lss (.tmp 13) (.tmp 12), none, []⟩] [])
 (.seq
 (.cond (.tmp 14)
 .skip
 (.exit 0))
 (.seq
 (.block 1
 (.seq
 (.region false [⟨some 15, .iadS 1 (.tmp 11) (.tmp 13), none, []⟩,
 ⟨some 16, .load1 (.tmp 15), none, []⟩,
 ⟨some 5, .mv (.tmp 16), none, []⟩] [15, 16])
 (.seq
 (.region false [⟨some 17, .mv (.tmp 3), none, []⟩,
 ⟨some 18, .mv (.tmp 5), none, []⟩,
 ⟨some 19, .buildSl 1 1 [(.val (.int .i64 0))] [(0, 1, (.tmp 18))], none, []⟩,
 ⟨some 20, .app 1 8 (.tmp 17) (.tmp 19), none, []⟩,
 ⟨some 3, .mv (.tmp 20), none, []⟩] [17, 18, 19, 20])
 (.seq
 (.region false [⟨some 21, .mv (.tmp 3), none, []⟩,
 ⟨some 22, .len_ (.tmp 21), none, []⟩,
 ⟨some 6, .mv (.tmp 22), none, []⟩] [21, 22])
 (.block 2
 (.loop
 (.seq
 (.seq
 (.region false [⟨some 23, .mv (.tmp 6), none, []⟩,
 ⟨some 24, .bin .geq (.tmp 23) (.const (.int .i64 3)), none, []⟩] [23])
 (.cond (.tmp 24)
 .skip
 (.exit 2)))
 (.seq
 (.block 3
 (.seq
 (.region true [⟨some 27, .mv (.tmp 3), none, []⟩,
 ⟨some 28, .mv (.tmp 6), none, []⟩,
 ⟨some 29, .bin .sub (.tmp 28) (.const (.int .i64 1)), none, [1]⟩,
 ⟨some 30, .iadS 1 (.tmp 27) (.tmp 29), none, [0, 2, 1]⟩,
 ⟨some 31, .load1 (.tmp 30), none, [3, 0, 2, 1]⟩,
 ⟨some 32, .mv (.tmp 3), none, []⟩,
 ⟨some 33, .mv (.tmp 6), none, []⟩,
 ⟨some 34, .bin .sub (.tmp 33) (.const (.int .i64 2)), none, [6]⟩,
 ⟨some 35, .iadS 1 (.tmp 32) (.tmp 34), none, [5, 7, 6]⟩,
 ⟨some 36, .load1 (.tmp 35), none, [8, 5, 7, 6]⟩,
 ⟨some 37, .call (.func 138) [(.tmp 31), (.tmp 36)], none, [4, 3, 0, 2, 1, 9, 8, 5, 7, 6]⟩,
 ⟨some 38, .mv (.tmp 3), none, []⟩,
 ⟨some 39, .mv (.tmp 6), none, []⟩,
 ⟨some 40, .bin .sub (.tmp 39) (.const (.int .i64 2)), none, [12]⟩,
 ⟨some 41, .iadS 1 (.tmp 38) (.tmp 40), none, [11, 13, 12]⟩,
 ⟨some 42, .load1 (.tmp 41), none, [14, 11, 13, 12]⟩,
 ⟨some 43, .mv (.tmp 3), none, []⟩,
 ⟨some 44, .mv (.tmp 6), none, []⟩,
 ⟨some 45, .bin .sub (.tmp 44) (.const (.int .i64 3)), none, [17]⟩,
 ⟨some 46, .iadS 1 (.tmp 43) (.tmp 45), none, [16, 18, 17]⟩,
 ⟨some 47, .load1 (.tmp 46), none, [19, 16, 18, 17]⟩,
 ⟨some 48, .call (.func 138) [(.tmp 42), (.tmp 47)], none, [15, 14, 11, 13, 12, 20, 19, 16, 18, 17, 10, 4, 3, 0, 2, 1, 9, 8, 5, 7, 6]⟩,
 ⟨some 7, .mv (.tmp 37), none, [10, 4, 3, 0, 2, 1, 9, 8, 5, 7, 6, 21, 15, 14, 11, 13, 12, 20, 19, 16, 18, 17]⟩,
 ⟨some 8, .mv (.tmp 48), none, [21, 15, 14, 11, 13, 12, 20, 19, 16, 18, 17, 10, 4, 3, 0, 2, 1, 9, 8, 5, 7, 6, 22]⟩] [27, 28, 29, 30, 31, 32, 33, 34, 35, 36, 37, 38, 39, 40, 41, 42, 43, 44, 45, 46, 47, 48])
 (.seq
 (.seq
 (.region false [⟨some 49, .mv (.tmp 7), none, []⟩,
 ⟨some 50, .mv (.tmp 8), none, []⟩,
 ⟨some 51, .bin .lss (.tmp 49) (.tmp 50), none, []⟩] [49, 50])
 (.cond (.tmp 51)
 (.exit 2)
 .skip))
 (.seq
 (.seq
 (.region false [⟨some 52, .mv (.tmp 6), none, []⟩,
 ⟨some 53, .bin .eql (.tmp 52) (.const (.int .i64 3)), none, []⟩] [52])
 (.cond (.tmp 53)
 (.seq
 (.seq
 (.region false [⟨some 54, .mv (.tmp 0), none, []⟩,
 ⟨some 55, .mv (.tmp 8), none, []⟩,
 ⟨some 56, .call (.tmp 54) [(.tmp 55), (.const (.int .i64 1))], none, []⟩,
 ⟨some 57, .un .not (.tmp 56), none, []⟩] [54, 55, 56])
 (.cond (.tmp 57)
 .ret
 .skip))
 (.seq
 (.region false [⟨some 58, .mv (.tmp 3), none, []⟩,
 ⟨some 59, .slS 1 (.tmp 58) (some (.const (.int .i64 1))) none, none, []⟩,
 ⟨some 3, .mv (.tmp 59), none, []⟩] [58, 59])
 (.exit 3)))
 .skip))
 (.seq
 (.seq
 (.region false [⟨some 60, .mv (.tmp 0), none, []⟩,
 ⟨some 61, .mv (.tmp 8), none, []⟩,
 ⟨some 62, .call (.tmp 60) [(.tmp 61), (.const (.int .i64 2))], none, []⟩,
 ⟨some 63, .un .not (.tmp 62), none, []⟩] [60, 61, 62])
 (.cond (.tmp 63)
 .ret
 .skip))
 (.region false [⟨some 64, .mv (.tmp 3), none, []⟩,
 ⟨some 65, .mv (.tmp 6), none, []⟩,
 ⟨some 66, .bin .sub (.tmp 65) (.const (.int .i64 3)), none, []⟩,
 ⟨some 67, .mv (.tmp 6), none, []⟩,
 ⟨some 68, .bin .sub (.tmp 67) (.const (.int .i64 1)), none, []⟩,
 ⟨some 69, .call (.func 139) [(.tmp 64), (.tmp 66), (.tmp 68)], none, []⟩,
 ⟨some 3, .mv (.tmp 69), none, []⟩] [64, 65, 66, 67, 68, 69]))))))
 (.region false [⟨some 25, .mv (.tmp 3), none, []⟩,
 ⟨some 26, .len_ (.tmp 25), none, []⟩,
 ⟨some 6, .mv (.tmp 26), none, []⟩] [25, 26])))))))))
 (.region false [⟨some 70, .bin .add (.tmp 13) (.const (.int .i64 1)), none, []⟩,
 ⟨some 13, .mv (.tmp 70), none, []⟩] [70])))))))
 (.seq
 (.region false [⟨some 71, .mv (.tmp 3), none, []⟩,
 ⟨some 72, .len_ (.tmp 71), none, []⟩,
 ⟨some 73, .mv (.const (.int .i64 0)), none, []⟩] [71])
 (.block 4
 (.loop
 (.seq
 (.region false [⟨some 74, .bin .lss (.tmp 73) (.tmp 72), none, []⟩] [])
 (.seq
 (.cond (.tmp 74)
 .skip
 (.exit 4))
 (.seq
 (.block 5
 (.seq
 (.region false [⟨some 75, .mv (.tmp 73), none, []⟩,
 ⟨some 9, .mv (.tmp 75), none, []⟩] [75])
 (.seq
 (.region true [⟨some 76, .mv (.tmp 9), none, []⟩,
 ⟨some 77, .bin .gtr (.tmp 76) (.const (.int .i64 0)), none, [0]⟩,
 ⟨some 78, .mv (.tmp 77), none, [1, 0]⟩,
 ⟨some 79, .mv (.tmp 0), (some (some 78, true)), [2, 1, 0]⟩,
 ⟨some 80, .mv (.tmp 3), (some (some 78, true)), [2, 1, 0]⟩,
 ⟨some 81, .mv (.tmp 9), (some (some 78, true)), [2, 1, 0]⟩,
 ⟨some 82, .iadS 1 (.tmp 80) (.tmp 81), (some (some 78, true)), [4, 2, 1, 0, 5]⟩,
 ⟨some 83, .load1 (.tmp 82), (some (some 78, true)), [6, 4, 2, 1, 0, 5]⟩,
 ⟨some 84, .mv (.tmp 3), (some (some 78, true)), [2, 1, 0]⟩,
 ⟨some 85, .mv (.tmp 9), (some (some 78, true)), [2, 1, 0]⟩,
 ⟨some 86, .bin .sub (.tmp 85) (.const (.int .i64 1)), (some (some 78, true)), [9, 2, 1, 0]⟩,
 ⟨some 87, .iadS 1 (.tmp 84) (.tmp 86), (some (some 78, true)), [8, 2, 1, 0, 10, 9]⟩,
 ⟨some 88, .load1 (.tmp 87), (some (some 78, true)), [11, 8, 2, 1, 0, 10, 9]⟩,
 ⟨some 89, .call (.func 138) [(.tmp 83), (.tmp 88)], (some (some 78, true)), [7, 6, 4, 2, 1, 0, 5, 12, 11, 8, 10, 9]⟩,
 ⟨some 90, .call (.tmp 79) [(.tmp 89), (.const (.int .i64 1))], (some (some 78, true)), [3, 2, 1, 0, 13, 7, 6, 4, 5, 12, 11, 8, 10, 9]⟩,
 ⟨some 91, .un .not (.tmp 90), (some (some 78, true)), [14, 3, 2, 1, 0, 13, 7, 6, 4, 5, 12, 11, 8, 10, 9]⟩,
 ⟨some 92, .pick (.tmp 78) (.tmp 91) (.const (.bool false)), none, [2, 1, 0, 15, 14, 3, 13, 7, 6, 4, 5, 12, 11, 8, 10, 9]⟩] [76, 77, 78, 79, 80, 81, 82, 83, 84, 85, 86, 87, 88, 89, 90, 91])
 (.cond (.tmp 92)
 .ret
 .skip))))
 (.region false [⟨some 93, .bin .add (.tmp 73) (.const (.int .i64 1)), none, []⟩,
 ⟨some 73, .mv (.tmp 93), none, []⟩] [93])))))))))
set_option maxRecDepth 100000 in
theorem kparts_count_S1 : IsCode Try.prog 136 94 cparts_count_S1 [] :=
 ⟨Try.f136, _, [92, 74, 63, 57, 53, 51, 24, 14, 1, 13, 12, 11, 3, 5, 6, 7, 8, 0, 73, 72, 9], Try.func136, rfl, by decide, rfl, by kernel_rfl, by kernel_rfl⟩
def cparts_count : ACode :=
 (.seq
 (.region false [⟨some 1, .box (.tmp 0), none, []⟩,
 ⟨some 2, .mv (.const (.nilFunc)), none, []⟩] [])
 (.seq
 (.region false [⟨some 3, .mkfn 136 [] [(.tmp 1)], none, []⟩,
 ⟨some 2, .mv (.tmp 3), none, []⟩] [3])
 .ret))
set_option maxRecDepth 100000 in
theorem kparts_count : IsCode Try.prog 103 4 cparts_count [.tmp 2] :=
 ⟨Try.f103, _, [0, 1, 2], Try.func103, rfl, by decide, rfl, by kernel_rfl, by kernel_rfl⟩
def cparts_Damage_B100060 : ACode :=
 (.region false [⟨some 12, .mem [(.val (.int .i64 0)), (.val (.int .i64 0))], none, []⟩,
 ⟨none, .store 2 (.tmp 12) (.tmp 61), none, []⟩] [])
def cparts_Damage_B60 : ACode :=
 (.block 5
 (.seq
 (.region false [⟨some 62, .iadA 2 1 (.tmp 12) (.const (.int .i64 0)), none, []⟩,
 ⟨some 63, .load1 (.tmp 62), none, []⟩,
 ⟨some 64, .load1 (.tmp 9), none, []⟩,
 ⟨some 65, .bin .leq (.tmp 63) (.tmp 64), none, []⟩] [62, 63, 64])
 (.cond (.tmp 65)
 (.seq
 (.region false [⟨some 66, .load1 (.tmp 4), none, []⟩,
 ⟨some 67, .load1 (.tmp 10), none, []⟩,
 ⟨some 68, .iadA 2 1 (.tmp 12) (.const (.int .i64 1)), none, []⟩,
 ⟨some 69, .load1 (.tmp 68), none, []⟩,
 ⟨some 70, .bin .mul (.tmp 67) (.tmp 69), none, []⟩,
 ⟨some 71, .bin .add (.tmp 66) (.tmp 70), none, []⟩,
 ⟨none, .store 1 (.tmp 4) (.tmp 71), none, []⟩] [66, 67, 68, 69, 70, 71])
 (.exit 4))
 .skip)))
def cparts_Damage_B100056 : ACode :=
 (.seq
 (.region false [⟨some 9, .mem [(.val (.int .i64 0))], none, []⟩,
 ⟨none, .store 1 (.tmp 9) (.tmp 56), none, []⟩] [])
 (.region false [⟨some 10, .mem [(.val (.int .i64 0))], none, []⟩,
 ⟨none, .store 1 (.tmp 10) (.tmp 57), none, []⟩] []))
def cparts_Damage_B56 : ACode :=
 (.block 3
 (.seq
 (.region false [⟨some 58, .load1 (.tmp 3), none, []⟩,
 ⟨some 59, .call (.func 104) [(.tmp 58)], none, []⟩] [58])
 (.block 4
 (.rangeFuncA (.tmp 59) [60, 61] cparts_Damage_B100060 cparts_Damage_B60))))
def cparts_Damage : ACode :=
 (.seq
 (.region false [⟨some 3, .box (.tmp 1), none, []⟩,
 ⟨some 4, .mem [(.val (.int .i64 0))], none, []⟩,
 ⟨some 5, .mv (.const (.int .i64 0)), none, []⟩] [])
 (.seq
 (.seq
 (.region false [⟨some 13, .mv (.tmp 0), none, []⟩,
 ⟨some 14, .call (.func 101) [(.tmp 13)], none, []⟩,
 ⟨some 6, .mv (.tmp 14), none, []⟩] [13, 14])
 (.seq
 (.region false [⟨some 15, .mv (.tmp 6), none, []⟩,
 ⟨some 16, .bin .neq (.tmp 15) (.const (.int .i64 0)), none, []⟩] [15])
 (.cond (.tmp 16)
 (.seq
 (.region false [⟨some 17, .mv (.tmp 6), none, []⟩,
 ⟨none, .store 1 (.tmp 4) (.const (.int .i64 0)), none, []⟩,
 ⟨some 5, .mv (.tmp 17), none, []⟩] [17])
 .ret)
 .skip)))
 (.seq
 (.seq
 (.region false [⟨some 18, .load1 (.tmp 3), none, []⟩,
 ⟨some 19, .len_ (.tmp 18), none, []⟩,
 ⟨some 20, .bin .gtr (.tmp 19) (.const (.int .i64 8)), none, []⟩] [18, 19])
 (.cond (.tmp 20)
 (.seq
 (.region false [⟨none, .store 1 (.tmp 4) (.const (.int .i64 0)), none, []⟩,
 ⟨some 5, .mv (.const (.int .i64 1)), none, []⟩] [])
 .ret)
 .skip))
 (.seq
 (.seq
 (.region false [⟨some 21, .load1 (.tmp 3), none, []⟩,
 ⟨some 22, .len_ (.tmp 21), none, []⟩,
 ⟨some 23, .mv (.const (.int .i64 0)), none, []⟩] [])
 (.block 0
 (.loop
 (.seq
 (.region false [⟨some 24, .bin .lss (.tmp 23) (.tmp 22), none, []⟩] [])
 (.seq
 (.cond (.tmp 24)
 .skip
 (.exit 0))
 (.seq
 (.block 1
 (.seq
 (.region false [⟨some 25, .mv (.tmp 23), none, []⟩,
 ⟨some 26, .iadS 2 (.tmp 21) (.tmp 23), none, []⟩,
 ⟨some 27, .loadN 2 (.tmp 26), none, []⟩,
 ⟨some 8, .mem [(.val (.int .i64 0)), (.val (.int .i64 0))], none, []⟩,
 ⟨some 7, .mv (.tmp 25), none, []⟩,
 ⟨none, .store 2 (.tmp 8) (.tmp 27), none, []⟩] [25, 26, 27])
 (.seq
 (.region true [⟨some 28, .iadA 2 1 (.tmp 8) (.const (.int .i64 0)), none, []⟩,
 ⟨some 29, .load1 (.tmp 28), none, [0]⟩,
 ⟨some 30, .call (.func 102) [(.tmp 29), (.const (.int .i64 0)), (.const (.int .i64 1000000))], none, [1, 0]⟩,
 ⟨some 31, .un .not (.tmp 30), none, [2, 1, 0]⟩,
 ⟨some 32, .mv (.tmp 31), none, [3, 2, 1, 0]⟩,
 ⟨some 33, .iadA 2 1 (.tmp 8) (.const (.int .i64 1)), (some (some 32, false)), [4, 3, 2, 1, 0]⟩,
 ⟨some 34, .load1 (.tmp 33), (some (some 32, false)), [5, 4, 3, 2, 1, 0]⟩,
 ⟨some 35, .call (.func 102) [(.tmp 34), (.const (.int .i64 0)), (.const (.int .i64 1000000))], (some (some 32, false)), [6, 5, 4, 3, 2, 1, 0]⟩,
 ⟨some 36, .un .not (.tmp 35), (some (some 32, false)), [7, 6, 5, 4, 3, 2, 1, 0]⟩,
 ⟨some 37, .pick (.tmp 32) (.const (.bool true)) (.tmp 36), none, [4, 3, 2, 1, 0, 8, 7, 6, 5]⟩,
 ⟨some 38, .mv (.tmp 37), none, [9, 4, 3, 2, 1, 0, 8, 7, 6, 5]⟩,
 ⟨some 39, .mv (.tmp 7), (some (some 38, false)), [10, 9, 4, 3, 2, 1, 0, 8, 7, 6, 5]⟩,
 ⟨some 40, .bin .gtr (.tmp 39) (.const (.int .i64 0)), (some (some 38, false)), [11, 10, 9, 4, 3, 2, 1, 0, 8, 7, 6, 5]⟩,
 ⟨some 41, .mv (.tmp 40), (some (some 38, false)), [12, 11, 10, 9, 4, 3, 2, 1, 0, 8, 7, 6, 5]⟩,
 ⟨some 42, .iadA 2 1 (.tmp 8) (.const (.int .i64 0)), (some (some 41, true)), [13, 12, 11, 10, 9, 4, 3, 2, 1, 0, 8, 7, 6, 5]⟩,
 ⟨some 43, .load1 (.tmp 42), (some (some 41, true)), [14, 13, 12, 11, 10, 9, 4, 3, 2, 1, 0, 8, 7, 6, 5]⟩,
 ⟨some 44, .load1 (.tmp 3), (some (some 41, true)), [13, 12, 11, 10, 9, 4, 3, 2, 1, 0, 8, 7, 6, 5]⟩,
 ⟨some 45, .mv (.tmp 7), (some (some 41, true)), [13, 12, 11, 10, 9, 4, 3, 2, 1, 0, 8, 7, 6, 5]⟩,
 ⟨some 46, .bin .sub (.tmp 45) (.const (.int .i64 1)), (some (some 41, true)), [17, 13, 12, 11, 10, 9, 4, 3, 2, 1, 0, 8, 7, 6, 5]⟩,
 ⟨some 47, .iadS 2 (.tmp 44) (.tmp 46), (some (some 41, true)), [16, 13, 12, 11, 10, 9, 4, 3, 2, 1, 0, 8, 7, 6, 5, 18, 17]⟩,
 ⟨some 48, .iadA 2 1 (.tmp 47) (.const (.int .i64 0)), (some (some 41, true)), [19, 16, 13, 12, 11, 10, 9, 4, 3, 2, 1, 0, 8, 7, 6, 5, 18, 17]⟩,
 ⟨some 49, .load1 (.tmp 48), (some (some 41, true)), [20, 19, 16, 13, 12, 11, 10, 9, 4, 3, 2, 1, 0, 8, 7, 6, 5, 18, 17]⟩,
 ⟨some 50, .bin .leq (.tmp 43) (.tmp 49), (some (some 41, true)), [15, 14, 13, 12, 11, 10, 9, 4, 3, 2, 1, 0, 8, 7, 6, 5, 21, 20, 19, 16, 18, 17]⟩,
 ⟨some 51, .pick (.tmp 41) (.tmp 50) (.const (.bool false)), (some (some 38, false)), [13, 12, 11, 10, 9, 4, 3, 2, 1, 0, 8, 7, 6, 5, 22, 15, 14, 21, 20, 19, 16, 18, 17]⟩,
 ⟨some 52, .pick (.tmp 38) (.const (.bool true)) (.tmp 51), none, [10, 9, 4, 3, 2, 1, 0, 8, 7, 6, 5, 23, 13, 12, 11, 22, 15, 14, 21, 20, 19, 16, 18, 17]⟩] [28, 29, 30, 31, 32, 33, 34, 35, 36, 37, 38, 39, 40, 41, 42, 43, 44, 45, 46, 47, 48, 49, 50, 51])
 (.cond (.tmp 52)
 (.seq
 (.region false [⟨none, .store 1 (.tmp 4) (.const (.int .i64 0)), none, []⟩,
 ⟨some 5, .mv (.const (.int .i64 1)), none, []⟩] [])
 .ret)
 .skip))))
 (.region false [⟨some 53, .bin .add (.tmp 23) (.const (.int .i64 1)), none, []⟩,
 ⟨some 23, .mv (.tmp 53), none, []⟩] [53])))))))
 (.seq
 (.seq
 (.region false [⟨some 54, .mv (.tmp 0), none, []⟩,
 ⟨some 55, .call (.func 103) [(.tmp 54)], none, []⟩] [54])
 (.block 2
 (.rangeFuncA (.tmp 55) [56, 57] cparts_Damage_B100056 cparts_Damage_B56)))
 (.seq
 (.region false [⟨some 72, .load1 (.tmp 4), none, []⟩,
 ⟨none, .store 1 (.tmp 4) (.tmp 72), none, []⟩,
 ⟨some 5, .mv (.const (.int .i64 0)), none, []⟩] [72])
 .ret))))))
set_option maxRecDepth 100000 in
theorem kparts_Damage : IsCode Try.prog 60 73 cparts_Damage [.cell1 4, .tmp 5] :=
 ⟨Try.f60, _, [65, 60, 61, 59, 56, 57, 55, 52, 24, 20, 16, 1, 0, 6, 4, 3, 23, 22, 21, 8, 7, 12, 9, 10, 5], Try.func60, rfl, by decide, rfl, by kernel_rfl, by kernel_rfl⟩
end Go.Proofs.Ytdcodicoclecnaa
/- The functions' bodies, translated. Written by a program; no conditions. -/
namespace Go.Proofs.Ytdcodicoclecnaa
open Go.RowKit Lift

def cref09_distance : ACode :=
 (.seq
 (.region false [⟨some 4, .mv (.const (.int .i64 0)), none, []⟩] [])
 (.seq
 (.region false [⟨some 5, .mv (.tmp 0), none, []⟩,
 ⟨some 6, .mv (.tmp 1), none, []⟩,
 ⟨some 7, .bin .sub (.tmp 5) (.tmp 6), none, []⟩,
 ⟨some 8, .mv (.tmp 1), none, []⟩,
 ⟨some 9, .mv (.tmp 0), none, []⟩,
 ⟨some 10, .bin .sub (.tmp 8) (.tmp 9), none, []⟩,
 ⟨some 11, .mnx true [(.tmp 7), (.tmp 10)], none, []⟩,
 ⟨some 4, .mv (.tmp 11), none, []⟩] [5, 6, 7, 8, 9, 10, 11])
 .ret))
set_option maxRecDepth 100000 in
theorem kref09_distance : IsCode Try.prog 155 12 cref09_distance [.tmp 4] :=
 ⟨Try.f155, _, [0, 1, 4], Try.func155, rfl, by decide, rfl, by kernel_rfl, by kernel_rfl⟩
def cref09_within : ACode :=
 (.seq
 (.region false [⟨some 6, .mv (.const (.bool false)), none, []⟩] [])
 (.seq
 (.region false [⟨some 7, .mv (.tmp 0), none, []⟩,
 ⟨some 8, .mv (.tmp 1), none, []⟩,
 ⟨some 9, .bin .geq (.tmp 7) (.tmp 8), none, []⟩,
 ⟨some 10, .mv (.tmp 9), none, []⟩,
 ⟨some 11, .mv (.tmp 0), (some (some 10, true)), []⟩,
 ⟨some 12, .mv (.tmp 2), (some (some 10, true)), []⟩,
 ⟨some 13, .bin .leq (.tmp 11) (.tmp 12), (some (some 10, true)), []⟩,
 ⟨some 14, .pick (.tmp 10) (.tmp 13) (.const (.bool false)), none, []⟩,
 ⟨some 6, .mv (.tmp 14), none, []⟩] [7, 8, 9, 10, 11, 12, 13, 14])
 .ret))
set_option maxRecDepth 100000 in
theorem kref09_within : IsCode Try.prog 134 15 cref09_within [.tmp 6] :=
 ⟨Try.f134, _, [0, 1, 2, 6], Try.func134, rfl, by decide, rfl, by kernel_rfl, by kernel_rfl⟩
def cref09_checkSeries : ACode :=
 (.seq
 (.region false [⟨some 2, .mv (.const (.int .i64 0)), none, []⟩] [])
 (.seq
 (.seq
 (.region false [⟨some 4, .mv (.tmp 0), none, []⟩,
 ⟨some 5, .len_ (.tmp 4), none, []⟩,
 ⟨some 6, .bin .gtr (.tmp 5) (.const (.int .i64 300)), none, []⟩] [4, 5])
 (.cond (.tmp 6)
 (.seq
 (.region false [⟨some 2, .mv (.const (.int .i64 2)), none, []⟩] [])
 .ret)
 .skip))
 (.seq
 (.seq
 (.region false [⟨some 3, .mv (.const (.int .i64 0)), none, []⟩] [])
 (.block 0
 (.loop
 (.seq
 (.seq
 (.region false [⟨some 7, .mv (.tmp 3), none, []⟩,
 ⟨some 8, .mv (.tmp 0), none, []⟩,
 ⟨some 9, .len_ (.tmp 8), none, []⟩,
 ⟨some 10, .bin .lss (.tmp 7) (.tmp 9), none, []⟩] [7, 8, 9])
 (.cond (.tmp 10)
 .skip
 (.exit 0)))
 (.seq
 (.block 1
 (.seq
 (.region false [⟨some 13, .mv (.tmp 0), none, []⟩,
 ⟨some 14, .mv (.tmp 3), none, []⟩,
 ⟨some 15, .iadS 1 (.tmp 13) (.tmp 14), none, []⟩,
 ⟨some 16, .load1 (.tmp 15), none, []⟩,
 ⟨some 17, .call (.func 134) [(.tmp 16), (.const (.int .i64 (-1000000))), (.const (.int .i64 1000000))], none, []⟩,
 ⟨some 18, .un .not (.tmp 17), none, []⟩] [13, 14, 15, 16, 17])
 (.cond (.tmp 18)
 (.seq
 (.region false [⟨some 2, .mv (.const (.int .i64 1)), none, []⟩] [])
 .ret)
 .skip)))
 (.region false [⟨some 11, .mv (.tmp 3), none, []⟩,
 ⟨some 12, .bin .add (.tmp 11) (.const (.int .i64 1)), none, []⟩,
 ⟨some 3, .mv (.tmp 12), none, []⟩] [11, 12]))))))
 (.seq
 (.region false [⟨some 2, .mv (.const (.int .i64 0)), none, []⟩] [])
 .ret))))
set_option maxRecDepth 100000 in
theorem kref09_checkSeries : IsCode Try.prog 153 19 cref09_checkSeries [.tmp 2] :=
 ⟨Try.f153, _, [18, 10, 6, 0, 3, 2], Try.func153, rfl, by decide, rfl, by kernel_rfl, by kernel_rfl⟩
def cref09_Turning : ACode :=
 (.seq
 (.region false [⟨some 2, .mv (.const (.slice none 0 0)), none, []⟩] [])
 (.seq
 (.region false [⟨some 3, .mv (.const (.slice none 0 0)), none, []⟩] [])
 (.seq
 (.seq
 (.region false [⟨some 4, .mv (.const (.int .i64 0)), none, []⟩] [])
 (.block 0
 (.loop
 (.seq
 (.seq
 (.region false [⟨some 7, .mv (.tmp 4), none, []⟩,
 ⟨some 8, .mv (.tmp 0), none, []⟩,
 ⟨some 9, .len_ (.tmp 8), none, []⟩,
 ⟨some 10, .bin .lss (.tmp 7) (.tmp 9), none, []⟩] [7, 8, 9])
 (.cond (.tmp 10)
 .skip
 (.exit 0)))
 (.seq
 (.block 1
 (.seq
 (.region true [⟨some 13, .mv (.tmp 4), none, []⟩,
 ⟨some 14, .bin .eql (.tmp 13) (.const (.int .i64 0)), none, [0]⟩,
 ⟨some 15, .mv (.tmp 14), none, [1, 0]⟩,
 ⟨some 16, .mv (.tmp 0), (some (some 15, false)), [2, 1, 0]⟩,
 ⟨some 17, .mv (.tmp 4), (some (some 15, false)), [2, 1, 0]⟩,
 ⟨some 18, .iadS 1 (.tmp 16) (.tmp 17), (some (some 15, false)), [3, 2, 1, 0, 4]⟩,
 ⟨some 19, .load1 (.tmp 18), (some (some 15, false)), [5, 3, 2, 1, 0, 4]⟩,
 ⟨some 20, .mv (.tmp 0), (some (some 15, false)), [2, 1, 0]⟩,
 ⟨some 21, .mv (.tmp 4), (some (some 15, false)), [2, 1, 0]⟩,
 ⟨some 22, .bin .sub (.tmp 21) (.const (.int .i64 1)), (some (some 15, false)), [8, 2, 1, 0]⟩,
 ⟨some 23, .iadS 1 (.tmp 20) (.tmp 22), (some (some 15, false)), [7, 2, 1, 0, 9, 8]⟩,
 ⟨some 24, .load1 (.tmp 23), (some (some 15, false)), [10, 7, 2, 1, 0, 9, 8]⟩,
 ⟨some 25, .bin .neq (.tmp 19) (.tmp 24), (some (some 15, false)), [6, 5, 3, 2, 1, 0, 4, 11, 10, 7, 9, 8]⟩,
 ⟨some 26, .pick (.tmp 15) (.const (.bool true)) (.tmp 25), none, [2, 1, 0, 12, 6, 5, 3, 4, 11, 10, 7, 9, 8]⟩] [13, 14, 15, 16, 17, 18, 19, 20, 21, 22, 23, 24, 25])
 (.cond (.tmp 26)
 (.region false [⟨some 27, .mv (.tmp 3), none, []⟩,
 ⟨some 28, .mv (.tmp 0), none, []⟩,
 ⟨some 29, .mv (.tmp 4), none, []⟩,
 ⟨some 30, .iadS 1 (.tmp 28) (.tmp 29), none, []⟩,
 ⟨some 31, .load1 (.tmp 30), none, []⟩,
 ⟨some 32, .buildSl 1 1 [(.val (.int .i64 0))] [(0, 1, (.tmp 31))], none, []⟩,
 ⟨some 33, .app 1 8 (.tmp 27) (.tmp 32), none, []⟩,
 ⟨some 3, .mv (.tmp 33), none, []⟩] [27, 28, 29, 30, 31, 32, 33])
 .skip)))
 (.region false [⟨some 11, .mv (.tmp 4), none, []⟩,
 ⟨some 12, .bin .add (.tmp 11) (.const (.int .i64 1)), none, []⟩,
 ⟨some 4, .mv (.tmp 12), none, []⟩] [11, 12]))))))
 (.seq
 (.region false [⟨some 5, .mv (.const (.slice none 0 0)), none, []⟩] [])
 (.seq
 (.seq
 (.region false [⟨some 6, .mv (.const (.int .i64 0)), none, []⟩] [])
 (.block 2
 (.loop
 (.seq
 (.seq
 (.region false [⟨some 34, .mv (.tmp 6), none, []⟩,
 ⟨some 35, .mv (.tmp 3), none, []⟩,
 ⟨some 36, .len_ (.tmp 35), none, []⟩,
 ⟨some 37, .bin .lss (.tmp 34) (.tmp 36), none, []⟩] [34, 35, 36])
 (.cond (.tmp 37)
 .skip
 (.exit 2)))
 (.seq
 (.block 3
 (.seq
 (.region true [⟨some 40, .mv (.tmp 6), none, []⟩,
 ⟨some 41, .bin .eql (.tmp 40) (.const (.int .i64 0)), none, [0]⟩,
 ⟨some 42, .mv (.tmp 41), none, [1, 0]⟩,
 ⟨some 43, .mv (.tmp 6), (some (some 42, false)), [2, 1, 0]⟩,
 ⟨some 44, .mv (.tmp 3), (some (some 42, false)), [2, 1, 0]⟩,
 ⟨some 45, .len_ (.tmp 44), (some (some 42, false)), [4, 2, 1, 0]⟩,
 ⟨some 46, .bin .sub (.tmp 45) (.const (.int .i64 1)), (some (some 42, false)), [5, 4, 2, 1, 0]⟩,
 ⟨some 47, .bin .eql (.tmp 43) (.tmp 46), (some (some 42, false)), [3, 2, 1, 0, 6, 5, 4]⟩,
 ⟨some 48, .pick (.tmp 42) (.const (.bool true)) (.tmp 47), none, [2, 1, 0, 7, 3, 6, 5, 4]⟩,
 ⟨some 49, .mv (.tmp 48), none, [8, 2, 1, 0, 7, 3, 6, 5, 4]⟩,
 ⟨some 50, .mv (.tmp 3), (some (some 49, false)), [9, 8, 2, 1, 0, 7, 3, 6, 5, 4]⟩,
 ⟨some 51, .mv (.tmp 6), (some (some 49, false)), [9, 8, 2, 1, 0, 7, 3, 6, 5, 4]⟩,
 ⟨some 52, .iadS 1 (.tmp 50) (.tmp 51), (some (some 49, false)), [10, 9, 8, 2, 1, 0, 7, 3, 6, 5, 4, 11]⟩,
 ⟨some 53, .load1 (.tmp 52), (some (some 49, false)), [12, 10, 9, 8, 2, 1, 0, 7, 3, 6, 5, 4, 11]⟩,
 ⟨some 54, .mv (.tmp 3), (some (some 49, false)), [9, 8, 2, 1, 0, 7, 3, 6, 5, 4]⟩,
 ⟨some 55, .mv (.tmp 6), (some (some 49, false)), [9, 8, 2, 1, 0, 7, 3, 6, 5, 4]⟩,
 ⟨some 56, .bin .sub (.tmp 55) (.const (.int .i64 1)), (some (some 49, false)), [15, 9, 8, 2, 1, 0, 7, 3, 6, 5, 4]⟩,
 ⟨some 57, .iadS 1 (.tmp 54) (.tmp 56), (some (some 49, false)), [14, 9, 8, 2, 1, 0, 7, 3, 6, 5, 4, 16, 15]⟩,
 ⟨some 58, .load1 (.tmp 57), (some (some 49, false)), [17, 14, 9, 8, 2, 1, 0, 7, 3, 6, 5, 4, 16, 15]⟩,
 ⟨some 59, .bin .gtr (.tmp 53) (.tmp 58), (some (some 49, false)), [13, 12, 10, 9, 8, 2, 1, 0, 7, 3, 6, 5, 4, 11, 18, 17, 14, 16, 15]⟩,
 ⟨some 60, .mv (.tmp 3), (some (some 49, false)), [9, 8, 2, 1, 0, 7, 3, 6, 5, 4]⟩,
 ⟨some 61, .mv (.tmp 6), (some (some 49, false)), [9, 8, 2, 1, 0, 7, 3, 6, 5, 4]⟩,
 ⟨some 62, .bin .add (.tmp 61) (.const (.int .i64 1)), (some (some 49, false)), [21, 9, 8, 2, 1, 0, 7, 3, 6, 5, 4]⟩,
 ⟨some 63, .iadS 1 (.tmp 60) (.tmp 62), (some (some 49, false)), [20, 9, 8, 2, 1, 0, 7, 3, 6, 5, 4, 22, 21]⟩,
 ⟨some 64, .load1 (.tmp 63), (some (some 49, false)), [23, 20, 9, 8, 2, 1, 0, 7, 3, 6, 5, 4, 22, 21]⟩,
 ⟨some 65, .mv (.tmp 3), (some (some 49, false)), [9, 8, 2, 1, 0, 7, 3, 6, 5, 4]⟩,
 ⟨some 66, .mv (.tmp 6), (some (some 49, false)), [9, 8, 2, 1, 0, 7, 3, 6, 5, 4]⟩,
 ⟨some 67, .iadS 1 (.tmp 65) (.tmp 66), (some (some 49, false)), [25, 9, 8, 2, 1, 0, 7, 3, 6, 5, 4, 26]⟩,
 ⟨some 68, .load1 (.tmp 67), (some (some 49, false)), [27, 25, 9, 8, 2, 1, 0, 7, 3, 6, 5, 4, 26]⟩,
 ⟨some 69, .bin .gtr (.tmp 64) (.tmp 68), (some (some 49, false)), [24, 23, 20, 9, 8, 2, 1, 0, 7, 3, 6, 5, 4, 22, 21, 28, 27, 25, 26]⟩,
 ⟨some 70, .eqb true (.tmp 59) (.tmp 69), (some (some 49, false)), [19, 13, 12, 10, 9, 8, 2, 1, 0, 7, 3, 6, 5, 4, 11, 18, 17, 14, 16, 15, 29, 24, 23, 20, 22, 21, 28, 27, 25, 26]⟩,
 ⟨some 71, .pick (.tmp 49) (.const (.bool true)) (.tmp 70), none, [9, 8, 2, 1, 0, 7, 3, 6, 5, 4, 30, 19, 13, 12, 10, 11, 18, 17, 14, 16, 15, 29, 24, 23, 20, 22, 21, 28, 27, 25, 26]⟩] [40, 41, 42, 43, 44, 45, 46, 47, 48, 49, 50, 51, 52, 53, 54, 55, 56, 57, 58, 59, 60, 61, 62, 63, 64, 65, 66, 67, 68, 69, 70])
 (.cond (.tmp 71)
 (.region false [⟨some 72, .mv (.tmp 5), none, []⟩,
 ⟨some 73, .mv (.tmp 3), none, []⟩,
 ⟨some 74, .mv (.tmp 6), none, []⟩,
 ⟨some 75, .iadS 1 (.tmp 73) (.tmp 74), none, []⟩,
 ⟨some 76, .load1 (.tmp 75), none, []⟩,
 ⟨some 77, .buildSl 1 1 [(.val (.int .i64 0))] [(0, 1, (.tmp 76))], none, []⟩,
 ⟨some 78, .app 1 8 (.tmp 72) (.tmp 77), none, []⟩,
 ⟨some 5, .mv (.tmp 78), none, []⟩] [72, 73, 74, 75, 76, 77, 78])
 .skip)))
 (.region false [⟨some 38, .mv (.tmp 6), none, []⟩,
 ⟨some 39, .bin .add (.tmp 38) (.const (.int .i64 1)), none, []⟩,
 ⟨some 6, .mv (.tmp 39), none, []⟩] [38, 39]))))))
 (.seq
 (.region false [⟨some 79, .mv (.tmp 5), none, []⟩,
 ⟨some 2, .mv (.tmp 79), none, []⟩] [79])
 .ret))))))
set_option maxRecDepth 100000 in
theorem kref09_Turning : IsCode Try.prog 154 80 cref09_Turning [.tmp 2] :=
 ⟨Try.f154, _, [71, 37, 26, 10, 4, 0, 3, 6, 5, 2], Try.func154, rfl, by decide, rfl, by kernel_rfl, by kernel_rfl⟩
def cref09_Cycles : ACode :=
 (.seq
 (.region false [⟨some 2, .mv (.const (.slice none 0 0)), none, []⟩,
 ⟨some 3, .mv (.const (.int .i64 0)), none, []⟩] [])
 (.seq
 (.seq
 (.region false [⟨some 13, .mv (.tmp 0), none, []⟩,
 ⟨some 14, .call (.func 153) [(.tmp 13)], none, []⟩,
 ⟨some 4, .mv (.tmp 14), none, []⟩] [13, 14])
 (.seq
 (.region false [⟨some 15, .mv (.tmp 4), none, []⟩,
 ⟨some 16, .bin .neq (.tmp 15) (.const (.int .i64 0)), none, []⟩] [15])
 (.cond (.tmp 16)
 (.seq
 (.region false [⟨some 17, .mv (.tmp 4), none, []⟩,
 ⟨some 2, .mv (.const (.slice none 0 0)), none, []⟩,
 ⟨some 3, .mv (.tmp 17), none, []⟩] [17])
 .ret)
 .skip)))
 (.seq
 (.region false [⟨some 5, .mv (.const (.slice none 0 0)), none, []⟩] [])
 (.seq
 (.region false [⟨some 6, .mv (.const (.slice none 0 0)), none, []⟩] [])
 (.seq
 (.region false [⟨some 18, .mv (.tmp 0), none, []⟩,
 ⟨some 19, .call (.func 154) [(.tmp 18)], none, []⟩,
 ⟨some 7, .mv (.tmp 19), none, []⟩] [18, 19])
 (.seq
 (.seq
 (.region false [⟨some 8, .mv (.const (.int .i64 0)), none, []⟩] [])
 (.block 0
 (.loop
 (.seq
 (.seq
 (.region false [⟨some 20, .mv (.tmp 8), none, []⟩,
 ⟨some 21, .mv (.tmp 7), none, []⟩,
 ⟨some 22, .len_ (.tmp 21), none, []⟩,
 ⟨some 23, .bin .lss (.tmp 20) (.tmp 22), none, []⟩] [20, 21, 22])
 (.cond (.tmp 23)
 .skip
 (.exit 0)))
 (.seq
 (.block 1
 (.seq
 (.region false [⟨some 26, .mv (.tmp 6), none, []⟩,
 ⟨some 27, .mv (.tmp 7), none, []⟩,
 ⟨some 28, .mv (.tmp 8), none, []⟩,
 ⟨some 29, .iadS 1 (.tmp 27) (.tmp 28), none, []⟩,
 ⟨some 30, .load1 (.tmp 29), none, []⟩,
 ⟨some 31, .buildSl 1 1 [(.val (.int .i64 0))] [(0, 1, (.tmp 30))], none, []⟩,
 ⟨some 32, .app 1 8 (.tmp 26) (.tmp 31), none, []⟩,
 ⟨some 6, .mv (.tmp 32), none, []⟩] [26, 27, 28, 29, 30, 31, 32])
 (.block 2
 (.loop
 (.seq
 (.seq
 (.region false [⟨some 33, .mv (.tmp 6), none, []⟩,
 ⟨some 34, .len_ (.tmp 33), none, []⟩,
 ⟨some 35, .bin .geq (.tmp 34) (.const (.int .i64 3)), none, []⟩] [33, 34])
 (.cond (.tmp 35)
 .skip
 (.exit 2)))
 (.block 3
 (.seq
 (.region false [⟨some 36, .mv (.tmp 6), none, []⟩,
 ⟨some 37, .len_ (.tmp 36), none, []⟩,
 ⟨some 9, .mv (.tmp 37), none, []⟩] [36, 37])
 (.seq
 (.region true [⟨some 38, .mv (.tmp 6), none, []⟩,
 ⟨some 39, .mv (.tmp 9), none, []⟩,
 ⟨some 40, .bin .sub (.tmp 39) (.const (.int .i64 1)), none, [1]⟩,
 ⟨some 41, .iadS 1 (.tmp 38) (.tmp 40), none, [0, 2, 1]⟩,
 ⟨some 42, .load1 (.tmp 41), none, [3, 0, 2, 1]⟩,
 ⟨some 43, .mv (.tmp 6), none, []⟩,
 ⟨some 44, .mv (.tmp 9), none, []⟩,
 ⟨some 45, .bin .sub (.tmp 44) (.const (.int .i64 2)), none, [6]⟩,
 ⟨some 46, .iadS 1 (.tmp 43) (.tmp 45), none, [5, 7, 6]⟩,
 ⟨some 47, .load1 (.tmp 46), none, [8, 5, 7, 6]⟩,
 ⟨some 48, .call (.func 155) [(.tmp 42), (.tmp 47)], none, [4, 3, 0, 2, 1, 9, 8, 5, 7, 6]⟩,
 ⟨some 49, .mv (.tmp 6), none, []⟩,
 ⟨some 50, .mv (.tmp 9), none, []⟩,
 ⟨some 51, .bin .sub (.tmp 50) (.const (.int .i64 2)), none, [12]⟩,
 ⟨some 52, .iadS 1 (.tmp 49) (.tmp 51), none, [11, 13, 12]⟩,
 ⟨some 53, .load1 (.tmp 52), none, [14, 11, 13, 12]⟩,
 ⟨some 54, .mv (.tmp 6), none, []⟩,
 ⟨some 55, .mv (.tmp 9), none, []⟩,
 ⟨some 56, .bin .sub (.tmp 55) (.const (.int .i64 3)), none, [17]⟩,
 ⟨some 57, .iadS 1 (.tmp 54) (.tmp 56), none, [16, 18, 17]⟩,
 ⟨some 58, .load1 (.tmp 57), none, [19, 16, 18, 17]⟩,
 ⟨some 59, .call (.func 155) [(.tmp 53), (.tmp 58)], none, [15, 14, 11, 13, 12, 20, 19, 16, 18, 17, 10, 4, 3, 0, 2, 1, 9, 8, 5, 7, 6]⟩,
 ⟨some 10, .mv (.tmp 48), none, [10, 4, 3, 0, 2, 1, 9, 8, 5, 7, 6, 21, 15, 14, 11, 13, 12, 20, 19, 16, 18, 17]⟩,
 ⟨some 11, .mv (.tmp 59), none, [21, 15, 14, 11, 13, 12, 20, 19, 16, 18, 17, 10, 4, 3, 0, 2, 1, 9, 8, 5, 7, 6, 22]⟩] [38, 39, 40, 41, 42, 43, 44, 45, 46, 47, 48, 49, 50, 51, 52, 53, 54, 55, 56, 57, 58, 59])
 (.seq
 (.seq
 (.region false [⟨some 60, .mv (.tmp 10), none, []⟩,
 ⟨some 61, .mv (.tmp 11), none, []⟩,
 ⟨some 62, .bin .lss (.tmp 60) (.tmp 61), none, []⟩] [60, 61])
 (.cond (.tmp 62)
 (.exit 2)
 .skip))
 (.seq
 (.region false [⟨some 63, .mv (.tmp 9), none, []⟩,
 ⟨some 64, .bin .eql (.tmp 63) (.const (.int .i64 3)), none, []⟩] [63])
 (.cond (.tmp 64)
 (.seq
 (.region false [⟨some 65, .mv (.tmp 5), none, []⟩,
 ⟨some 66, .mv (.tmp 11), none, []⟩,
 ⟨some 67, .build [(.val (.int .i64 0)), (.val (.int .i64 0))] [(0, 1, (.tmp 66)), (1, 1, (.const (.int .i64 1)))], none, []⟩,
 ⟨some 68, .buildSl 2 1 [(.val (.int .i64 0)), (.val (.int .i64 0))] [(0, 2, (.tmp 67))], none, []⟩,
 ⟨some 69, .app 2 16 (.tmp 65) (.tmp 68), none, []⟩,
 ⟨some 5, .mv (.tmp 69), none, []⟩] [65, 66, 67, 68, 69])
 (.region true [⟨some 70, .mv (.tmp 6), none, []⟩,
 ⟨some 71, .iadS 1 (.tmp 70) (.const (.int .i64 1)), none, [0]⟩,
 ⟨some 72, .load1 (.tmp 71), none, [1, 0]⟩,
 ⟨some 73, .mv (.tmp 6), none, []⟩,
 ⟨some 74, .iadS 1 (.tmp 73) (.const (.int .i64 2)), none, [3]⟩,
 ⟨some 75, .load1 (.tmp 74), none, [4, 3]⟩,
 ⟨some 76, .buildSl 1 2 [(.val (.int .i64 0)), (.val (.int .i64 0))] [(0, 1, (.tmp 72)), (1, 1, (.tmp 75))], none, [2, 1, 0, 5, 4, 3]⟩,
 ⟨some 6, .mv (.tmp 76), none, [6, 2, 1, 0, 5, 4, 3]⟩] [70, 71, 72, 73, 74, 75, 76]))
 (.seq
 (.region false [⟨some 77, .mv (.tmp 5), none, []⟩,
 ⟨some 78, .mv (.tmp 11), none, []⟩,
 ⟨some 79, .build [(.val (.int .i64 0)), (.val (.int .i64 0))] [(0, 1, (.tmp 78)), (1, 1, (.const (.int .i64 2)))], none, []⟩,
 ⟨some 80, .buildSl 2 1 [(.val (.int .i64 0)), (.val (.int .i64 0))] [(0, 2, (.tmp 79))], none, []⟩,
 ⟨some 81, .app 2 16 (.tmp 77) (.tmp 80), none, []⟩,
 ⟨some 5, .mv (.tmp 81), none, []⟩] [77, 78, 79, 80, 81])
 (.region true [⟨some 82, .mv (.tmp 6), none, []⟩,
 ⟨some 83, .mv (.tmp 9), none, []⟩,
 ⟨some 84, .bin .sub (.tmp 83) (.const (.int .i64 3)), none, [1]⟩,
 ⟨some 85, .slS 1 (.tmp 82) none (some (.tmp 84)), none, [0, 2, 1]⟩,
 ⟨some 86, .app 1 8 (.const (.slice none 0 0)) (.tmp 85), none, [3, 0, 2, 1]⟩,
 ⟨some 87, .mv (.tmp 6), none, []⟩,
 ⟨some 88, .mv (.tmp 9), none, []⟩,
 ⟨some 89, .bin .sub (.tmp 88) (.const (.int .i64 1)), none, [6]⟩,
 ⟨some 90, .iadS 1 (.tmp 87) (.tmp 89), none, [5, 7, 6]⟩,
 ⟨some 91, .load1 (.tmp 90), none, [8, 5, 7, 6]⟩,
 ⟨some 92, .buildSl 1 1 [(.val (.int .i64 0))] [(0, 1, (.tmp 91))], none, [9, 8, 5, 7, 6]⟩,
 ⟨some 93, .app 1 8 (.tmp 86) (.tmp 92), none, [4, 3, 0, 2, 1, 10, 9, 8, 5, 7, 6]⟩,
 ⟨some 6, .mv (.tmp 93), none, [11, 4, 3, 0, 2, 1, 10, 9, 8, 5, 7, 6]⟩] [82, 83, 84, 85, 86, 87, 88, 89, 90, 91, 92, 93])))))))))))))
 (.region false [⟨some 24, .mv (.tmp 8), none, []⟩,
 ⟨some 25, .bin .add (.tmp 24) (.const (.int .i64 1)), none, []⟩,
 ⟨some 8, .mv (.tmp 25), none, []⟩] [24, 25]))))))
 (.seq
 (.seq
 (.region false [⟨some 12, .mv (.const (.int .i64 1)), none, []⟩] [])
 (.block 4
 (.loop
 (.seq
 (.seq
 (.region false [⟨some 94, .mv (.tmp 12), none, []⟩,
 ⟨some 95, .mv (.tmp 6), none, []⟩,
 ⟨some 96, .len_ (.tmp 95), none, []⟩,
 ⟨some 97, .bin .lss (.tmp 94) (.tmp 96), none, []⟩] [94, 95, 96])
 (.cond (.tmp 97)
 .skip
 (.exit 4)))
 (.seq
 (.block 5
 (.region true [⟨some 100, .mv (.tmp 5), none, []⟩,
 ⟨some 101, .mv (.tmp 6), none, []⟩,
 ⟨some 102, .mv (.tmp 12), none, []⟩,
 ⟨some 103, .iadS 1 (.tmp 101) (.tmp 102), none, [1, 2]⟩,
 ⟨some 104, .load1 (.tmp 103), none, [3, 1, 2]⟩,
 ⟨some 105, .mv (.tmp 6), none, []⟩,
 ⟨some 106, .mv (.tmp 12), none, []⟩,
 ⟨some 107, .bin .sub (.tmp 106) (.const (.int .i64 1)), none, [6]⟩,
 ⟨some 108, .iadS 1 (.tmp 105) (.tmp 107), none, [5, 7, 6]⟩,
 ⟨some 109, .load1 (.tmp 108), none, [8, 5, 7, 6]⟩,
 ⟨some 110, .call (.func 155) [(.tmp 104), (.tmp 109)], none, [4, 3, 1, 2, 9, 8, 5, 7, 6]⟩,
 ⟨some 111, .build [(.val (.int .i64 0)), (.val (.int .i64 0))] [(0, 1, (.tmp 110)), (1, 1, (.const (.int .i64 1)))], none, [10, 4, 3, 1, 2, 9, 8, 5, 7, 6]⟩,
 ⟨some 112, .buildSl 2 1 [(.val (.int .i64 0)), (.val (.int .i64 0))] [(0, 2, (.tmp 111))], none, [11, 10, 4, 3, 1, 2, 9, 8, 5, 7, 6]⟩,
 ⟨some 113, .app 2 16 (.tmp 100) (.tmp 112), none, [0, 12, 11, 10, 4, 3, 1, 2, 9, 8, 5, 7, 6]⟩,
 ⟨some 5, .mv (.tmp 113), none, [13, 0, 12, 11, 10, 4, 3, 1, 2, 9, 8, 5, 7, 6]⟩] [100, 101, 102, 103, 104, 105, 106, 107, 108, 109, 110, 111, 112, 113]))
 (.region false [⟨some 98, .mv (.tmp 12), none, []⟩,
 ⟨some 99, .bin .add (.tmp 98) (.const (.int .i64 1)), none, []⟩,
 ⟨some 12, .mv (.tmp 99), none, []⟩] [98, 99]))))))
 (.seq
 (.region false [⟨some 114, .mv (.tmp 5), none, []⟩,
 ⟨some 2, .mv (.tmp 114), none, []⟩,
 ⟨some 3, .mv (.const (.int .i64 0)), none, []⟩] [114])
 .ret))))))))
set_option maxRecDepth 100000 in
theorem kref09_Cycles : IsCode Try.prog 133 115 cref09_Cycles [.tmp 2, .tmp 3] :=
 ⟨Try.f133, _, [97, 64, 62, 35, 23, 16, 0, 4, 8, 7, 6, 9, 10, 11, 5, 12, 2, 3], Try.func133, rfl, by decide, rfl, by kernel_rfl, by kernel_rfl⟩
def cref09_Damage : ACode :=
 (.seq
 (.region false [⟨some 4, .mv (.const (.int .i64 0)), none, []⟩,
 ⟨some 5, .mv (.const (.int .i64 0)), none, []⟩] [])
 (.seq
 (.region false [⟨some 14, .mv (.tmp 0), none, []⟩,
 ⟨some 15, .call (.func 133) [(.tmp 14)], none, []⟩,
 ⟨some 13, .mv (.tmp 15), none, []⟩,
 ⟨some 16, .ext (.tmp 13) 0, none, []⟩,
 ⟨some 17, .ext (.tmp 13) 1, none, []⟩,
 ⟨some 6, .mv (.tmp 16), none, []⟩,
 ⟨some 7, .mv (.tmp 17), none, []⟩] [14, 15, 13, 16, 17])
 (.seq
 (.seq
 (.region false [⟨some 18, .mv (.tmp 7), none, []⟩,
 ⟨some 19, .bin .neq (.tmp 18) (.const (.int .i64 0)), none, []⟩] [18])
 (.cond (.tmp 19)
 (.seq
 (.region false [⟨some 20, .mv (.tmp 7), none, []⟩,
 ⟨some 4, .mv (.const (.int .i64 0)), none, []⟩,
 ⟨some 5, .mv (.tmp 20), none, []⟩] [20])
 .ret)
 .skip))
 (.seq
 (.seq
 (.region false [⟨some 21, .mv (.tmp 1), none, []⟩,
 ⟨some 22, .len_ (.tmp 21), none, []⟩,
 ⟨some 23, .bin .gtr (.tmp 22) (.const (.int .i64 8)), none, []⟩] [21, 22])
 (.cond (.tmp 23)
 (.seq
 (.region false [⟨some 4, .mv (.const (.int .i64 0)), none, []⟩,
 ⟨some 5, .mv (.const (.int .i64 1)), none, []⟩] [])
 .ret)
 .skip))
 (.seq
 (.seq
 (.region false [⟨some 8, .mv (.const (.int .i64 0)), none, []⟩] [])
 (.block 0
 (.loop
 (.seq
 (.seq
 (.region false [⟨some 24, .mv (.tmp 8), none, []⟩,
 ⟨some 25, .mv (.tmp 1), none, []⟩,
 ⟨some 26, .len_ (.tmp 25), none, []⟩,
 ⟨some 27, .bin .lss (.tmp 24) (.tmp 26), none, []⟩] [24, 25, 26])
 (.cond (.tmp 27)
 .skip
 (.exit 0)))
 (.seq
 (.block 1
 (.seq
 (.region true [⟨some 30, .mv (.tmp 1), none, []⟩,
 ⟨some 31, .mv (.tmp 8), none, []⟩,
 ⟨some 32, .iadS 2 (.tmp 30) (.tmp 31), none, [0, 1]⟩,
 ⟨some 33, .iadA 2 1 (.tmp 32) (.const (.int .i64 0)), none, [2, 0, 1]⟩,
 ⟨some 34, .load1 (.tmp 33), none, [3, 2, 0, 1]⟩,
 ⟨some 35, .call (.func 134) [(.tmp 34), (.const (.int .i64 0)), (.const (.int .i64 1000000))], none, [4, 3, 2, 0, 1]⟩,
 ⟨some 36, .un .not (.tmp 35), none, [5, 4, 3, 2, 0, 1]⟩,
 ⟨some 37, .mv (.tmp 36), none, [6, 5, 4, 3, 2, 0, 1]⟩,
 ⟨some 38, .mv (.tmp 1), (some (some 37, false)), [7, 6, 5, 4, 3, 2, 0, 1]⟩,
 ⟨some 39, .mv (.tmp 8), (some (some 37, false)), [7, 6, 5, 4, 3, 2, 0, 1]⟩,
 ⟨some 40, .iadS 2 (.tmp 38) (.tmp 39), (some (some 37, false)), [8, 7, 6, 5, 4, 3, 2, 0, 1, 9]⟩,
 ⟨some 41, .iadA 2 1 (.tmp 40) (.const (.int .i64 1)), (some (some 37, false)), [10, 8, 7, 6, 5, 4, 3, 2, 0, 1, 9]⟩,
 ⟨some 42, .load1 (.tmp 41), (some (some 37, false)), [11, 10, 8, 7, 6, 5, 4, 3, 2, 0, 1, 9]⟩,
 ⟨some 43, .call (.func 134) [(.tmp 42), (.const (.int .i64 0)), (.const (.int .i64 1000000))], (some (some 37, false)), [12, 11, 10, 8, 7, 6, 5, 4, 3, 2, 0, 1, 9]⟩,
 ⟨some 44, .un .not (.tmp 43), (some (some 37, false)), [13, 12, 11, 10, 8, 7, 6, 5, 4, 3, 2, 0, 1, 9]⟩,
 ⟨some 45, .pick (.tmp 37) (.const (.bool true)) (.tmp 44), none, [7, 6, 5, 4, 3, 2, 0, 1, 14, 13, 12, 11, 10, 8, 9]⟩,
 ⟨some 46, .mv (.tmp 45), none, [15, 7, 6, 5, 4, 3, 2, 0, 1, 14, 13, 12, 11, 10, 8, 9]⟩,
 ⟨some 47, .mv (.tmp 8), (some (some 46, false)), [16, 15, 7, 6, 5, 4, 3, 2, 0, 1, 14, 13, 12, 11, 10, 8, 9]⟩,
 ⟨some 48, .bin .gtr (.tmp 47) (.const (.int .i64 0)), (some (some 46, false)), [17, 16, 15, 7, 6, 5, 4, 3, 2, 0, 1, 14, 13, 12, 11, 10, 8, 9]⟩,
 ⟨some 49, .mv (.tmp 48), (some (some 46, false)), [18, 17, 16, 15, 7, 6, 5, 4, 3, 2, 0, 1, 14, 13, 12, 11, 10, 8, 9]⟩,
 ⟨some 50, .mv (.tmp 1), (some (some 49, true)), [19, 18, 17, 16, 15, 7, 6, 5, 4, 3, 2, 0, 1, 14, 13, 12, 11, 10, 8, 9]⟩,
 ⟨some 51, .mv (.tmp 8), (some (some 49, true)), [19, 18, 17, 16, 15, 7, 6, 5, 4, 3, 2, 0, 1, 14, 13, 12, 11, 10, 8, 9]⟩,
 ⟨some 52, .iadS 2 (.tmp 50) (.tmp 51), (some (some 49, true)), [20, 19, 18, 17, 16, 15, 7, 6, 5, 4, 3, 2, 0, 1, 14, 13, 12, 11, 10, 8, 9, 21]⟩,
 ⟨some 53, .iadA 2 1 (.tmp 52) (.const (.int .i64 0)), (some (some 49, true)), [22, 20, 19, 18, 17, 16, 15, 7, 6, 5, 4, 3, 2, 0, 1, 14, 13, 12, 11, 10, 8, 9, 21]⟩,
 ⟨some 54, .load1 (.tmp 53), (some (some 49, true)), [23, 22, 20, 19, 18, 17, 16, 15, 7, 6, 5, 4, 3, 2, 0, 1, 14, 13, 12, 11, 10, 8, 9, 21]⟩,
 ⟨some 55, .mv (.tmp 1), (some (some 49, true)), [19, 18, 17, 16, 15, 7, 6, 5, 4, 3, 2, 0, 1, 14, 13, 12, 11, 10, 8, 9]⟩,
 ⟨some 56, .mv (.tmp 8), (some (some 49, true)), [19, 18, 17, 16, 15, 7, 6, 5, 4, 3, 2, 0, 1, 14, 13, 12, 11, 10, 8, 9]⟩,
 ⟨some 57, .bin .sub (.tmp 56) (.const (.int .i64 1)), (some (some 49, true)), [26, 19, 18, 17, 16, 15, 7, 6, 5, 4, 3, 2, 0, 1, 14, 13, 12, 11, 10, 8, 9]⟩,
 ⟨some 58, .iadS 2 (.tmp 55) (.tmp 57), (some (some 49, true)), [25, 19, 18, 17, 16, 15, 7, 6, 5, 4, 3, 2, 0, 1, 14, 13, 12, 11, 10, 8, 9, 27, 26]⟩,
 ⟨some 59, .iadA 2 1 (.tmp 58) (.const (.int .i64 0)), (some (some 49, true)), [28, 25, 19, 18, 17, 16, 15, 7, 6, 5, 4, 3, 2, 0, 1, 14, 13, 12, 11, 10, 8, 9, 27, 26]⟩,
 ⟨some 60, .load1 (.tmp 59), (some (some 49, true)), [29, 28, 25, 19, 18, 17, 16, 15, 7, 6, 5, 4, 3, 2, 0, 1, 14, 13, 12, 11, 10, 8, 9, 27, 26]⟩,
 ⟨some 61, .bin .leq (.tmp 54) (.tmp 60), (some (some 49, true)), [24, 23, 22, 20, 19, 18, 17, 16, 15, 7, 6, 5, 4, 3, 2, 0, 1, 14, 13, 12, 11, 10, 8, 9, 21, 30, 29, 28, 25, 27, 26]⟩,
 ⟨some 62, .pick (.tmp 49) (.tmp 61) (.const (.bool false)), (some (some 46, false)), [19, 18, 17, 16, 15, 7, 6, 5, 4, 3, 2, 0, 1, 14, 13, 12, 11, 10, 8, 9, 31, 24, 23, 22, 20, 21, 30, 29, 28, 25, 27, 26]⟩,
 ⟨some 63, .pick (.tmp 46) (.const (.bool true)) (.tmp 62), none, [16, 15, 7, 6, 5, 4, 3, 2, 0, 1, 14, 13, 12, 11, 10, 8, 9, 32, 19, 18, 17, 31, 24, 23, 22, 20, 21, 30, 29, 28, 25, 27, 26]⟩] [30, 31, 32, 33, 34, 35, 36, 37, 38, 39, 40, 41, 42, 43, 44, 45, 46, 47, 48, 49, 50, 51, 52, 53, 54, 55, 56, 57, 58, 59, 60, 61, 62])
 (.cond (.tmp 63)
 (.seq
 (.region false [⟨some 4, .mv (.const (.int .i64 0)), none, []⟩,
 ⟨some 5, .mv (.const (.int .i64 1)), none, []⟩] [])
 .ret)
 .skip)))
 (.region false [⟨some 28, .mv (.tmp 8), none, []⟩,
 ⟨some 29, .bin .add (.tmp 28) (.const (.int .i64 1)), none, []⟩,
 ⟨some 8, .mv (.tmp 29), none, []⟩] [28, 29]))))))
 (.seq
 (.region false [⟨some 9, .mv (.const (.int .i64 0)), none, []⟩] [])
 (.seq
 (.seq
 (.region false [⟨some 10, .mv (.const (.int .i64 0)), none, []⟩] [])
 (.block 2
 (.loop
 (.seq
 (.seq
 (.region false [⟨some 64, .mv (.tmp 10), none, []⟩,
 ⟨some 65, .mv (.tmp 6), none, []⟩,
 ⟨some 66, .len_ (.tmp 65), none, []⟩,
 ⟨some 67, .bin .lss (.tmp 64) (.tmp 66), none, []⟩] [64, 65, 66])
 (.cond (.tmp 67)
 .skip
 (.exit 2)))
 (.seq
 (.block 3
 (.seq
 (.region false [⟨some 11, .mv (.const (.int .i64 0)), none, []⟩] [])
 (.seq
 (.seq
 (.region false [⟨some 12, .mv (.const (.int .i64 0)), none, []⟩] [])
 (.block 4
 (.loop
 (.seq
 (.seq
 (.region false [⟨some 70, .mv (.tmp 12), none, []⟩,
 ⟨some 71, .mv (.tmp 1), none, []⟩,
 ⟨some 72, .len_ (.tmp 71), none, []⟩,
 ⟨some 73, .bin .lss (.tmp 70) (.tmp 72), none, []⟩] [70, 71, 72])
 (.cond (.tmp 73)
 .skip
 (.exit 4)))
 (.seq
 (.block 5
 (.seq
 (.region true [⟨some 76, .mv (.tmp 1), none, []⟩,
 ⟨some 77, .mv (.tmp 12), none, []⟩,
 ⟨some 78, .iadS 2 (.tmp 76) (.tmp 77), none, [0, 1]⟩,
 ⟨some 79, .iadA 2 1 (.tmp 78) (.const (.int .i64 0)), none, [2, 0, 1]⟩,
 ⟨some 80, .load1 (.tmp 79), none, [3, 2, 0, 1]⟩,
 ⟨some 81, .mv (.tmp 6), none, []⟩,
 ⟨some 82, .mv (.tmp 10), none, []⟩,
 ⟨some 83, .iadS 2 (.tmp 81) (.tmp 82), none, [5, 6]⟩,
 ⟨some 84, .iadA 2 1 (.tmp 83) (.const (.int .i64 0)), none, [7, 5, 6]⟩,
 ⟨some 85, .load1 (.tmp 84), none, [8, 7, 5, 6]⟩,
 ⟨some 86, .bin .leq (.tmp 80) (.tmp 85), none, [4, 3, 2, 0, 1, 9, 8, 7, 5, 6]⟩] [76, 77, 78, 79, 80, 81, 82, 83, 84, 85])
 (.cond (.tmp 86)
 (.region false [⟨some 87, .mv (.tmp 1), none, []⟩,
 ⟨some 88, .mv (.tmp 12), none, []⟩,
 ⟨some 89, .iadS 2 (.tmp 87) (.tmp 88), none, []⟩,
 ⟨some 90, .iadA 2 1 (.tmp 89) (.const (.int .i64 1)), none, []⟩,
 ⟨some 91, .load1 (.tmp 90), none, []⟩,
 ⟨some 11, .mv (.tmp 91), none, []⟩] [87, 88, 89, 90, 91])
 .skip)))
 (.region false [⟨some 74, .mv (.tmp 12), none, []⟩,
 ⟨some 75, .bin .add (.tmp 74) (.const (.int .i64 1)), none, []⟩,
 ⟨some 12, .mv (.tmp 75), none, []⟩] [74, 75]))))))
 (.region false [⟨some 92, .mv (.tmp 9), none, []⟩,
 ⟨some 93, .mv (.tmp 6), none, []⟩,
 ⟨some 94, .mv (.tmp 10), none, []⟩,
 ⟨some 95, .iadS 2 (.tmp 93) (.tmp 94), none, []⟩,
 ⟨some 96, .iadA 2 1 (.tmp 95) (.const (.int .i64 1)), none, []⟩,
 ⟨some 97, .load1 (.tmp 96), none, []⟩,
 ⟨some 98, .mv (.tmp 11), none, []⟩,
 ⟨some 99, .bin .mul (.tmp 97) (.tmp 98), none, []⟩,
 ⟨some 100, .bin .add (.tmp 92) (.tmp 99), none, []⟩,
 ⟨some 9, .mv (.tmp 100), none, []⟩] [92, 93, 94, 95, 96, 97, 98, 99, 100]))))
 (.region false [⟨some 68, .mv (.tmp 10), none, []⟩,
 ⟨some 69, .bin .add (.tmp 68) (.const (.int .i64 1)), none, []⟩,
 ⟨some 10, .mv (.tmp 69), none, []⟩] [68, 69]))))))
 (.seq
 (.region false [⟨some 101, .mv (.tmp 9), none, []⟩,
 ⟨some 4, .mv (.tmp 101), none, []⟩,
 ⟨some 5, .mv (.const (.int .i64 0)), none, []⟩] [101])
 .ret))))))))
set_option maxRecDepth 100000 in
theorem kref09_Damage : IsCode Try.prog 100 102 cref09_Damage [.tmp 4, .tmp 5] :=
 ⟨Try.f100, _, [86, 73, 67, 63, 27, 23, 19, 0, 7, 1, 8, 10, 6, 12, 9, 11, 4, 5], Try.func100, rfl, by decide, rfl, by kernel_rfl, by kernel_rfl⟩
def crecord_Wear_B29 : ACode :=
 (.block 1
 (.region false [⟨some 31, .load1 (.tmp 12), none, []⟩,
 ⟨some 32, .mv (.tmp 14), none, []⟩,
 ⟨some 33, .buildSl 1 1 [(.val (.int .i64 0))] [(0, 1, (.tmp 32))], none, []⟩,
 ⟨some 34, .app 1 8 (.tmp 31) (.tmp 33), none, []⟩,
 ⟨none, .store 1 (.tmp 12) (.tmp 34), none, []⟩] [31, 32, 33, 34]))
def crecord_Wear : ACode :=
 (.seq
 (.region false [⟨some 4, .box (.tmp 0), none, []⟩,
 ⟨some 8, .mv (.const (.int .i64 0)), none, []⟩,
 ⟨some 9, .mv (.const (.int .i64 0)), none, []⟩] [])
 (.seq
 (.region false [⟨some 16, .loadN 6 (.tmp 4), none, []⟩,
 ⟨some 17, .mv (.tmp 1), none, []⟩,
 ⟨some 18, .mv (.tmp 2), none, []⟩,
 ⟨some 19, .buildSl 1 1 [(.val (.int .i64 0))] [(0, 1, (.tmp 18))], none, []⟩,
 ⟨some 20, .call (.func 66) [(.tmp 16), (.tmp 17), (.tmp 19)], none, []⟩,
 ⟨some 15, .mv (.tmp 20), none, []⟩,
 ⟨some 21, .ext (.tmp 15) 0, none, []⟩,
 ⟨some 22, .ext (.tmp 15) 1, none, []⟩,
 ⟨some 10, .mv (.tmp 21), none, []⟩,
 ⟨some 11, .mv (.tmp 22), none, []⟩] [16, 17, 18, 19, 20, 15, 21, 22])
 (.seq
 (.seq
 (.region false [⟨some 23, .mv (.tmp 11), none, []⟩,
 ⟨some 24, .bin .neq (.tmp 23) (.const (.int .i64 0)), none, []⟩] [23])
 (.cond (.tmp 24)
 (.seq
 (.region false [⟨some 25, .mv (.tmp 11), none, []⟩,
 ⟨some 8, .mv (.const (.int .i64 0)), none, []⟩,
 ⟨some 9, .mv (.tmp 25), none, []⟩] [25])
 .ret)
 .skip))
 (.seq
 (.region false [⟨some 12, .mem [(.val (.slice none 0 0))], none, []⟩] [])
 (.seq
 (.seq
 (.region false [⟨some 26, .mv (.tmp 10), none, []⟩,
 ⟨some 27, .mv (.tmp 2), none, []⟩,
 ⟨some 28, .call (.func 67) [(.tmp 26), (.tmp 27)], none, []⟩] [26, 27])
 (.block 0
 (.rangeFunc (.tmp 28) [29, 30] [(14, 30)] crecord_Wear_B29)))
 (.seq
 (.region false [⟨some 35, .load1 (.tmp 12), none, []⟩,
 ⟨some 36, .mv (.tmp 3), none, []⟩,
 ⟨some 37, .call (.func 60) [(.tmp 35), (.tmp 36)], none, []⟩,
 ⟨some 38, .ext (.tmp 37) 0, none, []⟩,
 ⟨some 39, .ext (.tmp 37) 1, none, []⟩,
 ⟨some 8, .mv (.tmp 38), none, []⟩,
 ⟨some 9, .mv (.tmp 39), none, []⟩] [35, 36, 37, 38, 39])
 .ret))))))
set_option maxRecDepth 100000 in
theorem krecord_Wear : IsCode Try.prog 58 40 crecord_Wear [.tmp 8, .tmp 9] :=
 ⟨Try.f58, _, [29, 30, 28, 24, 0, 4, 1, 2, 11, 10, 12, 14, 3, 8, 9], Try.func58, rfl, by decide, rfl, by kernel_rfl, by kernel_rfl⟩
def cref12_Wear : ACode :=
 (.seq
 (.region false [⟨some 4, .box (.tmp 0), none, []⟩,
 ⟨some 8, .mv (.const (.int .i64 0)), none, []⟩,
 ⟨some 9, .mv (.const (.int .i64 0)), none, []⟩] [])
 (.seq
 (.region false [⟨some 13, .loadN 6 (.tmp 4), none, []⟩,
 ⟨some 14, .mv (.tmp 1), none, []⟩,
 ⟨some 15, .mv (.tmp 2), none, []⟩,
 ⟨some 16, .call (.func 19) [(.tmp 13), (.tmp 14), (.tmp 15)], none, []⟩,
 ⟨some 12, .mv (.tmp 16), none, []⟩,
 ⟨some 17, .ext (.tmp 12) 0, none, []⟩,
 ⟨some 18, .ext (.tmp 12) 1, none, []⟩,
 ⟨some 10, .mv (.tmp 17), none, []⟩,
 ⟨some 11, .mv (.tmp 18), none, []⟩] [13, 14, 15, 16, 12, 17, 18])
 (.seq
 (.seq
 (.region false [⟨some 19, .mv (.tmp 11), none, []⟩,
 ⟨some 20, .bin .neq (.tmp 19) (.const (.int .i64 0)), none, []⟩] [19])
 (.cond (.tmp 20)
 (.seq
 (.region false [⟨some 21, .mv (.tmp 11), none, []⟩,
 ⟨some 8, .mv (.const (.int .i64 0)), none, []⟩,
 ⟨some 9, .mv (.tmp 21), none, []⟩] [21])
 .ret)
 .skip))
 (.seq
 (.region false [⟨some 22, .mv (.tmp 10), none, []⟩,
 ⟨some 23, .call (.func 61) [(.tmp 22)], none, []⟩,
 ⟨some 24, .mv (.tmp 3), none, []⟩,
 ⟨some 25, .call (.func 100) [(.tmp 23), (.tmp 24)], none, []⟩,
 ⟨some 26, .ext (.tmp 25) 0, none, []⟩,
 ⟨some 27, .ext (.tmp 25) 1, none, []⟩,
 ⟨some 8, .mv (.tmp 26), none, []⟩,
 ⟨some 9, .mv (.tmp 27), none, []⟩] [22, 23, 24, 25, 26, 27])
 .ret))))
set_option maxRecDepth 100000 in
theorem kref12_Wear : IsCode Try.prog 59 28 cref12_Wear [.tmp 8, .tmp 9] :=
 ⟨Try.f59, _, [20, 0, 4, 1, 2, 11, 10, 3, 8, 9], Try.func59, rfl, by decide, rfl, by kernel_rfl, by kernel_rfl⟩
def claw12_RecordWears : ACode :=
 (.seq
 (.region false [⟨some 3, .box (.tmp 0), none, []⟩,
 ⟨some 6, .mv (.const (.bool false)), none, []⟩] [])
 (.seq
 (.seq
 (.region false [⟨some 23, .loadN 7 (.tmp 3), none, []⟩,
 ⟨some 24, .call (.func 15) [(.tmp 23)], none, []⟩,
 ⟨some 25, .mv (.tmp 24), none, []⟩,
 ⟨some 26, .mv (.tmp 2), (some (some 25, false)), []⟩,
 ⟨some 27, .len_ (.tmp 26), (some (some 25, false)), []⟩,
 ⟨some 28, .bin .gtr (.tmp 27) (.const (.int .i64 12)), (some (some 25, false)), []⟩,
 ⟨some 29, .pick (.tmp 25) (.const (.bool true)) (.tmp 28), none, []⟩] [23, 24, 25, 26, 27, 28])
 (.cond (.tmp 29)
 (.seq
 (.region false [⟨some 30, .call (.func 16) [], none, []⟩,
 ⟨some 6, .mv (.tmp 30), none, []⟩] [30])
 .ret)
 .skip))
 (.seq
 (.region false [⟨some 31, .loadN 7 (.tmp 3), none, []⟩,
 ⟨some 32, .call (.func 17) [(.tmp 31)], none, []⟩,
 ⟨some 7, .mem [(.val (.int .i64 0)), (.val (.int .i64 0)), (.val (.int .i64 0)), (.val (.int .i64 0)), (.val (.int .i64 0)), (.val (.slice none 0 0)), (.val (.slice none 0 0))], none, []⟩,
 ⟨none, .store 7 (.tmp 7) (.tmp 32), none, []⟩] [31, 32])
 (.seq
 (.region false [⟨some 33, .buildSl 2 0 [] [], none, []⟩,
 ⟨some 34, .mv (.tmp 2), none, []⟩,
 ⟨some 35, .app 2 16 (.tmp 33) (.tmp 34), none, []⟩,
 ⟨some 8, .mv (.tmp 35), none, []⟩] [33, 34, 35])
 (.seq
 (.region false [⟨some 37, .fad 0 (.tmp 7), none, []⟩,
 ⟨some 38, .loadN 6 (.tmp 37), none, []⟩,
 ⟨some 39, .fad 6 (.tmp 7), none, []⟩,
 ⟨some 40, .load1 (.tmp 39), none, []⟩,
 ⟨some 41, .mv (.tmp 1), none, []⟩,
 ⟨some 42, .mv (.tmp 8), none, []⟩,
 ⟨some 43, .call (.func 58) [(.tmp 38), (.tmp 40), (.tmp 41), (.tmp 42)], none, []⟩,
 ⟨some 36, .mv (.tmp 43), none, []⟩,
 ⟨some 44, .ext (.tmp 36) 0, none, []⟩,
 ⟨some 45, .ext (.tmp 36) 1, none, []⟩,
 ⟨some 9, .mv (.tmp 44), none, []⟩,
 ⟨some 10, .mv (.tmp 45), none, []⟩] [37, 38, 39, 40, 41, 42, 43, 36, 44, 45])
 (.seq
 (.region false [⟨some 47, .fad 0 (.tmp 3), none, []⟩,
 ⟨some 48, .loadN 6 (.tmp 47), none, []⟩,
 ⟨some 49, .fad 6 (.tmp 3), none, []⟩,
 ⟨some 50, .load1 (.tmp 49), none, []⟩,
 ⟨some 51, .mv (.tmp 1), none, []⟩,
 ⟨some 52, .mv (.tmp 2), none, []⟩,
 ⟨some 53, .call (.func 59) [(.tmp 48), (.tmp 50), (.tmp 51), (.tmp 52)], none, []⟩,
 ⟨some 46, .mv (.tmp 53), none, []⟩,
 ⟨some 54, .ext (.tmp 46) 0, none, []⟩,
 ⟨some 55, .ext (.tmp 46) 1, none, []⟩,
 ⟨some 11, .mv (.tmp 54), none, []⟩,
 ⟨some 12, .mv (.tmp 55), none, []⟩] [47, 48, 49, 50, 51, 52, 53, 46, 54, 55])
 (.seq
 (.seq
 (.region false [⟨some 56, .mv (.tmp 9), none, []⟩,
 ⟨some 57, .mv (.tmp 11), none, []⟩,
 ⟨some 58, .bin .neq (.tmp 56) (.tmp 57), none, []⟩,
 ⟨some 59, .mv (.tmp 58), none, []⟩,
 ⟨some 60, .mv (.tmp 10), (some (some 59, false)), []⟩,
 ⟨some 61, .mv (.tmp 12), (some (some 59, false)), []⟩,
 ⟨some 62, .bin .neq (.tmp 60) (.tmp 61), (some (some 59, false)), []⟩,
 ⟨some 63, .pick (.tmp 59) (.const (.bool true)) (.tmp 62), none, []⟩] [56, 57, 58, 59, 60, 61, 62])
 (.cond (.tmp 63)
 (.seq
 (.region false [⟨some 6, .mv (.const (.bool false)), none, []⟩] [])
 .ret)
 .skip))
 (.seq
 (.region false [⟨some 65, .fad 0 (.tmp 7), none, []⟩,
 ⟨some 66, .loadN 6 (.tmp 65), none, []⟩,
 ⟨some 67, .fad 6 (.tmp 7), none, []⟩,
 ⟨some 68, .load1 (.tmp 67), none, []⟩,
 ⟨some 69, .mv (.tmp 1), none, []⟩,
 ⟨some 70, .call (.func 18) [(.tmp 66), (.tmp 68), (.tmp 69)], none, []⟩,
 ⟨some 64, .mv (.tmp 70), none, []⟩,
 ⟨some 71, .ext (.tmp 64) 0, none, []⟩,
 ⟨some 72, .ext (.tmp 64) 1, none, []⟩,
 ⟨some 13, .mv (.tmp 71), none, []⟩,
 ⟨some 14, .mv (.tmp 72), none, []⟩] [65, 66, 67, 68, 69, 70, 64, 71, 72])
 (.seq
 (.seq
 (.region false [⟨some 73, .mv (.tmp 14), none, []⟩,
 ⟨some 74, .bin .neq (.tmp 73) (.const (.int .i64 0)), none, []⟩] [73])
 (.cond (.tmp 74)
 (.seq
 (.region false [⟨some 75, .mv (.tmp 14), none, []⟩,
 ⟨some 76, .mv (.tmp 10), none, []⟩,
 ⟨some 77, .bin .eql (.tmp 75) (.tmp 76), none, []⟩,
 ⟨some 78, .mv (.tmp 77), none, []⟩,
 ⟨some 79, .call (.func 16) [], (some (some 78, true)), []⟩,
 ⟨some 80, .pick (.tmp 78) (.tmp 79) (.const (.bool false)), none, []⟩,
 ⟨some 6, .mv (.tmp 80), none, []⟩] [75, 76, 77, 78, 79, 80])
 .ret)
 .skip))
 (.seq
 (.region false [⟨some 82, .mv (.tmp 13), none, []⟩,
 ⟨some 83, .call (.func 61) [(.tmp 82)], none, []⟩,
 ⟨some 84, .mv (.tmp 8), none, []⟩,
 ⟨some 85, .call (.func 60) [(.tmp 83), (.tmp 84)], none, []⟩,
 ⟨some 81, .mv (.tmp 85), none, []⟩,
 ⟨some 86, .ext (.tmp 81) 0, none, []⟩,
 ⟨some 87, .ext (.tmp 81) 1, none, []⟩,
 ⟨some 15, .mv (.tmp 86), none, []⟩,
 ⟨some 16, .mv (.tmp 87), none, []⟩] [82, 83, 84, 85, 81, 86, 87])
 (.seq
 (.region false [⟨some 89, .fad 0 (.tmp 7), none, []⟩,
 ⟨some 90, .loadN 6 (.tmp 89), none, []⟩,
 ⟨some 91, .fad 6 (.tmp 7), none, []⟩,
 ⟨some 92, .load1 (.tmp 91), none, []⟩,
 ⟨some 93, .call (.func 23) [(.tmp 90), (.tmp 92)], none, []⟩,
 ⟨some 88, .mv (.tmp 93), none, []⟩,
 ⟨some 94, .ext (.tmp 88) 0, none, []⟩,
 ⟨some 95, .ext (.tmp 88) 1, none, []⟩,
 ⟨some 17, .mv (.tmp 94), none, []⟩,
 ⟨some 18, .mv (.tmp 95), none, []⟩] [89, 90, 91, 92, 93, 88, 94, 95])
 (.seq
 (.seq
 (.region false [⟨some 96, .mv (.tmp 15), none, []⟩,
 ⟨some 97, .mv (.tmp 9), none, []⟩,
 ⟨some 98, .bin .neq (.tmp 96) (.tmp 97), none, []⟩,
 ⟨some 99, .mv (.tmp 98), none, []⟩,
 ⟨some 100, .mv (.tmp 16), (some (some 99, false)), []⟩,
 ⟨some 101, .mv (.tmp 10), (some (some 99, false)), []⟩,
 ⟨some 102, .bin .neq (.tmp 100) (.tmp 101), (some (some 99, false)), []⟩,
 ⟨some 103, .pick (.tmp 99) (.const (.bool true)) (.tmp 102), none, []⟩,
 ⟨some 104, .mv (.tmp 103), none, []⟩,
 ⟨some 105, .mv (.tmp 18), (some (some 104, false)), []⟩,
 ⟨some 106, .bin .neq (.tmp 105) (.const (.int .i64 0)), (some (some 104, false)), []⟩,
 ⟨some 107, .pick (.tmp 104) (.const (.bool true)) (.tmp 106), none, []⟩] [96, 97, 98, 99, 100, 101, 102, 103, 104, 105, 106])
 (.cond (.tmp 107)
 (.seq
 (.region false [⟨some 6, .mv (.const (.bool false)), none, []⟩] [])
 .ret)
 .skip))
 (.seq
 (.region false [⟨some 19, .mv (.const (.slice none 0 0)), none, []⟩] [])
 (.seq
 (.seq
 (.region false [⟨some 20, .mv (.const (.int .i64 0)), none, []⟩] [])
 (.block 0
 (.loop
 (.seq
 (.seq
 (.region false [⟨some 108, .mv (.tmp 20), none, []⟩,
 ⟨some 109, .mv (.tmp 17), none, []⟩,
 ⟨some 110, .len_ (.tmp 109), none, []⟩,
 ⟨some 111, .bin .lss (.tmp 108) (.tmp 110), none, []⟩] [108, 109, 110])
 (.cond (.tmp 111)
 .skip
 (.exit 0)))
 (.seq
 (.block 1
 (.seq
 (.seq
 (.region true [⟨some 114, .mv (.tmp 17), none, []⟩,
 ⟨some 115, .mv (.tmp 20), none, []⟩,
 ⟨some 116, .iadS 1 (.tmp 114) (.tmp 115), none, [0, 1]⟩,
 ⟨some 117, .load1 (.tmp 116), none, [2, 0, 1]⟩,
 ⟨some 118, .bin .lss (.tmp 117) (.const (.int .i64 0)), none, [3, 2, 0, 1]⟩,
 ⟨some 119, .mv (.tmp 118), none, [4, 3, 2, 0, 1]⟩,
 ⟨some 120, .mv (.tmp 17), (some (some 119, false)), [5, 4, 3, 2, 0, 1]⟩,
 ⟨some 121, .mv (.tmp 20), (some (some 119, false)), [5, 4, 3, 2, 0, 1]⟩,
 ⟨some 122, .iadS 1 (.tmp 120) (.tmp 121), (some (some 119, false)), [6, 5, 4, 3, 2, 0, 1, 7]⟩,
 ⟨some 123, .load1 (.tmp 122), (some (some 119, false)), [8, 6, 5, 4, 3, 2, 0, 1, 7]⟩,
 ⟨some 124, .fad 6 (.tmp 7), (some (some 119, false)), [5, 4, 3, 2, 0, 1]⟩,
 ⟨some 125, .load1 (.tmp 124), (some (some 119, false)), [10, 5, 4, 3, 2, 0, 1]⟩,
 ⟨some 126, .len_ (.tmp 125), (some (some 119, false)), [11, 10, 5, 4, 3, 2, 0, 1]⟩,
 ⟨some 127, .bin .geq (.tmp 123) (.tmp 126), (some (some 119, false)), [9, 8, 6, 5, 4, 3, 2, 0, 1, 7, 12, 11, 10]⟩,
 ⟨some 128, .pick (.tmp 119) (.const (.bool true)) (.tmp 127), none, [5, 4, 3, 2, 0, 1, 13, 9, 8, 6, 7, 12, 11, 10]⟩] [114, 115, 116, 117, 118, 119, 120, 121, 122, 123, 124, 125, 126, 127])
 (.cond (.tmp 128)
 (.seq
 (.region false [⟨some 6, .mv (.const (.bool false)), none, []⟩] [])
 .ret)
 .skip))
 (.region true [⟨some 129, .mv (.tmp 19), none, []⟩,
 ⟨some 130, .fad 6 (.tmp 7), none, []⟩,
 ⟨some 131, .load1 (.tmp 130), none, [1]⟩,
 ⟨some 132, .mv (.tmp 17), none, []⟩,
 ⟨some 133, .mv (.tmp 20), none, []⟩,
 ⟨some 134, .iadS 1 (.tmp 132) (.tmp 133), none, [3, 4]⟩,
 ⟨some 135, .load1 (.tmp 134), none, [5, 3, 4]⟩,
 ⟨some 136, .iadS 1 (.tmp 131) (.tmp 135), none, [2, 1, 6, 5, 3, 4]⟩,
 ⟨some 137, .load1 (.tmp 136), none, [7, 2, 1, 6, 5, 3, 4]⟩,
 ⟨some 138, .buildSl 1 1 [(.val (.slice none 0 0))] [(0, 1, (.tmp 137))], none, [8, 7, 2, 1, 6, 5, 3, 4]⟩,
 ⟨some 139, .app 1 24 (.tmp 129) (.tmp 138), none, [0, 9, 8, 7, 2, 1, 6, 5, 3, 4]⟩,
 ⟨some 19, .mv (.tmp 139), none, [10, 0, 9, 8, 7, 2, 1, 6, 5, 3, 4]⟩] [129, 130, 131, 132, 133, 134, 135, 136, 137, 138, 139])))
 (.region false [⟨some 112, .mv (.tmp 20), none, []⟩,
 ⟨some 113, .bin .add (.tmp 112) (.const (.int .i64 1)), none, []⟩,
 ⟨some 20, .mv (.tmp 113), none, []⟩] [112, 113]))))))
 (.seq
 (.region false [⟨some 141, .fad 0 (.tmp 7), none, []⟩,
 ⟨some 142, .loadN 6 (.tmp 141), none, []⟩,
 ⟨some 143, .mv (.tmp 19), none, []⟩,
 ⟨some 144, .mv (.tmp 1), none, []⟩,
 ⟨some 145, .mv (.tmp 8), none, []⟩,
 ⟨some 146, .call (.func 58) [(.tmp 142), (.tmp 143), (.tmp 144), (.tmp 145)], none, []⟩,
 ⟨some 140, .mv (.tmp 146), none, []⟩,
 ⟨some 147, .ext (.tmp 140) 0, none, []⟩,
 ⟨some 148, .ext (.tmp 140) 1, none, []⟩,
 ⟨some 21, .mv (.tmp 147), none, []⟩,
 ⟨some 22, .mv (.tmp 148), none, []⟩] [141, 142, 143, 144, 145, 146, 140, 147, 148])
 (.seq
 (.region false [⟨some 149, .mv (.tmp 21), none, []⟩,
 ⟨some 150, .mv (.tmp 9), none, []⟩,
 ⟨some 151, .bin .eql (.tmp 149) (.tmp 150), none, []⟩,
 ⟨some 152, .mv (.tmp 151), none, []⟩,
 ⟨some 153, .mv (.tmp 22), (some (some 152, true)), []⟩,
 ⟨some 154, .mv (.tmp 10), (some (some 152, true)), []⟩,
 ⟨some 155, .bin .eql (.tmp 153) (.tmp 154), (some (some 152, true)), []⟩,
 ⟨some 156, .pick (.tmp 152) (.tmp 155) (.const (.bool false)), none, []⟩,
 ⟨some 157, .mv (.tmp 156), none, []⟩,
 ⟨some 158, .call (.func 16) [], (some (some 157, true)), []⟩,
 ⟨some 159, .pick (.tmp 157) (.tmp 158) (.const (.bool false)), none, []⟩,
 ⟨some 6, .mv (.tmp 159), none, []⟩] [149, 150, 151, 152, 153, 154, 155, 156, 157, 158, 159])
 .ret))))))))))))))))
set_option maxRecDepth 100000 in
theorem klaw12_RecordWears : IsCode Try.prog 13 160 claw12_RecordWears [.tmp 6] :=
 ⟨Try.f13, _, [128, 111, 107, 74, 63, 29, 0, 3, 2, 7, 1, 8, 9, 11, 10, 12, 14, 13, 15, 16, 18, 20, 17, 19, 21, 22, 6], Try.func13, rfl, by decide, rfl, by kernel_rfl, by kernel_rfl⟩
end Go.Proofs.Ytdcodicoclecnaa
/- The functions' bodies, translated. Written by a program; no conditions. -/
namespace Go.Proofs.Ytdcodicoclecnaa
open Go.RowKit Lift

def cspans_within : ACode :=
 (.seq
 (.region false [⟨some 6, .mv (.const (.bool false)), none, []⟩] [])
 (.seq
 (.region false [⟨some 7, .mv (.tmp 0), none, []⟩,
 ⟨some 8, .mv (.tmp 1), none, []⟩,
 ⟨some 9, .bin .geq (.tmp 7) (.tmp 8), none, []⟩,
 ⟨some 10, .mv (.tmp 9), none, []⟩,
 ⟨some 11, .mv (.tmp 0), (some (some 10, true)), []⟩,
 ⟨some 12, .mv (.tmp 2), (some (some 10, true)), []⟩,
 ⟨some 13, .bin .leq (.tmp 11) (.tmp 12), (some (some 10, true)), []⟩,
 ⟨some 14, .pick (.tmp 10) (.tmp 13) (.const (.bool false)), none, []⟩,
 ⟨some 6, .mv (.tmp 14), none, []⟩] [7, 8, 9, 10, 11, 12, 13, 14])
 .ret))
set_option maxRecDepth 100000 in
theorem kspans_within : IsCode Try.prog 161 15 cspans_within [.tmp 6] :=
 ⟨Try.f161, _, [0, 1, 2, 6], Try.func161, rfl, by decide, rfl, by kernel_rfl, by kernel_rfl⟩
def cspans_valid : ACode :=
 (.seq
 (.region false [⟨some 1, .box (.tmp 0), none, []⟩,
 ⟨some 2, .mv (.const (.bool false)), none, []⟩] [])
 (.seq
 (.region false [⟨some 3, .fad 0 (.tmp 1), none, []⟩,
 ⟨some 4, .load1 (.tmp 3), none, []⟩,
 ⟨some 5, .fad 1 (.tmp 1), none, []⟩,
 ⟨some 6, .load1 (.tmp 5), none, []⟩,
 ⟨some 7, .call (.func 161) [(.tmp 4), (.const (.int .i64 (-1000000))), (.tmp 6)], none, []⟩,
 ⟨some 8, .mv (.tmp 7), none, []⟩,
 ⟨some 9, .fad 1 (.tmp 1), (some (some 8, true)), []⟩,
 ⟨some 10, .load1 (.tmp 9), (some (some 8, true)), []⟩,
 ⟨some 11, .bin .leq (.tmp 10) (.const (.int .i64 1000000)), (some (some 8, true)), []⟩,
 ⟨some 12, .pick (.tmp 8) (.tmp 11) (.const (.bool false)), none, []⟩,
 ⟨some 2, .mv (.tmp 12), none, []⟩] [3, 4, 5, 6, 7, 8, 9, 10, 11, 12])
 .ret))
set_option maxRecDepth 100000 in
theorem kspans_valid : IsCode Try.prog 165 13 cspans_valid [.tmp 2] :=
 ⟨Try.f165, _, [0, 1, 2], Try.func165, rfl, by decide, rfl, by kernel_rfl, by kernel_rfl⟩
def cspans_spanned_S1 : ACode :=
 (.seq
 (.region false [⟨some 1, .box (.tmp 0), none, []⟩,
 ⟨some 2, .mv (.const (.bool false)), none, []⟩] [])
 (.seq
 (.region false [⟨some 3, .loadN 2 (.tmp 1), none, []⟩,
 ⟨some 4, .call (.func 165) [(.tmp 3)], none, []⟩,
 ⟨some 5, .un .not (.tmp 4), none, []⟩,
 ⟨some 2, .mv (.tmp 5), none, []⟩] [3, 4, 5])
 .ret))
set_option maxRecDepth 100000 in
theorem kspans_spanned_S1 : IsCode Try.prog 164 6 cspans_spanned_S1 [.tmp 2] :=
 ⟨Try.f164, _, [0, 1, 2], Try.func164, rfl, by decide, rfl, by kernel_rfl, by kernel_rfl⟩
def cslices_IndexFunc_L_L_Japi_Span_Kapi_Span_J : ACode :=
 (.seq
 (.region false [⟨some 4, .mv (.const (.int .i64 0)), none, []⟩] [])
 (.seq
 (.seq
 (.region false [⟨some 6, .mv (.tmp 0), none, []⟩,
 ⟨some 7, .len_ (.tmp 6), none, []⟩,
 ⟨some 8, .mv (.const (.int .i64 0)), none, []⟩] [6])
 (.block 0
 (.loop
 (.seq
 (.region false [⟨some 9, .bin .lss (.tmp 8) (.tmp 7), none, []⟩] [])
 (.seq
 (.cond (.tmp 9)
 .skip
 (.exit 0))
 (.seq
 (.block 1
 (.seq
 (.region false [⟨some 10, .mv (.tmp 8), none, []⟩,
 ⟨some 5, .mv (.tmp 10), none, []⟩] [10])
 (.seq
 (.region false [⟨some 11, .mv (.tmp 1), none, []⟩,
 ⟨some 12, .mv (.tmp 0), none, []⟩,
 ⟨some 13, .mv (.tmp 5), none, []⟩,
 ⟨some 14, .iadS 2 (.tmp 12) (.tmp 13), none, []⟩,
 ⟨some 15, .loadN 2 (.tmp 14), none, []⟩,
 ⟨some 16, .call (.tmp 11) [(.tmp 15)], none, []⟩] [11, 12, 13, 14, 15])
 (.cond (.tmp 16)
 (.seq
 (.region false [⟨some 17, .mv (.tmp 5), none, []⟩,
 ⟨some 4, .mv (.tmp 17), none, []⟩] [17])
 .ret)
 .skip))))
 (.region false [⟨some 18, .bin .add (.tmp 8) (.const (.int .i64 1)), none, []⟩,
 ⟨some 8, .mv (.tmp 18), none, []⟩] [18])))))))
 (.seq
 (.region false [⟨some 4, .mv (.const (.int .i64 (-1))), none, []⟩] [])
 .ret)))
set_option maxRecDepth 100000 in
theorem kslices_IndexFunc_L_L_Japi_Span_Kapi_Span_J : IsCode Try.prog 158 19 cslices_IndexFunc_L_L_Japi_Span_Kapi_Span_J [.tmp 4] :=
 ⟨Try.f158, _, [16, 9, 0, 8, 7, 1, 5, 4], Try.func158, rfl, by decide, rfl, by kernel_rfl, by kernel_rfl⟩
def cslices_ContainsFunc_L_L_Japi_Span_Kapi_Span_J : ACode :=
 (.seq
 (.region false [⟨some 4, .mv (.const (.bool false)), none, []⟩] [])
 (.seq
 (.region false [⟨some 5, .mv (.tmp 0), none, []⟩,
 ⟨some 6, .mv (.tmp 1), none, []⟩,
 ⟨some 7, .call (.func 158) [(.tmp 5), (.tmp 6)], none, []⟩,
 ⟨some 8, .bin .geq (.tmp 7) (.const (.int .i64 0)), none, []⟩,
 ⟨some 4, .mv (.tmp 8), none, []⟩] [5, 6, 7, 8])
 .ret))
set_option maxRecDepth 100000 in
theorem kslices_ContainsFunc_L_L_Japi_Span_Kapi_Span_J : IsCode Try.prog 146 9 cslices_ContainsFunc_L_L_Japi_Span_Kapi_Span_J [.tmp 4] :=
 ⟨Try.f146, _, [0, 1, 4], Try.func146, rfl, by decide, rfl, by kernel_rfl, by kernel_rfl⟩
def cspans_spanned : ACode :=
 (.seq
 (.region false [⟨some 2, .mv (.const (.int .i64 0)), none, []⟩] [])
 (.seq
 (.seq
 (.region false [⟨some 3, .mv (.tmp 0), none, []⟩,
 ⟨some 4, .call (.func 146) [(.tmp 3), (.func 164)], none, []⟩] [3])
 (.cond (.tmp 4)
 (.seq
 (.region false [⟨some 2, .mv (.const (.int .i64 10)), none, []⟩] [])
 .ret)
 .skip))
 (.seq
 (.region false [⟨some 2, .mv (.const (.int .i64 0)), none, []⟩] [])
 .ret)))
set_option maxRecDepth 100000 in
theorem kspans_spanned : IsCode Try.prog 162 5 cspans_spanned [.tmp 2] :=
 ⟨Try.f162, _, [4, 0, 2], Try.func162, rfl, by decide, rfl, by kernel_rfl, by kernel_rfl⟩
def cspans_Check : ACode :=
 (.seq
 (.region false [⟨some 2, .mv (.const (.int .i64 0)), none, []⟩] [])
 (.seq
 (.seq
 (.region false [⟨some 3, .mv (.tmp 0), none, []⟩,
 ⟨some 4, .len_ (.tmp 3), none, []⟩,
 ⟨some 5, .call (.func 161) [(.tmp 4), (.const (.int .i64 1)), (.const (.int .i64 3))], none, []⟩,
 ⟨some 6, .un .not (.tmp 5), none, []⟩] [3, 4, 5])
 (.cond (.tmp 6)
 (.seq
 (.region false [⟨some 2, .mv (.const (.int .i64 10)), none, []⟩] [])
 .ret)
 .skip))
 (.seq
 (.region false [⟨some 7, .mv (.tmp 0), none, []⟩,
 ⟨some 8, .call (.func 162) [(.tmp 7)], none, []⟩,
 ⟨some 2, .mv (.tmp 8), none, []⟩] [7, 8])
 .ret)))
set_option maxRecDepth 100000 in
theorem kspans_Check : IsCode Try.prog 159 9 cspans_Check [.tmp 2] :=
 ⟨Try.f159, _, [6, 0, 2], Try.func159, rfl, by decide, rfl, by kernel_rfl, by kernel_rfl⟩
def cslices_IndexFunc_L_L_Jint_Kint_J : ACode :=
 (.seq
 (.region false [⟨some 4, .mv (.const (.int .i64 0)), none, []⟩] [])
 (.seq
 (.seq
 (.region false [⟨some 6, .mv (.tmp 0), none, []⟩,
 ⟨some 7, .len_ (.tmp 6), none, []⟩,
 ⟨some 8, .mv (.const (.int .i64 0)), none, []⟩] [6])
 (.block 0
 (.loop
 (.seq
 (.region false [⟨some 9, .bin .lss (.tmp 8) (.tmp 7), none, []⟩] [])
 (.seq
 (.cond (.tmp 9)
 .skip
 (.exit 0))
 (.seq
 (.block 1
 (.seq
 (.region false [⟨some 10, .mv (.tmp 8), none, []⟩,
 ⟨some 5, .mv (.tmp 10), none, []⟩] [10])
 (.seq
 (.region false [⟨some 11, .mv (.tmp 1), none, []⟩,
 ⟨some 12, .mv (.tmp 0), none, []⟩,
 ⟨some 13, .mv (.tmp 5), none, []⟩,
 ⟨some 14, .iadS 1 (.tmp 12) (.tmp 13), none, []⟩,
 ⟨some 15, .load1 (.tmp 14), none, []⟩,
 ⟨some 16, .call (.tmp 11) [(.tmp 15)], none, []⟩] [11, 12, 13, 14, 15])
 (.cond (.tmp 16)
 (.seq
 (.region false [⟨some 17, .mv (.tmp 5), none, []⟩,
 ⟨some 4, .mv (.tmp 17), none, []⟩] [17])
 .ret)
 .skip))))
 (.region false [⟨some 18, .bin .add (.tmp 8) (.const (.int .i64 1)), none, []⟩,
 ⟨some 8, .mv (.tmp 18), none, []⟩] [18])))))))
 (.seq
 (.region false [⟨some 4, .mv (.const (.int .i64 (-1))), none, []⟩] [])
 .ret)))
set_option maxRecDepth 100000 in
theorem kslices_IndexFunc_L_L_Jint_Kint_J : IsCode Try.prog 144 19 cslices_IndexFunc_L_L_Jint_Kint_J [.tmp 4] :=
 ⟨Try.f144, _, [16, 9, 0, 8, 7, 1, 5, 4], Try.func144, rfl, by decide, rfl, by kernel_rfl, by kernel_rfl⟩
def cslices_ContainsFunc_L_L_Jint_Kint_J : ACode :=
 (.seq
 (.region false [⟨some 4, .mv (.const (.bool false)), none, []⟩] [])
 (.seq
 (.region false [⟨some 5, .mv (.tmp 0), none, []⟩,
 ⟨some 6, .mv (.tmp 1), none, []⟩,
 ⟨some 7, .call (.func 144) [(.tmp 5), (.tmp 6)], none, []⟩,
 ⟨some 8, .bin .geq (.tmp 7) (.const (.int .i64 0)), none, []⟩,
 ⟨some 4, .mv (.tmp 8), none, []⟩] [5, 6, 7, 8])
 .ret))
set_option maxRecDepth 100000 in
theorem kslices_ContainsFunc_L_L_Jint_Kint_J : IsCode Try.prog 110 9 cslices_ContainsFunc_L_L_Jint_Kint_J [.tmp 4] :=
 ⟨Try.f110, _, [0, 1, 4], Try.func110, rfl, by decide, rfl, by kernel_rfl, by kernel_rfl⟩
end Go.Proofs.Ytdcodicoclecnaa
/- Bits in numbers: and, or, shifts, masks. No conditions. -/
namespace Go.Proofs.Ytdcodicoclecnaa
open Go.RowKit Lift

theorem bv_nat (a : Nat) (h : a < 9223372036854775808) : (BitVec.ofInt IntKind.i64.bits (a : Int)).toNat = a := by
  show (BitVec.ofInt 64 (a : Int)).toNat = a
  rw [BitVec.toNat_ofInt]
  have : ((2 ^ 64 : Nat) : Int) = 18446744073709551616 := by decide
  rw [this]; omega
theorem and_nat (a b : Nat) (ha : a < 9223372036854775808) (hb : b < 9223372036854775808) : IntKind.i64.wrap ((BitVec.ofInt IntKind.i64.bits (a : Int) &&& BitVec.ofInt IntKind.i64.bits (b : Int)).toNat) = ((a &&& b : Nat) : Int) := by
  rw [BitVec.toNat_and, bv_nat a ha, bv_nat b hb]
  have : a &&& b ≤ a := Nat.and_le_left
  exact wrap_in (by omega) (by omega)
theorem or_nat (a b : Nat) (ha : a < 9223372036854775808) (hb : b < 9223372036854775808) : IntKind.i64.wrap ((BitVec.ofInt IntKind.i64.bits (a : Int) ||| BitVec.ofInt IntKind.i64.bits (b : Int)).toNat) = ((a ||| b : Nat) : Int) := by
  rw [BitVec.toNat_or, bv_nat a ha, bv_nat b hb]
  have : a ||| b < 2 ^ 63 := Nat.or_lt_two_pow (by omega) (by omega)
  exact wrap_in (by omega) (by omega)
theorem fdiv_pow (a k : Nat) : Int.fdiv (a : Int) (2 ^ k) = ((a / 2 ^ k : Nat) : Int) := by
  rw [Int.fdiv_eq_ediv_of_nonneg _ (by exact Int.le_of_lt (Int.pow_pos (by omega)))]
  simp
theorem pow_mono {a b : Nat} (h : a ≤ b) : 2 ^ a ≤ 2 ^ b := Nat.pow_le_pow_right (by omega) h
theorem shl_nat (a k : Nat) : (a : Int) * 2 ^ k = ((a * 2 ^ k : Nat) : Int) := by simp
def msk (B S : Nat) : Nat := (2 ^ S - 1) * 2 ^ B
theorem msk_test (B S j : Nat) : (msk B S).testBit j = (decide (B ≤ j) && decide (j < B + S)) := by
  unfold msk
  rw [← Nat.shiftLeft_eq, Nat.testBit_shiftLeft, Nat.testBit_two_pow_sub_one]
  by_cases h : B ≤ j
  · simp only [ge_iff_le, h, decide_true, Bool.true_and]
    exact decide_eq_decide.2 (by omega)
  · simp [h]
theorem msk_lt {B S : Nat} (h : B + S ≤ 12) : msk B S < 4096 := by
  refine Nat.lt_pow_two_of_testBit (n := 12) _ fun i hi => ?_
  rw [msk_test]
  simp only [Bool.and_eq_false_iff, decide_eq_false_iff_not]
  right; omega
theorem and_msk (w B S : Nat) : (w &&& msk B S) / 2 ^ B = w / 2 ^ B % 2 ^ S := by
  refine Nat.eq_of_testBit_eq fun j => ?_
  rw [← Nat.shiftRight_eq_div_pow, Nat.testBit_shiftRight, Nat.testBit_and, msk_test, Nat.testBit_mod_two_pow, ← Nat.shiftRight_eq_div_pow, Nat.testBit_shiftRight]
  have h1 : B ≤ B + j := by omega
  by_cases h : j < S
  · have h2 : B + j < B + S := by omega
    simp [h]
  · have h2 : ¬ B + j < B + S := by omega
    simp [h]
theorem and_low (a S : Nat) : a &&& (2 ^ S - 1) = a % 2 ^ S := Nat.and_two_pow_sub_one_eq_mod a S
theorem half_iff (n S : Nat) (hS : 1 ≤ S) (h : n < 2 ^ S) : n / 2 ^ (S - 1) = 1 ↔ 2 ^ (S - 1) ≤ n := by
  obtain ⟨k, rfl⟩ : ∃ k, S = k + 1 := ⟨S - 1, by omega⟩
  rw [Nat.add_sub_cancel]
  rw [Nat.pow_succ] at h
  have hp : 0 < 2 ^ k := Nat.pow_pos (by omega)
  constructor
  · intro h1
    have := Nat.div_mul_le_self n (2 ^ k)
    rw [h1] at this; omega
  · intro h1
    refine Nat.div_eq_of_lt_le (by omega) (by omega)
theorem and_zero_iff (a b : Nat) : a &&& b = 0 ↔ ∀ j, ¬ (a.testBit j = true ∧ b.testBit j = true) := by
  constructor
  · intro h j hj
    have := congrArg (fun x => x.testBit j) h
    simp [Nat.testBit_and, hj.1, hj.2] at this
  · intro h
    refine Nat.eq_of_testBit_eq fun j => ?_
    rw [Nat.testBit_and, Nat.zero_testBit]
    have := h j
    cases h1 : a.testBit j <;> cases h2 : b.testBit j <;> simp_all
end Go.Proofs.Ytdcodicoclecnaa
/- A recorder's layout, its frames and samples, in numbers. No conditions. -/
namespace Go.Proofs.Ytdcodicoclecnaa
open Go.RowKit Lift

structure Fl where
  word : Int
  bit : Int
  size : Int
  sgn : Bool
  num : Int
  den : Int
  add : Int
  every : Int
  phase : Int
structure Lay where
  words : Int
  s0 : Int
  s1 : Int
  s2 : Int
  s3 : Int
  fl : List Fl
def flC (f : Fl) : List D := [dI f.word, dI f.bit, dI f.size, dB f.sgn, dI f.num, dI f.den, dI f.add, dI f.every, dI f.phase]
def flD (f : Fl) : D := .agg (flC f)
def fls (l : List Fl) : List (List D) := l.map flC
def layC (l : Lay) : List D := [dI l.words, dI l.s0, dI l.s1, dI l.s2, dI l.s3, .list (fls l.fl)]
def layD (l : Lay) : D := .agg (layC l)
def fl0 : Fl := ⟨0, 0, 0, false, 0, 0, 0, 0, 0⟩
theorem fls_len (l : List Fl) : (fls l).length = l.length := by simp [fls]
theorem fls_all (l : List Fl) : (fls l).all (fun x => x.length == 9) = true := by simp [fls, flC]
theorem fls_nine (l : List Fl) : ∀ e ∈ fls l, e.length = 9 := by simp [fls, flC]
theorem fls_gd (l : List Fl) (k : Nat) (h : k < l.length) : (fls l)[k]? = some (flC (l[k]?.getD fl0)) := by simp [fls, h]
def flcells (l : List Fl) : List D := l.flatMap flC
theorem fls_flat (l : List Fl) : (fls l).flatten = flcells l := by simp [fls, flcells, List.flatMap]
def sync (l : Lay) : List Int := [l.s0, l.s1, l.s2, l.s3]

structure FOk (w : Int) (f : Fl) : Prop where
  w1 : 1 ≤ f.word
  w2 : f.word ≤ w - 1
  b1 : 0 ≤ f.bit
  s1 : 1 ≤ f.size
  bs : f.bit + f.size ≤ 12
  n1 : -1000 ≤ f.num
  n2 : f.num ≤ 1000
  d1 : 1 ≤ f.den
  d2 : f.den ≤ 1000
  a1 : -1000000 ≤ f.add
  a2 : f.add ≤ 1000000
  ev : f.every = 1 ∨ f.every = 2 ∨ f.every = 4
  p1 : 0 ≤ f.phase
  p2 : f.phase ≤ f.every - 1
def inSub (f : Fl) (s : Int) : Prop := s.tmod f.every = f.phase
instance (f : Fl) (s : Int) : Decidable (inSub f s) := inferInstanceAs (Decidable (_ = _))
def Ovl (f g : Fl) : Prop := f.word = g.word ∧ f.bit < g.bit + g.size ∧ g.bit < f.bit + f.size
structure LayOk (l : Lay) : Prop where
  w1 : 2 ≤ l.words
  w2 : l.words ≤ 32
  nf : l.fl.length ≤ 16
  sy : ∀ k, k < 4 → 0 ≤ (sync l)[k]?.getD 0 ∧ (sync l)[k]?.getD 0 ≤ 4095
  sd : ∀ i, i < 4 → ∀ k, k < i → (sync l)[i]?.getD 0 ≠ (sync l)[k]?.getD 0
  fo : ∀ k, k < l.fl.length → FOk l.words (l.fl[k]?.getD fl0)
  ov : ∀ i, i < l.fl.length → ∀ k, k < i → ∀ s : Nat, s < 4 → inSub (l.fl[i]?.getD fl0) s → inSub (l.fl[k]?.getD fl0) s → ¬ Ovl (l.fl[i]?.getD fl0) (l.fl[k]?.getD fl0)
open Classical in
noncomputable def layE (l : Lay) (E : Int) : Int := if LayOk l then 0 else E
theorem layE_ok {l : Lay} {E : Int} (h : LayOk l) : layE l E = 0 := if_pos h
theorem layE_no {l : Lay} {E : Int} (h : ¬ LayOk l) : layE l E = E := if_neg h

def mskF (f : Fl) : Nat := msk f.bit.toNat f.size.toNat
theorem mskF_test (f : Fl) (j : Nat) : (mskF f).testBit j = (decide (f.bit.toNat ≤ j) && decide (j < f.bit.toNat + f.size.toNat)) := msk_test _ _ _
theorem mskF_lt {w : Int} {f : Fl} (h : FOk w f) : mskF f < 4096 := msk_lt (by have := h.b1; have := h.s1; have := h.bs; omega)
def rawU (f : Fl) (w : Nat) : Nat := w / 2 ^ f.bit.toNat % 2 ^ f.size.toNat
def rawI (f : Fl) (w : Nat) : Int := if f.sgn = true ∧ 2 ^ (f.size.toNat - 1) ≤ rawU f w then (rawU f w : Int) - 2 ^ f.size.toNat else rawU f w
def valI (f : Fl) (r : Int) : Int := f.add * f.den + r * f.num
theorem rawU_lt {w : Int} {f : Fl} (h : FOk w f) (x : Nat) : rawU f x < 4096 := by
  have h1 : rawU f x < 2 ^ f.size.toNat := Nat.mod_lt _ (Nat.pow_pos (by omega))
  have h2 : 2 ^ f.size.toNat ≤ 2 ^ 12 := pow_mono (by have := h.b1; have := h.bs; omega)
  omega
theorem size_pow {w : Int} {f : Fl} (h : FOk w f) : 1 ≤ 2 ^ f.size.toNat ∧ 2 ^ f.size.toNat ≤ 4096 ∧ f.size.toNat ≤ 12 ∧ 1 ≤ f.size.toNat ∧ f.bit.toNat ≤ 12 ∧ f.bit.toNat + f.size.toNat ≤ 12 ∧ 2 ^ f.size.toNat = 2 * 2 ^ (f.size.toNat - 1) := by
  have := h.b1; have := h.bs; have := h.s1
  have h1 : 1 ≤ 2 ^ f.size.toNat := Nat.pow_pos (by omega)
  have h2 : 2 ^ f.size.toNat ≤ 2 ^ 12 := pow_mono (by omega)
  obtain ⟨k, hk⟩ : ∃ k, f.size.toNat = k + 1 := ⟨f.size.toNat - 1, by omega⟩
  refine ⟨h1, h2, by omega, by omega, by omega, by omega, ?_⟩
  rw [hk, Nat.add_sub_cancel, Nat.pow_succ]; omega
theorem rawI_bd {w : Int} {f : Fl} (h : FOk w f) (x : Nat) : -4096 ≤ rawI f x ∧ rawI f x ≤ 4096 := by
  have h1 := rawU_lt h x
  have h2 := size_pow h
  have h3 : ((2 ^ f.size.toNat : Nat) : Int) = (2 : Int) ^ f.size.toNat := by simp
  unfold rawI
  split <;> omega
theorem mulB {a b A B : Int} (h1 : -A ≤ a) (h2 : a ≤ A) (h3 : -B ≤ b) (h4 : b ≤ B) : -(A * B) ≤ a * b ∧ a * b ≤ A * B := by
  have hA : 0 ≤ A := by omega
  have hB : 0 ≤ B := by omega
  have e : (a * b).natAbs ≤ (A * B).natAbs := by
    rw [Int.natAbs_mul, Int.natAbs_mul]
    exact Nat.mul_le_mul (by omega) (by omega)
  have : 0 ≤ A * B := Int.mul_nonneg hA hB
  omega
def wOk (x : Int) : Bool := decide (0 ≤ x) && decide (x ≤ 4095)
def frOk (l : Lay) (fr : List Int) : Prop := (fr.length : Int) = l.words ∧ fr.all wOk = true
instance (l : Lay) (fr : List Int) : Decidable (frOk l fr) := inferInstanceAs (Decidable (_ ∧ _))
def idx4 (l : Lay) (x : Int) : Int := if x = l.s0 then 0 else if x = l.s1 then 1 else if x = l.s2 then 2 else if x = l.s3 then 3 else -1
def subF (l : Lay) (fr : List Int) : Int := if frOk l fr then idx4 l (fr[0]?.getD 0) else -1
theorem idx4_bd (l : Lay) (x : Int) : -1 ≤ idx4 l x ∧ idx4 l x ≤ 3 := by
  unfold idx4
  split
  · omega
  · split
    · omega
    · split
      · omega
      · split <;> omega
theorem subF_bd (l : Lay) (fr : List Int) : -1 ≤ subF l fr ∧ subF l fr ≤ 3 := by
  unfold subF
  split
  · exact idx4_bd _ _
  · omega
theorem subF_ok {l : Lay} {fr : List Int} (h : 0 ≤ subF l fr) : frOk l fr := by
  unfold subF at h
  split at h
  · assumption
  · omega
def smp (l : Lay) (f : Fl) (fr : List Int) : Option Int := if 0 ≤ subF l fr ∧ inSub f (subF l fr) then some (valI f (rawI f (fr[f.word.toNat]?.getD 0).toNat)) else none
def frm (frs : List (List Int)) (k : Nat) : List Int := frs[k]?.getD []
def smps (l : Lay) (f : Fl) (frs : List (List Int)) (k : Nat) : List (Int × Int) := (List.range k).filterMap fun i => (smp l f (frm frs i)).map fun v => ((i : Int), v)
theorem smps_succ (l : Lay) (f : Fl) (frs : List (List Int)) (k : Nat) : smps l f frs (k + 1) = smps l f frs k ++ (match smp l f (frm frs k) with | some v => [((k : Int), v)] | none => []) := by
  unfold smps
  rw [List.range_succ, List.filterMap_append]
  congr 1
  cases h : smp l f (frm frs k) <;> simp [h]
theorem smps_len (l : Lay) (f : Fl) (frs : List (List Int)) (k : Nat) : (smps l f frs k).length ≤ k := by
  have := List.length_filterMap_le (fun i => (smp l f (frm frs i)).map fun v => ((i : Int), v)) (List.range k)
  rwa [List.length_range] at this
def gds (l : Lay) (frs : List (List Int)) (k : Nat) : List (Int × Int) := (List.range k).filterMap fun (i : Nat) => if 0 ≤ subF l (frm frs i) then some ((i : Int), subF l (frm frs i)) else none
theorem gds_succ (l : Lay) (frs : List (List Int)) (k : Nat) : gds l frs (k + 1) = gds l frs k ++ (if 0 ≤ subF l (frm frs k) then [((k : Int), subF l (frm frs k))] else []) := by
  unfold gds
  rw [List.range_succ, List.filterMap_append]
  congr 1
  by_cases h : 0 ≤ subF l (frm frs k) <;> simp [h]
theorem gds_len (l : Lay) (frs : List (List Int)) (k : Nat) : (gds l frs k).length ≤ k := by
  have := List.length_filterMap_le (fun (i : Nat) => if 0 ≤ subF l (frm frs i) then some ((i : Int), subF l (frm frs i)) else none) (List.range k)
  rwa [List.length_range] at this
end Go.Proofs.Ytdcodicoclecnaa
