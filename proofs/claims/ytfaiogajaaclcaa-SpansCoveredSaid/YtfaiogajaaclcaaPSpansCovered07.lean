/- Texts of the law SpansCovered, part 7. No conditions. -/
import Derived.Test.YtfaiogajaaclcaaPSpansCovered06
/- The contract of the law's look at an example: works() is true; old memory stays. -/
namespace Go.Proofs.Ytfaiogajaaclcaa
open Go.RowKit

theorem ints_of_block {w : World} {B : Nat} {cs : Array Value} {t : TypeId} {fz : Nat × Nat} (l : List Int) (h : w.heap[B]? = some (.cells cs t fz)) (hc : cs = (IV l).toArray) : Ints w (some ⟨B, 0, none⟩) l := fun _ => by
  subst hc
  refine ⟨B, 0, rfl, (Array.getElem?_eq_some_iff.1 h).1, fun k hk => ?_⟩
  rw [cell_of_row w B (0 + k) _ _ _ h]
  simp [IV, hk]
def exX : List Int := [0, 10, 20]
def exY : List Int := [0, 5]
def exV : List (List Int) := [[0, 10], [20, 30], [10, 50]]
def ExPost (w : World) (e : Ending) (w' : World) : Prop := ∃ X Y V, e = .returned (.agg #[.slice X 3 3, .slice Y 2 2, .slice V 3 3]) ∧ TabR w' X Y V 3 2 3 exX exY exV ∧ Below w.heap.size w w'
set_option maxHeartbeats 1000000 in
theorem example_any (w : World) : Calls Try.prog 65 #[] w (ExPost w) := by
  go_enter Try.func65, Try.ntmps65
  go_wp2_with fail
  have hx : ∀ (o1 o2 o3 o4 o5 o6 o7 : Obj) (k : Nat), ((((((((w.alloc o1).alloc o2).alloc o3).alloc o4).alloc o5).alloc o6).alloc o7)).heap[w.heap.size + k]? = match k with | 0 => some o1 | 1 => some o2 | 2 => some o3 | 3 => some o4 | 4 => some o5 | 5 => some o6 | 6 => some o7 | _ => none := by
    intro o1 o2 o3 o4 o5 o6 o7 k
    simp only [heap_alloc_at, World.size_alloc]
    match k with
    | 0 =>
      repeat (first | rw [if_pos trivial] | rw [if_pos (by omega)] | rw [if_neg (by omega)])
      rfl
    | 1 =>
      repeat (first | rw [if_pos trivial] | rw [if_pos (by omega)] | rw [if_neg (by omega)])
      rfl
    | 2 =>
      repeat (first | rw [if_pos trivial] | rw [if_pos (by omega)] | rw [if_neg (by omega)])
      rfl
    | 3 =>
      repeat (first | rw [if_pos trivial] | rw [if_pos (by omega)] | rw [if_neg (by omega)])
      rfl
    | 4 =>
      repeat (first | rw [if_pos trivial] | rw [if_pos (by omega)] | rw [if_neg (by omega)])
      rfl
    | 5 =>
      repeat (first | rw [if_pos trivial] | rw [if_pos (by omega)] | rw [if_neg (by omega)])
      rfl
    | 6 =>
      repeat (first | rw [if_pos trivial] | rw [if_pos (by omega)] | rw [if_neg (by omega)])
      rfl
    | k + 7 =>
      repeat (rw [if_neg (by omega)])
      exact Array.getElem?_eq_none (by omega)
  refine bodyPost_ret (v := .agg #[.slice (some ⟨w.heap.size + 1, 0, none⟩) 3 3, .slice (some ⟨w.heap.size + 2, 0, none⟩) 2 2, .slice (some ⟨w.heap.size + 6, 0, none⟩) 3 3]) (by simp [results, Try.results65, go_sem]) rfl ⟨_, _, _, rfl, ⟨?_, ?_, ?_, by decide, by decide⟩, ?_⟩
  · exact ints_of_block exX (hx _ _ _ _ _ _ _ 1) rfl
  · exact ints_of_block exY (hx _ _ _ _ _ _ _ 2) rfl
  · intro _
    refine ⟨_, 0, rfl, by simp, fun k hk => ?_⟩
    match k, hk with
    | 0, _ => exact ⟨some ⟨w.heap.size + 3, 0, none⟩, 2, by rw [cell_of_row _ _ _ _ _ _ (hx _ _ _ _ _ _ _ 6)]; rfl, ints_of_block [0, 10] (hx _ _ _ _ _ _ _ 3) rfl⟩
    | 1, _ => exact ⟨some ⟨w.heap.size + 4, 0, none⟩, 2, by rw [cell_of_row _ _ _ _ _ _ (hx _ _ _ _ _ _ _ 6)]; rfl, ints_of_block [20, 30] (hx _ _ _ _ _ _ _ 4) rfl⟩
    | 2, _ => exact ⟨some ⟨w.heap.size + 5, 0, none⟩, 2, by rw [cell_of_row _ _ _ _ _ _ (hx _ _ _ _ _ _ _ 6)]; rfl, ints_of_block [10, 50] (hx _ _ _ _ _ _ _ 5) rfl⟩
  · repeat (first | exact Below.refl _ _ | refine Below.alloc ?_ (by simp <;> omega) _)
theorem exSz : TSz exX exY exV := ⟨by decide, by decide, by decide, by intro r hr; simp [exV] at hr; rcases hr with rfl | rfl | rfl <;> simp⟩
theorem ex_bound : boundR exX exY exV (5, 15) (0, 5) = ((10, 40), 0) := by decide +kernel
theorem ex_great : grtR exX exY exV (0, 5) 29 = (9, 0) := by decide +kernel
set_option maxHeartbeats 1000000 in
theorem works_any (w : World) : Calls Try.prog 19 #[] w fun e w' => e = .returned (.bool true) ∧ Below w.heap.size w w' := by
  have EB := Lib.hid ex_bound
  have EG := Lib.hid ex_great
  go_enter Try.func19, Try.ntmps19
  go_wp2_with fail
  refine (example_any _).mono ?_
  rintro e w1 ⟨X, Y, V, rfl, hR, hb1⟩
  have HR := Lib.hid hR
  have HB1 := Lib.hid hb1
  clear hR hb1
  go_wp2_with fail
  refine (bound_any exX exY exV X Y V 3 2 3 (5, 15) (0, 5) w1 exSz HR.out).mono ?_
  rintro e w2 ⟨rfl, hb2⟩
  rw [EB.out]
  have HB2 := Lib.hid (HB1.out.trans (hb2.mono HB1.out.size))
  clear hb2
  go_wp2_with fail
  refine (example_any _).mono ?_
  rintro e w3 ⟨X', Y', V', rfl, hR, hb3⟩
  have HR3 := Lib.hid hR
  have c0 : w3.cell? ⟨w2.heap.size, 0, none⟩ = some (.int .i64 10) := (hb3.cell (p := ⟨w2.heap.size, 0, none⟩) (by simp)).trans (by simp)
  have c1 : w3.cell? ⟨w2.heap.size, 1, none⟩ = some (.int .i64 40) := (hb3.cell (p := ⟨w2.heap.size, 1, none⟩) (by simp)).trans (by simp)
  have hz : w2.heap.size < w3.heap.size := by have := hb3.size; simp at this; omega
  have HB3 := Lib.hid ((HB2.out.alloc HB2.out.size _).trans (hb3.mono (by have := HB2.out.size; simp; omega)))
  clear hR hb3
  go_wp2_with fail
  refine (greatest_any exX exY exV X' Y' V' 3 2 3 (0, 5) 29 w3 exSz HR3.out).mono ?_
  rintro e w4 ⟨rfl, hb4⟩
  rw [EG.out]
  have d0 : w4.cell? ⟨w2.heap.size, 0, none⟩ = some (.int .i64 10) := (hb4.cell (p := ⟨w2.heap.size, 0, none⟩) hz).trans c0
  have d1 : w4.cell? ⟨w2.heap.size, 1, none⟩ = some (.int .i64 40) := (hb4.cell (p := ⟨w2.heap.size, 1, none⟩) hz).trans c1
  have HB4 := Lib.hid (HB3.out.trans (hb4.mono HB3.out.size))
  clear hb4 c0 c1
  go_wp2_with fail
  go_ret
  exact ⟨rfl, HB4.out⟩
end Go.Proofs.Ytfaiogajaaclcaa
/- works of law01, as a contract on abstract values. No conditions. -/
namespace Go.Proofs.Ytfaiogajaaclcaa
open Go.RowKit Lift

theorem works_acW : AC Try.prog 19 [] [] [] (dB true) :=
  ac_of_calls ⟨Try.f19, Try.func19, by decide, rfl⟩ (fun _ _ _ => .val _) fun w vs β Z hs hr => by
    obtain rfl : vs = #[] := Array.size_eq_zero_iff.1 (by simpa using hs)
    exact works_any w
end Go.Proofs.Ytfaiogajaaclcaa
/- Each point of a box is in another one or in just one part of what is left: in numbers. No conditions. -/
namespace Go.Proofs.Ytfaiogajaaclcaa

def pv (p : List Int) (k : Nat) : Int := p[k]?.getD 0
def inD (p : List Int) (b : Bx) (k : Nat) : Bool := decide (lo b k ≤ pv p k) && decide (pv p k ≤ hi b k)
def inL (p : List Int) (b : Bx) : Bool := (List.range b.length).all fun k => inD p b k
theorem inL_iff {p : List Int} {b : Bx} : inL p b = true ↔ ∀ k, k < b.length → lo b k ≤ pv p k ∧ pv p k ≤ hi b k := by
  simp [inL, inD, List.all_eq_true]
theorem inL_set {p : List Int} {l : Bx} {d : Nat} {x : Int × Int} (h : d < l.length) : inL p (l.set d x) = true ↔ (∀ k, k < l.length → k ≠ d → lo l k ≤ pv p k ∧ pv p k ≤ hi l k) ∧ x.1 ≤ pv p d ∧ pv p d ≤ x.2 := by
  rw [inL_iff, List.length_set]
  constructor
  · intro hh
    refine ⟨fun k hk hne => ?_, ?_⟩
    · have := hh k hk
      rwa [lo_set_ne _ _ _ _ (Ne.symm hne), hi_set_ne _ _ _ _ (Ne.symm hne)] at this
    · have := hh d h
      obtain ⟨u, v⟩ := x
      rwa [lo_set _ _ _ _ h, hi_set _ _ _ _ h] at this
  · rintro ⟨h1, h2⟩ k hk
    by_cases hkd : k = d
    · subst hkd
      obtain ⟨u, v⟩ := x
      rw [lo_set _ _ _ _ h, hi_set _ _ _ _ h]; exact h2
    · rw [lo_set_ne _ _ _ _ (Ne.symm hkd), hi_set_ne _ _ _ _ (Ne.symm hkd)]
      exact h1 k hk hkd
theorem inL_at {p : List Int} {l : Bx} {d : Nat} (h : d < l.length) : inL p l = true ↔ (∀ k, k < l.length → k ≠ d → lo l k ≤ pv p k ∧ pv p k ≤ hi l k) ∧ lo l d ≤ pv p d ∧ pv p d ≤ hi l d := by
  rw [inL_iff]
  constructor
  · intro hh; exact ⟨fun k hk _ => hh k hk, hh d h⟩
  · rintro ⟨h1, h2⟩ k hk
    by_cases hkd : k = d
    · subst hkd; exact h2
    · exact h1 k hk hkd
theorem cut_count {p : List Int} {l : Bx} {d : Nat} {x : Int × Int} : (cut1 l d x).countP (inL p) = if x.1 ≤ x.2 ∧ inL p (l.set d x) = true then 1 else 0 := by
  unfold cut1
  by_cases h : x.1 > x.2
  · rw [if_pos h, if_neg (fun hh => by omega)]; rfl
  · rw [if_neg h]
    by_cases h2 : inL p (l.set d x) = true
    · rw [if_pos ⟨by omega, h2⟩]; simp [h2]
    · rw [if_neg (fun hh => h2 hh.2)]; simp [h2]
open Classical in
theorem mn_count (p : List Int) (b : Bx) (hb : OkB b) : ∀ (n : Nat) (l : Bx) (d : Nat), d + n = l.length → l.length = b.length →
    (mnGo b n l d).countP (inL p) = if inL p l = true ∧ ¬ (∀ k, d ≤ k → k < b.length → lo b k ≤ pv p k ∧ pv p k ≤ hi b k) then 1 else 0
  | 0, l, d, h1, h2 => by
    rw [if_neg]
    · rfl
    · rintro ⟨_, h⟩
      exact h fun k hk1 hk2 => by omega
  | n + 1, l, d, h1, h2 => by
    have hd : d < l.length := by omega
    have hbd := hb.le d (by omega)
    unfold mnGo
    have ih := mn_count p b hb n (l.set d (pMid l b d)) (d + 1) (by rw [List.length_set]; omega) (by rw [List.length_set]; exact h2)
    have hmid : (if (pMid l b d).1 > (pMid l b d).2 then [] else mnGo b n (l.set d (pMid l b d)) (d + 1)).countP (inL p) = if inL p (l.set d (pMid l b d)) = true ∧ ¬ (∀ k, d + 1 ≤ k → k < b.length → lo b k ≤ pv p k ∧ pv p k ≤ hi b k) then 1 else 0 := by
      by_cases hm : (pMid l b d).1 > (pMid l b d).2
      · rw [if_pos hm, if_neg]
        · rfl
        · rintro ⟨h, _⟩
          have := ((inL_set hd).1 h).2
          omega
      · rw [if_neg hm, ih]
    rw [List.countP_append, List.countP_append, cut_count, cut_count, hmid]
    have hrest : (∀ k, d ≤ k → k < b.length → lo b k ≤ pv p k ∧ pv p k ≤ hi b k) ↔ (lo b d ≤ pv p d ∧ pv p d ≤ hi b d) ∧ ∀ k, d + 1 ≤ k → k < b.length → lo b k ≤ pv p k ∧ pv p k ≤ hi b k := by
      constructor
      · intro h; exact ⟨h d (Nat.le_refl _) (by omega), fun k hk hk2 => h k (by omega) hk2⟩
      · rintro ⟨h3, h4⟩ k hk hk2
        by_cases hkd : k = d
        · subst hkd; exact h3
        · exact h4 k (by omega) hk2
    rw [hrest]
    simp only [inL_set hd, inL_at hd]
    by_cases hA : ∀ k, k < l.length → k ≠ d → lo l k ≤ pv p k ∧ pv p k ≤ hi l k
    · by_cases hR : ∀ k, d + 1 ≤ k → k < b.length → lo b k ≤ pv p k ∧ pv p k ≤ hi b k
      · simp only [eq_true hA, eq_true hR, true_and, and_true, not_true_eq_false, and_false, if_false]
        unfold pLow pHigh
        generalize pv p d = x
        generalize lo l d = l0 at *
        generalize hi l d = l1 at *
        generalize lo b d = b0 at *
        generalize hi b d = b1 at *
        simp only
        repeat' split
        all_goals omega
      · simp only [eq_true hA, eq_false hR, true_and, not_false_eq_true, and_true, and_false]
        unfold pLow pHigh pMid
        generalize pv p d = x
        generalize lo l d = l0 at *
        generalize hi l d = l1 at *
        generalize lo b d = b0 at *
        generalize hi b d = b1 at *
        simp only
        repeat' split
        all_goals omega
    · simp only [eq_false hA, false_and, and_false, if_false]
theorem okB_set {l : Bx} {d : Nat} {x : Int × Int} (h : OkB l) (hd : d < l.length) (h1 : -1000000 ≤ x.1) (h2 : x.1 ≤ x.2) (h3 : x.2 ≤ 1000000) : OkB (l.set d x) := by
  obtain ⟨u, v⟩ := x
  have key : ∀ k, k < l.length → -1000000 ≤ lo (l.set d (u, v)) k ∧ lo (l.set d (u, v)) k ≤ hi (l.set d (u, v)) k ∧ hi (l.set d (u, v)) k ≤ 1000000 := fun k hk => by
    by_cases hkd : d = k
    · subst hkd; rw [lo_set _ _ _ _ hd, hi_set _ _ _ _ hd]; exact ⟨h1, h2, h3⟩
    · rw [lo_set_ne _ _ _ _ hkd, hi_set_ne _ _ _ _ hkd]; exact ⟨h.low k hk, h.le k hk, h.high k hk⟩
  exact ⟨by rw [List.length_set]; exact h.pos, by rw [List.length_set]; exact h.len, fun k hk => (key k (by simpa using hk)).1, fun k hk => (key k (by simpa using hk)).2.1, fun k hk => (key k (by simpa using hk)).2.2⟩
theorem mn_ok (b : Bx) : ∀ (n : Nat) (l : Bx) (d : Nat), d + n = l.length → OkB l → ∀ x ∈ mnGo b n l d, OkB x
  | 0, _, _, _, _ => by simp [mnGo]
  | n + 1, l, d, h1, hl => by
    intro x hx
    have hd : d < l.length := by omega
    have g1 := hl.low d hd
    have g2 := hl.le d hd
    have g3 := hl.high d hd
    unfold mnGo at hx
    simp only [List.mem_append] at hx
    rcases hx with (hx | hx) | hx
    · unfold cut1 at hx
      by_cases hc : (pLow l b d).1 > (pLow l b d).2
      · rw [if_pos hc] at hx; simp at hx
      · rw [if_neg hc] at hx
        have hx' : x = l.set d (pLow l b d) := by simpa using hx
        rw [hx']
        refine okB_set hl hd g1 (by omega) ?_
        show (if lo b d - 1 < hi l d then lo b d - 1 else hi l d) ≤ 1000000
        split <;> omega
    · unfold cut1 at hx
      by_cases hc : (pHigh l b d).1 > (pHigh l b d).2
      · rw [if_pos hc] at hx; simp at hx
      · rw [if_neg hc] at hx
        have hx' : x = l.set d (pHigh l b d) := by simpa using hx
        rw [hx']
        refine okB_set hl hd ?_ (by omega) g3
        show -1000000 ≤ (if hi b d + 1 > lo l d then hi b d + 1 else lo l d)
        split <;> omega
    · split at hx
      · simp at hx
      · rename_i hm
        refine mn_ok b n _ (d + 1) (by rw [List.length_set]; omega) (okB_set hl hd ?_ (by omega) ?_) x hx
        · show -1000000 ≤ (if lo b d > lo l d then lo b d else lo l d)
          split <;> omega
        · show (if hi b d < hi l d then hi b d else hi l d) ≤ 1000000
          split <;> omega
/-- the boxes of what is left -/
theorem lost (p : List Int) (a b : Bx) (ha : OkB a) (hb : OkB b) (hl : a.length = b.length) : (mnL a b).countP (inL p) = if inL p a = true ∧ inL p b = false then 1 else 0 := by
  unfold mnL
  rw [mn_count p b hb _ a 0 (by omega) hl]
  have : (∀ k, 0 ≤ k → k < b.length → lo b k ≤ pv p k ∧ pv p k ≤ hi b k) ↔ inL p b = true := by
    rw [inL_iff]; exact ⟨fun h k hk => h k (Nat.zero_le _) hk, fun h k _ hk => h k hk⟩
  rw [this]
  by_cases h1 : inL p a = true <;> by_cases h2 : inL p b = true <;> simp [h1, h2]
theorem mnL_ok (a b : Bx) (ha : OkB a) : ∀ x ∈ mnL a b, OkB x := mn_ok b _ a 0 (by omega) ha
end Go.Proofs.Ytfaiogajaaclcaa
/- The law SpansLost returns true. No conditions. -/
set_option linter.unusedSimpArgs false
set_option linter.unusedVariables false
namespace Go.Proofs.Ytfaiogajaaclcaa
open Go.RowKit Lift

theorem ints_pv (p : List Int) (k : Nat) (h : k < p.length) : (ints p)[k]? = some [.val (.int .i64 (pv p k))] := by simp [ints, pv, h]
theorem inL_take {p : List Int} {b : Bx} (h : ∀ k, k < b.length → inD p b k = true) : inL p b = true := List.all_eq_true.2 fun k hk => h k (by simpa using hk)
theorem inL_no {p : List Int} {b : Bx} {k : Nat} (hk : k < b.length) (h : inD p b k = false) : inL p b = false := by
  cases h2 : inL p b with
  | false => rfl
  | true =>
    have := List.all_eq_true.1 h2 k (by simpa using hk)
    rw [h] at this; cases this
set_option maxRecDepth 100000 in
set_option maxHeartbeats 1000000 in
theorem in_ac (p : List Int) (b : Bx) (h : b.length ≤ p.length) (hl : b.length ≤ 1000) : AC Try.prog 54 [.list (ints p), .list (sps b)] [] [] (dB (inL p b)) := by
  refine kref01_In.ac (n0 := 0) (by simp) ⟨.list _, .list _, trivial⟩ trivial rfl ?_
  unfold cref01_In
  refine aw_seq (aw_region ?_)
  simp (config := {maxSteps := 10000000}) (disch := first | exact okYes (by kernel_rfl) | omega) only [thenQ, List.map, List.length, Nat.zero_add, Nat.reduceMul, envOf, ARun_none, AOpRun, aexec, FSt.ev, AGo_ok, St.app, putO, eput_c, Nat.reduceBEq, eput_n, cond_false, hups, ARun_nil, dropE_c, inL_n, dropE_n]
  refine aw_seq (aw_seq (aw_region ?_))
  simp (config := {maxSteps := 10000000}) (disch := first | exact okYes (by kernel_rfl) | omega) only [thenQ, List.length, Nat.zero_add, Nat.reduceMul, Nat.reduceAdd, ARun_none, AOpRun, aexec, FSt.ev, AGo_ok, St.app, putO, eput_c, Nat.reduceBEq, eput_n, cond_false, hups, List.map, ARun_nil, dropE_c, inL_n, dropE_n]
  refine aw_block (aw_loop (fun k : Nat => ⟨[(0, .list (ints p)), (1, .list (sps b)), (5, .val (.int .i64 k))], [], 100⟩) (fun k => k ≤ b.length ∧ ∀ j, j < k → inD p b j = true) (fun k => b.length - k) ⟨0, ⟨by omega, fun j hj => by omega⟩, ?_⟩ ?_)
  · refine wk_to [] [] (by kernel_rfl) (by kernel_rfl) (by kernel_rfl) (by kernel_rfl) (by kernel_rfl) ?_ ?_ <;> repeat' (first | exact trivial | exact vr_val _ | exact vr_list _ | exact vr_at _ | exact vr_nil | exact vr_cap0 | exact vr_vec _ _ _ _ rfl | exact vr_own _ _ _ _ _ rfl | exact vr_ptr _ _ _ rfl | exact vr_nilv _ _ _ rfl | exact vr_bot _ | exact vr_cap0v _ _ _ rfl | exact vr_cap0l | apply vr_agg | apply vr_tup | apply vr_fn | refine vr_yld _ _ _ rfl ?_ | exact Ren.bot _ | exact Ren.val _ | exact Ren.list _ | exact Ren.at_ _ | exact Ren.ptr _ _ _ rfl | refine Ren.yld _ _ _ _ _ rfl rfl (RenL.get ?_).2 (fun _ _ _ h => h) | refine vr_fl _ _ _ _ _ (by decide) rfl ?_ ?_ ?_ ?_ | refine And.intro ⟨_, rfl, .inl ⟨_, rfl, by decide, ?_⟩⟩ ?_ | refine And.intro ⟨_, rfl, _, rfl, by decide, ?_⟩ ?_ | refine And.intro ⟨_, rfl, .inr ⟨rfl, rfl, of_decide_eq_true (by kernel_rfl)⟩⟩ ?_ | apply And.intro | exact vrl_flat _ (by first | exact icells_in _ | exact rcells_in _ | exact scells_in _ | exact bcells_in _ | assumption))
  · rintro k ⟨hk, hin⟩
    refine aw_seq (aw_seq (aw_region ?_))
    simp (config := {maxSteps := 10000000}) (disch := first | exact okYes (by kernel_rfl) | omega) only [thenQ, List.length, Nat.zero_add, Nat.reduceAdd, Nat.reduceMul, ARun_none, AOpRun, aexec, FSt.ev, St.F, eget_c, Nat.reduceBEq, ↓eget_h, cond_false, AGo_ok, St.app, putO, eput_c, eput_n, hups, List.map, sps_len, isSh, Bool.false_eq_true, ↓reduceIte, Option.map, abin, ARun_nil, dropE_c, inL_c, inL_n, beq_self_eq_true, cond_true, dropE_n]
    refine aw_cond rfl (fun hc => ?_) (fun hc => ?_)
    · have hk' : k < b.length := by have := of_decide_eq_true hc; omega
      refine aw_skip (aw_seq (aw_block (aw_seq (aw_region ?_))))
      simp (config := {maxSteps := 10000000}) (disch := first | exact okYes (by kernel_rfl) | omega) only [thenQ, List.length, Nat.zero_add, Nat.reduceAdd, Nat.reduceMul, ARun_none, AOpRun, aexec, FSt.ev, St.F, ↓eget_h, AGo_ok, St.app, putO, eput_c, Nat.reduceBEq, eput_n, cond_false, hups, List.map, eget_c, Int.natCast_nonneg, ints_all, and_self, ↓reduceIte, opt1, Option.map, Int.toNat_natCast, ints_pv p k (by omega), run1, List.getElem?_cons_zero, sps_all, sps_gd b k hk', List.drop]
      refine acall0 (from_ac (pv p k) (lo b k) (hi b k)) ?_
      simp (config := {maxSteps := 10000000}) (disch := first | exact okYes (by kernel_rfl) | omega) only [dB, Nat.reduceAdd, St.app, putO, eput_c, Nat.reduceBEq, eput_n, cond_false, hups, ARun_none, AOpRun, aexec, FSt.ev, St.F, eget_c, ↓eget_h, AGo_ok, List.map, ARun_nil, dropE_c, inL_c, inL_n, beq_self_eq_true, cond_true, dropE_n]
      refine aw_cond rfl (fun hc => ?_) (fun hc => ?_)
      · have hn : inD p b k = false := by simp only [Bool.not_eq_true'] at hc; exact hc
        refine aw_seq (aw_region ?_)
        simp (config := {maxSteps := 10000000}) (disch := first | exact okYes (by kernel_rfl) | omega) only [thenQ, List.length, Nat.zero_add, Nat.reduceMul, Nat.reduceAdd, ARun_none, AOpRun, aexec, FSt.ev, AGo_ok, St.app, putO, eput_c, Nat.reduceBEq, eput_n, cond_false, hups, List.map, ARun_nil, dropE_c, inL_n, dropE_n]
        refine aw_ret ?_
        rw [inL_no hk' hn]
        refine end_to [] [] (by first | exact .inl rfl | exact .inr rfl) rfl (by kernel_rfl) (by kernel_rfl) (by kernel_rfl) ?_ ?_ <;> repeat' (first | exact trivial | exact vr_val _ | exact vr_list _ | exact vr_at _ | exact vr_nil | exact vr_cap0 | exact vr_vec _ _ _ _ rfl | exact vr_own _ _ _ _ _ rfl | exact vr_ptr _ _ _ rfl | exact vr_nilv _ _ _ rfl | exact vr_bot _ | exact vr_cap0v _ _ _ rfl | exact vr_cap0l | apply vr_agg | apply vr_tup | apply vr_fn | refine vr_yld _ _ _ rfl ?_ | exact Ren.bot _ | exact Ren.val _ | exact Ren.list _ | exact Ren.at_ _ | exact Ren.ptr _ _ _ rfl | refine Ren.yld _ _ _ _ _ rfl rfl (RenL.get ?_).2 (fun _ _ _ h => h) | refine vr_fl _ _ _ _ _ (by decide) rfl ?_ ?_ ?_ ?_ | refine And.intro ⟨_, rfl, .inl ⟨_, rfl, by decide, ?_⟩⟩ ?_ | refine And.intro ⟨_, rfl, _, rfl, by decide, ?_⟩ ?_ | refine And.intro ⟨_, rfl, .inr ⟨rfl, rfl, of_decide_eq_true (by kernel_rfl)⟩⟩ ?_ | apply And.intro | exact vrl_flat _ (by first | exact icells_in _ | exact rcells_in _ | exact scells_in _ | exact bcells_in _ | assumption))
      · have hn : inD p b k = true := by simp only [Bool.not_eq_false'] at hc; exact hc
        refine aw_skip (aw_region ?_)
        simp (config := {maxSteps := 10000000}) (disch := first | exact okYes (by kernel_rfl) | omega) only [thenQ, List.length, Nat.zero_add, Nat.reduceAdd, Nat.reduceMul, ARun_none, AOpRun, aexec, FSt.ev, St.F, eget_c, Nat.reduceBEq, ↓eget_h, cond_false, AGo_ok, St.app, putO, eput_c, eput_n, hups, List.map, isSh, Bool.false_eq_true, ↓reduceIte, Option.map, abin, fits, beq_self_eq_true, cond_true, ARun_nil, dropE_c, inL_c, inL_n, dropE_n]
        refine ⟨k + 1, ⟨hk', fun j hj => ?_⟩, by omega, ?_⟩
        · by_cases hjk : j = k
          · subst hjk; exact hn
          · exact hin j (by omega)
        · refine wk_to [] [] (by kernel_rfl) (by kernel_rfl) (by kernel_rfl) (by kernel_rfl) (by kernel_rfl) ?_ ?_ <;> repeat' (first | exact trivial | exact vr_val _ | exact vr_list _ | exact vr_at _ | exact vr_nil | exact vr_cap0 | exact vr_vec _ _ _ _ rfl | exact vr_own _ _ _ _ _ rfl | exact vr_ptr _ _ _ rfl | exact vr_nilv _ _ _ rfl | exact vr_bot _ | exact vr_cap0v _ _ _ rfl | exact vr_cap0l | apply vr_agg | apply vr_tup | apply vr_fn | refine vr_yld _ _ _ rfl ?_ | exact Ren.bot _ | exact Ren.val _ | exact Ren.list _ | exact Ren.at_ _ | exact Ren.ptr _ _ _ rfl | refine Ren.yld _ _ _ _ _ rfl rfl (RenL.get ?_).2 (fun _ _ _ h => h) | refine vr_fl _ _ _ _ _ (by decide) rfl ?_ ?_ ?_ ?_ | refine And.intro ⟨_, rfl, .inl ⟨_, rfl, by decide, ?_⟩⟩ ?_ | refine And.intro ⟨_, rfl, _, rfl, by decide, ?_⟩ ?_ | refine And.intro ⟨_, rfl, .inr ⟨rfl, rfl, of_decide_eq_true (by kernel_rfl)⟩⟩ ?_ | apply And.intro | exact vrl_flat _ (by first | exact icells_in _ | exact rcells_in _ | exact scells_in _ | exact bcells_in _ | assumption))
    · have hk' : k = b.length := by have := of_decide_eq_false hc; omega
      subst hk'
      refine aw_exit (aw_seq (aw_region ?_))
      simp (config := {maxSteps := 10000000}) (disch := first | exact okYes (by kernel_rfl) | omega) only [thenQ, List.length, Nat.zero_add, Nat.reduceMul, Nat.reduceAdd, ARun_none, AOpRun, aexec, FSt.ev, AGo_ok, St.app, putO, eput_c, Nat.reduceBEq, eput_n, cond_false, hups, List.map, ARun_nil, dropE_c, inL_n, dropE_n]
      refine aw_ret ?_
      rw [inL_take hin]
      refine end_to [] [] (by first | exact .inl rfl | exact .inr rfl) rfl (by kernel_rfl) (by kernel_rfl) (by kernel_rfl) ?_ ?_ <;> repeat' (first | exact trivial | exact vr_val _ | exact vr_list _ | exact vr_at _ | exact vr_nil | exact vr_cap0 | exact vr_vec _ _ _ _ rfl | exact vr_own _ _ _ _ _ rfl | exact vr_ptr _ _ _ rfl | exact vr_nilv _ _ _ rfl | exact vr_bot _ | exact vr_cap0v _ _ _ rfl | exact vr_cap0l | apply vr_agg | apply vr_tup | apply vr_fn | refine vr_yld _ _ _ rfl ?_ | exact Ren.bot _ | exact Ren.val _ | exact Ren.list _ | exact Ren.at_ _ | exact Ren.ptr _ _ _ rfl | refine Ren.yld _ _ _ _ _ rfl rfl (RenL.get ?_).2 (fun _ _ _ h => h) | refine vr_fl _ _ _ _ _ (by decide) rfl ?_ ?_ ?_ ?_ | refine And.intro ⟨_, rfl, .inl ⟨_, rfl, by decide, ?_⟩⟩ ?_ | refine And.intro ⟨_, rfl, _, rfl, by decide, ?_⟩ ?_ | refine And.intro ⟨_, rfl, .inr ⟨rfl, rfl, of_decide_eq_true (by kernel_rfl)⟩⟩ ?_ | apply And.intro | exact vrl_flat _ (by first | exact icells_in _ | exact rcells_in _ | exact scells_in _ | exact bcells_in _ | assumption))
end Go.Proofs.Ytfaiogajaaclcaa
/- Checks of lists of boxes, copies, and looks at their size: both sides. No conditions. -/
set_option linter.unusedSimpArgs false
set_option linter.unusedVariables false
namespace Go.Proofs.Ytfaiogajaaclcaa
open Go.RowKit Lift

def chk (d : Nat) (l : List Bx) : Int := if l.all (fun b => boxE b == 0) = true then (if l.all (fun b => b.length == d) = true then 0 else 1) else 10
theorem all_at {f : Bx → Bool} {l : List Bx} (h : ∀ j, j < l.length → f (l[j]?.getD []) = true) : l.all f = true := List.all_eq_true.2 fun x hx => by
  obtain ⟨k, hk, rfl⟩ := List.getElem_of_mem hx
  have := h k hk
  simpa [hk] using this
theorem all_no {f : Bx → Bool} {l : List Bx} {k : Nat} (hk : k < l.length) (h : f (l[k]?.getD []) = false) : l.all f = false := by
  cases h2 : l.all f with
  | false => rfl
  | true =>
    have := List.all_eq_true.1 h2 _ (show l[k]?.getD [] ∈ l by simp [hk])
    rw [h] at this; cases this
theorem all_next {f : Bx → Bool} {l : List Bx} {k : Nat} (h1 : ∀ j, j < k → f (l[j]?.getD []) = true) (h2 : f (l[k]?.getD []) = true) : ∀ j, j < k + 1 → f (l[j]?.getD []) = true := fun j hj => by
  by_cases hjk : j = k
  · subst hjk; exact h2
  · exact h1 j (by omega)
set_option maxRecDepth 100000 in
set_option maxHeartbeats 2000000 in
theorem lcheck_ac (l : List Bx) (hl : l.length ≤ 1000) : AC Try.prog 94 [.list (bxs l)] [] [] (dI (chk (l[0]?.getD []).length l)) := by
  refine kspans_check.ac (n0 := 0) (by simp) ⟨.list _, trivial⟩ trivial rfl ?_
  unfold cspans_check
  refine aw_seq (aw_region ?_)
  simp (config := {maxSteps := 10000000}) (disch := first | exact okYes (by kernel_rfl) | omega) only [thenQ, List.map, List.length, Nat.zero_add, Nat.reduceMul, envOf, ARun_none, AOpRun, aexec, FSt.ev, AGo_ok, St.app, putO, eput_c, Nat.reduceBEq, eput_n, cond_false, hups, ARun_nil, dropE_c, inL_n, dropE_n]
  refine aw_seq (aw_seq (aw_region ?_))
  simp (config := {maxSteps := 10000000}) (disch := first | exact okYes (by kernel_rfl) | omega) only [thenQ, List.length, Nat.zero_add, Nat.reduceAdd, Nat.reduceMul, ARun_none, AOpRun, aexec, FSt.ev, St.F, ↓eget_h, AGo_ok, St.app, putO, eput_c, Nat.reduceBEq, eput_n, cond_false, hups, List.map, eget_c, bxs_len, ARun_nil, dropE_c, inL_n, dropE_n]
  refine aw_block (aw_loop (fun k : Nat => ⟨[(0, .list (bxs l)), (8, .list (bxs l)), (9, .val (.int .i64 l.length)), (10, .val (.int .i64 k))], [], 100⟩) (fun k => k ≤ l.length ∧ ∀ j, j < k → (boxE (l[j]?.getD []) == 0) = true) (fun k => l.length - k) ⟨0, ⟨by omega, fun j hj => by omega⟩, ?_⟩ ?_)
  · refine wk_to [] [] (by kernel_rfl) (by kernel_rfl) (by kernel_rfl) (by kernel_rfl) (by kernel_rfl) ?_ ?_ <;> repeat' (first | exact trivial | exact vr_val _ | exact vr_list _ | exact vr_at _ | exact vr_nil | exact vr_cap0 | exact vr_vec _ _ _ _ rfl | exact vr_own _ _ _ _ _ rfl | exact vr_ptr _ _ _ rfl | exact vr_nilv _ _ _ rfl | exact vr_bot _ | exact vr_cap0v _ _ _ rfl | exact vr_cap0l | apply vr_agg | apply vr_tup | apply vr_fn | refine vr_yld _ _ _ rfl ?_ | exact Ren.bot _ | exact Ren.val _ | exact Ren.list _ | exact Ren.at_ _ | exact Ren.ptr _ _ _ rfl | refine Ren.yld _ _ _ _ _ rfl rfl (RenL.get ?_).2 (fun _ _ _ h => h) | refine vr_fl _ _ _ _ _ (by decide) rfl ?_ ?_ ?_ ?_ | refine And.intro ⟨_, rfl, .inl ⟨_, rfl, by decide, ?_⟩⟩ ?_ | refine And.intro ⟨_, rfl, _, rfl, by decide, ?_⟩ ?_ | refine And.intro ⟨_, rfl, .inr ⟨rfl, rfl, of_decide_eq_true (by kernel_rfl)⟩⟩ ?_ | apply And.intro | exact vrl_flat _ (by first | exact icells_in _ | exact rcells_in _ | exact scells_in _ | exact bcells_in _ | assumption))
  · rintro k ⟨hk, hin⟩
    refine aw_seq (aw_region ?_)
    simp (config := {maxSteps := 10000000}) (disch := first | exact okYes (by kernel_rfl) | omega) only [thenQ, List.length, Nat.zero_add, Nat.reduceMul, Nat.reduceAdd, ARun_none, AOpRun, aexec, FSt.ev, St.F, eget_c, Nat.reduceBEq, ↓eget_h, cond_false, isSh, Bool.false_eq_true, ↓reduceIte, Option.map, abin, AGo_ok, St.app, putO, eput_c, eput_n, hups, List.map, ARun_nil, dropE_c, inL_n, dropE_n]
    refine aw_seq (aw_cond rfl (fun hc => ?_) (fun hc => ?_))
    · have hk' : k < l.length := by have := of_decide_eq_true hc; omega
      refine aw_skip (aw_seq (aw_block (aw_seq (aw_region ?_))))
      simp (config := {maxSteps := 10000000}) (disch := first | exact okYes (by kernel_rfl) | omega) only [thenQ, List.length, Nat.zero_add, Nat.reduceAdd, Nat.reduceMul, ARun_none, AOpRun, aexec, FSt.ev, St.F, eget_c, Nat.reduceBEq, ↓eget_h, cond_false, Int.natCast_nonneg, bxs_all, and_self, ↓reduceIte, opt1, Option.map, Int.toNat_natCast, bxs_gd l k hk', AGo_ok, St.app, putO, eput_c, eput_n, hups, List.map, run1, List.getElem?_cons_zero, ARun_nil, dropE_c, inL_c, inL_n, beq_self_eq_true, cond_true, dropE_n]
      refine aw_seq (aw_region ?_)
      simp (config := {maxSteps := 10000000}) (disch := first | exact okYes (by kernel_rfl) | omega) only [thenQ, List.length, Nat.zero_add, Nat.reduceAdd, Nat.reduceMul, ARun_none, AOpRun, aexec, FSt.ev, St.F, eget_c, Nat.reduceBEq, ↓eget_h, cond_false, AGo_ok, St.app, putO, eput_c, eput_n, hups, List.map]
      refine acall0 (check_ac (l[k]?.getD [])) ?_
      simp (config := {maxSteps := 10000000}) (disch := first | exact okYes (by kernel_rfl) | omega) only [dI, Nat.reduceAdd, St.app, putO, eput_c, Nat.reduceBEq, eput_n, cond_false, hups, ARun_none, AOpRun, aexec, FSt.ev, St.F, eget_c, ↓eget_h, AGo_ok, List.map, ARun_nil, dropE_c, inL_c, inL_n, beq_self_eq_true, cond_true, dropE_n]
      refine aw_seq (aw_region ?_)
      simp (config := {maxSteps := 10000000}) (disch := first | exact okYes (by kernel_rfl) | omega) only [thenQ, List.length, Nat.zero_add, Nat.reduceAdd, Nat.reduceMul, ARun_none, AOpRun, aexec, FSt.ev, St.F, eget_c, Nat.reduceBEq, ↓eget_h, cond_false, AGo_ok, St.app, putO, eput_c, eput_n, hups, List.map, isSh, Bool.false_eq_true, ↓reduceIte, Option.map, abin, ARun_nil, dropE_c, inL_c, inL_n, beq_self_eq_true, cond_true, dropE_n]
      refine aw_cond rfl (fun hc => ?_) (fun hc => ?_)
      · have he : boxE (l[k]?.getD []) ≠ 0 := by simpa using hc
        have h10 := (boxE_two _).resolve_left he
        have hno : l.all (fun b => boxE b == 0) = false := all_no hk' (by simp [h10])
        refine aw_seq (aw_region ?_)
        simp (config := {maxSteps := 10000000}) (disch := first | exact okYes (by kernel_rfl) | omega) only [thenQ, List.length, Nat.zero_add, Nat.reduceAdd, Nat.reduceMul, ARun_none, AOpRun, aexec, FSt.ev, St.F, eget_c, Nat.reduceBEq, ↓eget_h, cond_false, AGo_ok, St.app, putO, eput_c, eput_n, hups, List.map, ARun_nil, dropE_c, inL_c, inL_n, beq_self_eq_true, cond_true, dropE_n]
        refine aw_ret ?_
        unfold chk
        rw [hno, h10]
        simp only [Bool.false_eq_true, if_false]
        refine end_to [] [] (by first | exact .inl rfl | exact .inr rfl) rfl (by kernel_rfl) (by kernel_rfl) (by kernel_rfl) ?_ ?_ <;> repeat' (first | exact trivial | exact vr_val _ | exact vr_list _ | exact vr_at _ | exact vr_nil | exact vr_cap0 | exact vr_vec _ _ _ _ rfl | exact vr_own _ _ _ _ _ rfl | exact vr_ptr _ _ _ rfl | exact vr_nilv _ _ _ rfl | exact vr_bot _ | exact vr_cap0v _ _ _ rfl | exact vr_cap0l | apply vr_agg | apply vr_tup | apply vr_fn | refine vr_yld _ _ _ rfl ?_ | exact Ren.bot _ | exact Ren.val _ | exact Ren.list _ | exact Ren.at_ _ | exact Ren.ptr _ _ _ rfl | refine Ren.yld _ _ _ _ _ rfl rfl (RenL.get ?_).2 (fun _ _ _ h => h) | refine vr_fl _ _ _ _ _ (by decide) rfl ?_ ?_ ?_ ?_ | refine And.intro ⟨_, rfl, .inl ⟨_, rfl, by decide, ?_⟩⟩ ?_ | refine And.intro ⟨_, rfl, _, rfl, by decide, ?_⟩ ?_ | refine And.intro ⟨_, rfl, .inr ⟨rfl, rfl, of_decide_eq_true (by kernel_rfl)⟩⟩ ?_ | apply And.intro | exact vrl_flat _ (by first | exact icells_in _ | exact rcells_in _ | exact scells_in _ | exact bcells_in _ | assumption))
      · have he : boxE (l[k]?.getD []) = 0 := by simpa using hc
        refine aw_skip ?_
        simp only [thenQ, blockQ, if_true]
        refine aw_region ?_
        simp (config := {maxSteps := 10000000}) (disch := first | exact okYes (by kernel_rfl) | omega) only [thenQ, List.length, Nat.zero_add, Nat.reduceAdd, Nat.reduceMul, ARun_none, AOpRun, aexec, FSt.ev, St.F, eget_c, Nat.reduceBEq, ↓eget_h, cond_false, isSh, Bool.false_eq_true, ↓reduceIte, Option.map, abin, fits, AGo_ok, St.app, putO, eput_c, eput_n, hups, List.map, beq_self_eq_true, cond_true, ARun_nil, dropE_c, inL_c, inL_n, dropE_n]
        refine ⟨k + 1, ⟨hk', all_next (f := fun b => boxE b == 0) hin (by simp [he])⟩, by omega, ?_⟩
        refine wk_to [] [] (by kernel_rfl) (by kernel_rfl) (by kernel_rfl) (by kernel_rfl) (by kernel_rfl) ?_ ?_ <;> repeat' (first | exact trivial | exact vr_val _ | exact vr_list _ | exact vr_at _ | exact vr_nil | exact vr_cap0 | exact vr_vec _ _ _ _ rfl | exact vr_own _ _ _ _ _ rfl | exact vr_ptr _ _ _ rfl | exact vr_nilv _ _ _ rfl | exact vr_bot _ | exact vr_cap0v _ _ _ rfl | exact vr_cap0l | apply vr_agg | apply vr_tup | apply vr_fn | refine vr_yld _ _ _ rfl ?_ | exact Ren.bot _ | exact Ren.val _ | exact Ren.list _ | exact Ren.at_ _ | exact Ren.ptr _ _ _ rfl | refine Ren.yld _ _ _ _ _ rfl rfl (RenL.get ?_).2 (fun _ _ _ h => h) | refine vr_fl _ _ _ _ _ (by decide) rfl ?_ ?_ ?_ ?_ | refine And.intro ⟨_, rfl, .inl ⟨_, rfl, by decide, ?_⟩⟩ ?_ | refine And.intro ⟨_, rfl, _, rfl, by decide, ?_⟩ ?_ | refine And.intro ⟨_, rfl, .inr ⟨rfl, rfl, of_decide_eq_true (by kernel_rfl)⟩⟩ ?_ | apply And.intro | exact vrl_flat _ (by first | exact icells_in _ | exact rcells_in _ | exact scells_in _ | exact bcells_in _ | assumption))
    · have hk' : k = l.length := by have := of_decide_eq_false hc; omega
      subst hk'
      have hall := all_at (f := fun b => boxE b == 0) hin
      refine aw_exit ?_
      simp only [thenQ, blockQ, if_true]
      refine aw_seq (aw_seq (aw_region ?_))
      simp (config := {maxSteps := 10000000}) (disch := first | exact okYes (by kernel_rfl) | omega) only [thenQ, List.length, Nat.zero_add, Nat.reduceAdd, Nat.reduceMul, ARun_none, AOpRun, aexec, FSt.ev, St.F, ↓eget_h, AGo_ok, St.app, putO, eput_c, Nat.reduceBEq, eput_n, cond_false, hups, List.map, eget_c, bxs_len, ARun_nil, dropE_c, inL_n, dropE_n]
      refine aw_block (aw_loop (fun k : Nat => ⟨[(0, .list (bxs l)), (20, .list (bxs l)), (21, .val (.int .i64 l.length)), (22, .val (.int .i64 k))], [], 300⟩) (fun k => k ≤ l.length ∧ ∀ j, j < k → ((l[j]?.getD []).length == (l[0]?.getD []).length) = true) (fun k => l.length - k) ⟨0, ⟨by omega, fun j hj => by omega⟩, ?_⟩ ?_)
      · refine wk_to [] [] (by kernel_rfl) (by kernel_rfl) (by kernel_rfl) (by kernel_rfl) (by kernel_rfl) ?_ ?_ <;> repeat' (first | exact trivial | exact vr_val _ | exact vr_list _ | exact vr_at _ | exact vr_nil | exact vr_cap0 | exact vr_vec _ _ _ _ rfl | exact vr_own _ _ _ _ _ rfl | exact vr_ptr _ _ _ rfl | exact vr_nilv _ _ _ rfl | exact vr_bot _ | exact vr_cap0v _ _ _ rfl | exact vr_cap0l | apply vr_agg | apply vr_tup | apply vr_fn | refine vr_yld _ _ _ rfl ?_ | exact Ren.bot _ | exact Ren.val _ | exact Ren.list _ | exact Ren.at_ _ | exact Ren.ptr _ _ _ rfl | refine Ren.yld _ _ _ _ _ rfl rfl (RenL.get ?_).2 (fun _ _ _ h => h) | refine vr_fl _ _ _ _ _ (by decide) rfl ?_ ?_ ?_ ?_ | refine And.intro ⟨_, rfl, .inl ⟨_, rfl, by decide, ?_⟩⟩ ?_ | refine And.intro ⟨_, rfl, _, rfl, by decide, ?_⟩ ?_ | refine And.intro ⟨_, rfl, .inr ⟨rfl, rfl, of_decide_eq_true (by kernel_rfl)⟩⟩ ?_ | apply And.intro | exact vrl_flat _ (by first | exact icells_in _ | exact rcells_in _ | exact scells_in _ | exact bcells_in _ | assumption))
      · rintro k ⟨hk, hin2⟩
        refine aw_seq (aw_region ?_)
        simp (config := {maxSteps := 10000000}) (disch := first | exact okYes (by kernel_rfl) | omega) only [thenQ, List.length, Nat.zero_add, Nat.reduceMul, Nat.reduceAdd, ARun_none, AOpRun, aexec, FSt.ev, St.F, eget_c, Nat.reduceBEq, ↓eget_h, cond_false, isSh, Bool.false_eq_true, ↓reduceIte, Option.map, abin, AGo_ok, St.app, putO, eput_c, eput_n, hups, List.map, ARun_nil, dropE_c, inL_n, dropE_n]
        refine aw_seq (aw_cond rfl (fun hc => ?_) (fun hc => ?_))
        · have hk' : k < l.length := by have := of_decide_eq_true hc; omega
          have h0 : 0 < l.length := by omega
          refine aw_skip (aw_seq (aw_block (aw_seq (aw_region ?_))))
          simp (config := {maxSteps := 10000000}) (disch := first | exact okYes (by kernel_rfl) | omega) only [thenQ, List.length, Nat.zero_add, Nat.reduceAdd, Nat.reduceMul, ARun_none, AOpRun, aexec, FSt.ev, St.F, eget_c, Nat.reduceBEq, ↓eget_h, cond_false, Int.natCast_nonneg, bxs_all, and_self, ↓reduceIte, opt1, Option.map, Int.toNat_natCast, bxs_gd l k hk', AGo_ok, St.app, putO, eput_c, eput_n, hups, List.map, run1, List.getElem?_cons_zero, ARun_nil, dropE_c, inL_c, inL_n, beq_self_eq_true, cond_true, dropE_n]
          refine aw_seq (aw_region ?_)
          simp (config := {maxSteps := 10000000}) (disch := first | exact okYes (by kernel_rfl) | omega) only [thenQ, List.length, Nat.zero_add, Nat.reduceAdd, Nat.reduceMul, ARun_none, AOpRun, aexec, FSt.ev, St.F, eget_c, Nat.reduceBEq, ↓eget_h, cond_false, AGo_ok, St.app, putO, eput_c, eput_n, hups, List.map, sps_len, Int.le_refl, bxs_all, and_self, ↓reduceIte, opt1, Option.map, Int.toNat_zero, bxs_gd l 0 h0, run1, List.getElem?_cons_zero, isSh, Bool.false_eq_true, abin, ARun_nil, dropE_c, inL_c, inL_n, beq_self_eq_true, cond_true, dropE_n]
          refine aw_cond rfl (fun hc => ?_) (fun hc => ?_)
          · have he : ((l[k]?.getD []).length == (l[0]?.getD []).length) = false := by
              have h : (((l[k]?.getD []).length : Int) != ((l[0]?.getD []).length : Int)) = true := hc
              have h' : ((l[k]?.getD []).length : Int) ≠ ((l[0]?.getD []).length : Int) := by simpa using h
              simp only [beq_eq_false_iff_ne, ne_eq]; omega
            have hno : l.all (fun b => b.length == (l[0]?.getD []).length) = false := all_no (f := fun b => b.length == (l[0]?.getD []).length) hk' he
            refine aw_seq (aw_region ?_)
            simp (config := {maxSteps := 10000000}) (disch := first | exact okYes (by kernel_rfl) | omega) only [thenQ, List.length, Nat.zero_add, Nat.reduceMul, Nat.reduceAdd, ARun_none, AOpRun, aexec, FSt.ev, AGo_ok, St.app, putO, eput_c, Nat.reduceBEq, eput_n, cond_false, hups, List.map, ARun_nil, dropE_c, inL_n, dropE_n]
            refine aw_ret ?_
            unfold chk
            rw [hno, hall]
            simp only [Bool.false_eq_true, if_false, if_true]
            refine end_to [] [] (by first | exact .inl rfl | exact .inr rfl) rfl (by kernel_rfl) (by kernel_rfl) (by kernel_rfl) ?_ ?_ <;> repeat' (first | exact trivial | exact vr_val _ | exact vr_list _ | exact vr_at _ | exact vr_nil | exact vr_cap0 | exact vr_vec _ _ _ _ rfl | exact vr_own _ _ _ _ _ rfl | exact vr_ptr _ _ _ rfl | exact vr_nilv _ _ _ rfl | exact vr_bot _ | exact vr_cap0v _ _ _ rfl | exact vr_cap0l | apply vr_agg | apply vr_tup | apply vr_fn | refine vr_yld _ _ _ rfl ?_ | exact Ren.bot _ | exact Ren.val _ | exact Ren.list _ | exact Ren.at_ _ | exact Ren.ptr _ _ _ rfl | refine Ren.yld _ _ _ _ _ rfl rfl (RenL.get ?_).2 (fun _ _ _ h => h) | refine vr_fl _ _ _ _ _ (by decide) rfl ?_ ?_ ?_ ?_ | refine And.intro ⟨_, rfl, .inl ⟨_, rfl, by decide, ?_⟩⟩ ?_ | refine And.intro ⟨_, rfl, _, rfl, by decide, ?_⟩ ?_ | refine And.intro ⟨_, rfl, .inr ⟨rfl, rfl, of_decide_eq_true (by kernel_rfl)⟩⟩ ?_ | apply And.intro | exact vrl_flat _ (by first | exact icells_in _ | exact rcells_in _ | exact scells_in _ | exact bcells_in _ | assumption))
          · have he : ((l[k]?.getD []).length == (l[0]?.getD []).length) = true := by
              have h : (((l[k]?.getD []).length : Int) != ((l[0]?.getD []).length : Int)) = false := hc
              have h' : ((l[k]?.getD []).length : Int) = ((l[0]?.getD []).length : Int) := by simpa using h
              simp only [beq_iff_eq]; omega
            refine aw_skip ?_
            simp only [thenQ, blockQ, if_true]
            refine aw_region ?_
            simp (config := {maxSteps := 10000000}) (disch := first | exact okYes (by kernel_rfl) | omega) only [thenQ, List.length, Nat.zero_add, Nat.reduceAdd, Nat.reduceMul, ARun_none, AOpRun, aexec, FSt.ev, St.F, eget_c, Nat.reduceBEq, ↓eget_h, cond_false, isSh, Bool.false_eq_true, ↓reduceIte, Option.map, abin, fits, AGo_ok, St.app, putO, eput_c, eput_n, hups, List.map, beq_self_eq_true, cond_true, ARun_nil, dropE_c, inL_c, inL_n, dropE_n]
            refine ⟨k + 1, ⟨hk', all_next (f := fun b => b.length == (l[0]?.getD []).length) hin2 he⟩, by omega, ?_⟩
            refine wk_to [] [] (by kernel_rfl) (by kernel_rfl) (by kernel_rfl) (by kernel_rfl) (by kernel_rfl) ?_ ?_ <;> repeat' (first | exact trivial | exact vr_val _ | exact vr_list _ | exact vr_at _ | exact vr_nil | exact vr_cap0 | exact vr_vec _ _ _ _ rfl | exact vr_own _ _ _ _ _ rfl | exact vr_ptr _ _ _ rfl | exact vr_nilv _ _ _ rfl | exact vr_bot _ | exact vr_cap0v _ _ _ rfl | exact vr_cap0l | apply vr_agg | apply vr_tup | apply vr_fn | refine vr_yld _ _ _ rfl ?_ | exact Ren.bot _ | exact Ren.val _ | exact Ren.list _ | exact Ren.at_ _ | exact Ren.ptr _ _ _ rfl | refine Ren.yld _ _ _ _ _ rfl rfl (RenL.get ?_).2 (fun _ _ _ h => h) | refine vr_fl _ _ _ _ _ (by decide) rfl ?_ ?_ ?_ ?_ | refine And.intro ⟨_, rfl, .inl ⟨_, rfl, by decide, ?_⟩⟩ ?_ | refine And.intro ⟨_, rfl, _, rfl, by decide, ?_⟩ ?_ | refine And.intro ⟨_, rfl, .inr ⟨rfl, rfl, of_decide_eq_true (by kernel_rfl)⟩⟩ ?_ | apply And.intro | exact vrl_flat _ (by first | exact icells_in _ | exact rcells_in _ | exact scells_in _ | exact bcells_in _ | assumption))
        · have hk' : k = l.length := by have := of_decide_eq_false hc; omega
          subst hk'
          have hall2 := all_at (f := fun b => b.length == (l[0]?.getD []).length) hin2
          refine aw_exit ?_
          simp only [thenQ, blockQ, if_true]
          refine aw_seq (aw_region ?_)
          simp (config := {maxSteps := 10000000}) (disch := first | exact okYes (by kernel_rfl) | omega) only [thenQ, List.length, Nat.zero_add, Nat.reduceMul, Nat.reduceAdd, ARun_none, AOpRun, aexec, FSt.ev, AGo_ok, St.app, putO, eput_c, Nat.reduceBEq, eput_n, cond_false, hups, List.map, ARun_nil, dropE_c, inL_n, dropE_n]
          refine aw_ret ?_
          unfold chk
          rw [hall2, hall]
          simp only [if_true]
          refine end_to [] [] (by first | exact .inl rfl | exact .inr rfl) rfl (by kernel_rfl) (by kernel_rfl) (by kernel_rfl) ?_ ?_ <;> repeat' (first | exact trivial | exact vr_val _ | exact vr_list _ | exact vr_at _ | exact vr_nil | exact vr_cap0 | exact vr_vec _ _ _ _ rfl | exact vr_own _ _ _ _ _ rfl | exact vr_ptr _ _ _ rfl | exact vr_nilv _ _ _ rfl | exact vr_bot _ | exact vr_cap0v _ _ _ rfl | exact vr_cap0l | apply vr_agg | apply vr_tup | apply vr_fn | refine vr_yld _ _ _ rfl ?_ | exact Ren.bot _ | exact Ren.val _ | exact Ren.list _ | exact Ren.at_ _ | exact Ren.ptr _ _ _ rfl | refine Ren.yld _ _ _ _ _ rfl rfl (RenL.get ?_).2 (fun _ _ _ h => h) | refine vr_fl _ _ _ _ _ (by decide) rfl ?_ ?_ ?_ ?_ | refine And.intro ⟨_, rfl, .inl ⟨_, rfl, by decide, ?_⟩⟩ ?_ | refine And.intro ⟨_, rfl, _, rfl, by decide, ?_⟩ ?_ | refine And.intro ⟨_, rfl, .inr ⟨rfl, rfl, of_decide_eq_true (by kernel_rfl)⟩⟩ ?_ | apply And.intro | exact vrl_flat _ (by first | exact icells_in _ | exact rcells_in _ | exact scells_in _ | exact bcells_in _ | assumption))
end Go.Proofs.Ytfaiogajaaclcaa
/- How many points what is left of boxes has: never more than all. In numbers; no conditions. -/
namespace Go.Proofs.Ytfaiogajaaclcaa

def wid (x : Int × Int) : Int := if x.1 > x.2 then 0 else x.2 - x.1 + 1
def vol : Bx → Int
  | [] => 1
  | x :: b => wid x * vol b
theorem wid_nn (x : Int × Int) : 0 ≤ wid x := by unfold wid; split <;> omega
theorem vol_nn : ∀ b : Bx, 0 ≤ vol b
  | [] => by simp [vol]
  | x :: b => Int.mul_nonneg (wid_nn x) (vol_nn b)
def at_ (b : Bx) (d : Nat) : Int × Int := (lo b d, hi b d)
end Go.Proofs.Ytfaiogajaaclcaa
/- What is left of boxes without others, one after the other, has no more points than all there are. No conditions. -/
namespace Go.Proofs.Ytfaiogajaaclcaa

def rst (l : List Bx) (b : Bx) : List Bx := l.flatMap fun a => mnL a b
/-- what is left of x without the boxes of R, the last one first -/
def leftR : List Bx → Bx → List Bx
  | [], x => [x]
  | b :: R, x => rst (leftR R x) b
theorem mnGo_ln (b : Bx) : ∀ (n : Nat) (l : Bx) (d : Nat), ∀ x ∈ mnGo b n l d, x.length = l.length
  | 0, _, _ => by simp [mnGo]
  | n + 1, l, d => by
    intro x hx
    unfold mnGo at hx
    have hc : ∀ y, x ∈ cut1 l d y → x.length = l.length := by
      intro y hy
      unfold cut1 at hy
      split at hy
      · simp at hy
      · simp at hy; subst hy; simp
    simp only [List.mem_append] at hx
    rcases hx with (hx | hx) | hx
    · exact hc _ hx
    · exact hc _ hx
    · split at hx
      · simp at hx
      · have := mnGo_ln b n _ _ x hx
        simpa using this
theorem rst_mem {l : List Bx} {b x : Bx} (h : x ∈ rst l b) : ∃ a ∈ l, x ∈ mnL a b := by simpa [rst] using h
theorem leftR_len {n : Nat} : ∀ (R : List Bx) (x : Bx), x.length = n → ∀ y ∈ leftR R x, y.length = n
  | [], x, h, y, hy => by simp [leftR] at hy; subst hy; exact h
  | b :: R, x, h, y, hy => by
    obtain ⟨a, ha, hm⟩ := rst_mem hy
    have := leftR_len R x h a ha
    rw [mnGo_ln b _ a 0 y hm, this]
theorem leftR_ok : ∀ (R : List Bx) (x : Bx), OkB x → ∀ y ∈ leftR R x, OkB y
  | [], x, h, y, hy => by simp [leftR] at hy; subst hy; exact h
  | b :: R, x, h, y, hy => by
    obtain ⟨a, ha, hm⟩ := rst_mem hy
    exact mnL_ok a b (leftR_ok R x h a ha) y hm
def sumW (l : List Bx) : Int := (l.map vol).sum
/-- how many points the first i boxes have, each without those before it -/
def cnt (l : List Bx) : Nat → Int
  | 0 => 0
  | i + 1 => cnt l i + sumW (leftR (l.take i).reverse (l[i]?.getD []))
theorem sumW_nn : ∀ l : List Bx, 0 ≤ sumW l
  | [] => by simp [sumW]
  | y :: l => by
    have := sumW_nn l
    have := vol_nn y
    simp only [sumW, List.map_cons, List.sum_cons] at *
    omega
theorem cnt_nn (l : List Bx) : ∀ i, 0 ≤ cnt l i
  | 0 => by simp [cnt]
  | i + 1 => by
    have := cnt_nn l i
    have := sumW_nn (leftR (l.take i).reverse (l[i]?.getD []))
    unfold cnt; omega
theorem sumW_take_succ (l : List Bx) (k : Nat) (h : k < l.length) : sumW (l.take (k + 1)) = sumW (l.take k) + vol (l[k]?.getD []) := by
  unfold sumW
  rw [← List.take_append_getElem h, List.map_append, List.sum_append]
  simp [h]
end Go.Proofs.Ytfaiogajaaclcaa
/- Copies of boxes, what is left of one, and how many points it has. No conditions. -/
set_option linter.unusedSimpArgs false
set_option linter.unusedVariables false
namespace Go.Proofs.Ytfaiogajaaclcaa
open Go.RowKit Lift

theorem bx_take (l : List Bx) (k : Nat) (h : k < l.length) : bcells (l.take (k + 1)) = bcells (l.take k) ++ [.list (sps (l[k]?.getD []))] := by
  rw [bcells_app, ← List.take_append_getElem h]; simp [h]
set_option maxRecDepth 100000 in
set_option maxHeartbeats 2000000 in
theorem copyB_ac (l : List Bx) (hl : l.length ≤ 1000) (hb : ∀ b ∈ l, b.length ≤ 1000) : AC Try.prog 57 [.list (bxs l)] [] [] (.list (bxs l)) := by
  refine kref01_CopyBoxes.ac (n0 := 0) (by simp) ⟨.list _, trivial⟩ trivial rfl ?_
  unfold cref01_CopyBoxes
  refine aw_seq (aw_region ?_)
  simp (config := {maxSteps := 10000000}) (disch := first | exact okYes (by kernel_rfl) | omega) only [thenQ, List.map, List.length, Nat.zero_add, Nat.reduceMul, envOf, ARun_none, AOpRun, aexec, FSt.ev, AGo_ok, St.app, putO, eput_c, Nat.reduceBEq, eput_n, cond_false, hups, ARun_nil, dropE_c, inL_n, dropE_n]
  refine aw_seq (aw_region ?_)
  simp (config := {maxSteps := 10000000}) (disch := first | exact okYes (by kernel_rfl) | omega) only [thenQ, List.length, Nat.zero_add, Nat.reduceMul, Nat.reduceAdd, ARun_none, AOpRun, aexec, FSt.ev, AGo_ok, St.app, putO, eput_c, Nat.reduceBEq, eput_n, cond_false, hups, List.map, ARun_nil, dropE_c, inL_n, dropE_n]
  refine aw_seq (aw_seq (aw_region ?_))
  simp (config := {maxSteps := 10000000}) (disch := first | exact okYes (by kernel_rfl) | omega) only [thenQ, List.length, Nat.zero_add, Nat.reduceMul, Nat.reduceAdd, ARun_none, AOpRun, aexec, FSt.ev, AGo_ok, St.app, putO, eput_c, Nat.reduceBEq, eput_n, cond_false, hups, List.map, ARun_nil, dropE_c, inL_n, dropE_n]
  refine aw_block (aw_loop (fun k : Nat => ⟨[(0, .list (bxs l)), (3, .vec 40 (l.take k).length 1), (4, .val (.int .i64 k))], [(40, bcells (l.take k))], 100⟩) (fun k => k ≤ l.length) (fun k => l.length - k) ⟨0, by omega, ?_⟩ ?_)
  · refine wk_to [] [(40, 40)] (by kernel_rfl) (by kernel_rfl) (by kernel_rfl) (by kernel_rfl) (by kernel_rfl) ?_ ?_ <;> repeat' (first | exact trivial | exact vr_val _ | exact vr_list _ | exact vr_at _ | exact vr_nil | exact vr_cap0 | exact vr_vec _ _ _ _ rfl | exact vr_own _ _ _ _ _ rfl | exact vr_ptr _ _ _ rfl | exact vr_nilv _ _ _ rfl | exact vr_bot _ | exact vr_cap0v _ _ _ rfl | exact vr_cap0l | apply vr_agg | apply vr_tup | apply vr_fn | refine vr_yld _ _ _ rfl ?_ | exact Ren.bot _ | exact Ren.val _ | exact Ren.list _ | exact Ren.at_ _ | exact Ren.ptr _ _ _ rfl | refine Ren.yld _ _ _ _ _ rfl rfl (RenL.get ?_).2 (fun _ _ _ h => h) | refine vr_fl _ _ _ _ _ (by decide) rfl ?_ ?_ ?_ ?_ | refine And.intro ⟨_, rfl, .inl ⟨_, rfl, by decide, ?_⟩⟩ ?_ | refine And.intro ⟨_, rfl, _, rfl, by decide, ?_⟩ ?_ | refine And.intro ⟨_, rfl, .inr ⟨rfl, rfl, of_decide_eq_true (by kernel_rfl)⟩⟩ ?_ | apply And.intro | exact vrl_flat _ (by first | exact icells_in _ | exact rcells_in _ | exact scells_in _ | exact bcells_in _ | assumption))
  · intro k hk
    refine aw_seq (aw_seq (aw_region ?_))
    simp (config := {maxSteps := 10000000}) (disch := first | exact okYes (by kernel_rfl) | omega) only [thenQ, List.length, Nat.zero_add, Nat.reduceAdd, Nat.reduceMul, ARun_none, AOpRun, aexec, FSt.ev, St.F, eget_c, Nat.reduceBEq, ↓eget_h, cond_false, AGo_ok, St.app, putO, eput_c, eput_n, hups, List.map, bxs_len, isSh, Bool.false_eq_true, ↓reduceIte, Option.map, abin, ARun_nil, dropE_c, inL_c, inL_n, beq_self_eq_true, cond_true, dropE_n]
    refine aw_cond rfl (fun hc => ?_) (fun hc => ?_)
    · have hk' : k < l.length := by have := of_decide_eq_true hc; omega
      have hbl : (l[k]?.getD []).length ≤ 1000 := hb _ (by simp [hk'])
      have hbt := bx_take l k hk'
      have hlt : (l.take (k + 1)).length = (l.take k).length + 1 := by simp; omega
      have hll : (l.take k).length ≤ 1000 := by simp; omega
      have hbg := bxs_gd l k hk'
      generalize l[k]?.getD [] = x at *
      generalize l.take k = t at *
      have hot : (bcells t).take t.length = bcells t := take_all _ _ (bcells_len _)
      have hbc := bcells_len t
      refine aw_skip (aw_seq (aw_block (aw_region_cut [⟨some 11, .mv (.tmp 3), none, []⟩,
            ⟨some 12, .buildSl 2 0 [] [], none, []⟩,
            ⟨some 13, .mv (.tmp 0), none, []⟩,
            ⟨some 14, .mv (.tmp 4), none, []⟩,
            ⟨some 15, .iadS 1 (.tmp 13) (.tmp 14), none, []⟩,
            ⟨some 16, .load1 (.tmp 15), none, []⟩,
            ⟨some 17, .app 2 16 (.tmp 12) (.tmp 16), none, []⟩] [⟨some 18, .buildSl 1 1 [(.val (.slice none 0 0))] [(0, 1, (.tmp 17))], none, []⟩,
            ⟨some 19, .app 1 24 (.tmp 11) (.tmp 18), none, []⟩,
            ⟨some 3, .mv (.tmp 19), none, []⟩] ?_)))
      simp (config := {maxSteps := 10000000}) (disch := first | exact okYes (by kernel_rfl) | omega) only [List.length, Nat.zero_add, Nat.reduceAdd, Nat.reduceMul, blockQ, thenQ, ARun_none, AOpRun, aexec, Option.isSome, Option.map, fillD, D.isBot, FSt.ev, St.F, D.cells, ne_eq, Nat.reduceGT, or_false, splice, List.take, List.nil_append, eget_c, Nat.reduceBEq, ↓eget_h, cond_false, AGo_ok, St.app, putO, eput_c, eput_n, hups, List.map, hget_c, hget_n, Bool.false_eq_true, ↓reduceIte, hput_c, hput_n, Int.natCast_nonneg, bxs_all, and_self, opt1, Int.toNat_natCast, hbg, run1, List.getElem?_cons_zero, base, ↓hget_h, Nat.zero_le, elems, sps_all, sps_len, sps_flat, scells_leaf, and_true, ups, List.cons_append]
      refine ago_if (by omega) ?_
      simp (config := {maxSteps := 10000000}) (disch := first | exact okYes (by kernel_rfl) | omega) only [AGo_ok, Nat.reduceAdd, St.app, putO, eput_c, Nat.reduceBEq, eput_n, cond_false, hups, hput_c, hput_n, hdel_c, beq_self_eq_true, hdel_n, cond_true, List.map, ARun_nil]
      refine ⟨⟨[(0, .list (bxs l)), (4, .val (.int .i64 k)), (11, .vec 40 t.length 1), (17, .list (sps x))], [(40, bcells t)], 400⟩, ?_, of_decide_eq_true (by kernel_rfl), ?_⟩
      · refine wk_to [180] [(40, 40)] (by kernel_rfl) (by kernel_rfl) (by kernel_rfl) (by kernel_rfl) (by kernel_rfl) ?_ ?_ <;> repeat' (first | exact trivial | exact vr_val _ | exact vr_list _ | exact vr_at _ | exact vr_nil | exact vr_cap0 | exact vr_vec _ _ _ _ rfl | exact vr_own _ _ _ _ _ rfl | exact vr_ptr _ _ _ rfl | exact vr_nilv _ _ _ rfl | exact vr_bot _ | exact vr_cap0v _ _ _ rfl | exact vr_cap0l | apply vr_agg | apply vr_tup | apply vr_fn | refine vr_yld _ _ _ rfl ?_ | exact Ren.bot _ | exact Ren.val _ | exact Ren.list _ | exact Ren.at_ _ | exact Ren.ptr _ _ _ rfl | refine Ren.yld _ _ _ _ _ rfl rfl (RenL.get ?_).2 (fun _ _ _ h => h) | refine vr_fl _ _ _ _ _ (by decide) rfl ?_ ?_ ?_ ?_ | refine And.intro ⟨_, rfl, .inl ⟨_, rfl, by decide, ?_⟩⟩ ?_ | refine And.intro ⟨_, rfl, _, rfl, by decide, ?_⟩ ?_ | refine And.intro ⟨_, rfl, .inr ⟨rfl, rfl, of_decide_eq_true (by kernel_rfl)⟩⟩ ?_ | apply And.intro | exact vrl_flat _ (by first | exact icells_in _ | exact rcells_in _ | exact scells_in _ | exact bcells_in _ | assumption))
        all_goals first | exact sps_two _ | exact sps_len _ | exact sps_flat _ | exact scells_in _
      simp (config := {maxSteps := 10000000}) (disch := first | exact okYes (by kernel_rfl) | omega) only [Nat.reduceSub, Nat.reduceAdd, hget_c, Nat.reduceBEq, hget_n, cond_false, Bool.false_eq_true, ↓reduceIte, eget_c, ↓eget_h, List.length, Nat.zero_add, not_true_eq_false, or_self, List.drop, List.append_nil, AGo_ok, St.app, putO, eput_c, eput_n, hups, hput_c, hput_n, List.map, ARun_none, AOpRun, aexec, base, FSt.ev, St.F, beq_self_eq_true, cond_true, Nat.mul_one, hbc, Nat.le_refl, and_self, hot, elems, ↓hget_h, List.take, Option.isSome, Nat.reduceMul, List.all, D.leaf, Bool.and_true, and_true, ups, List.cons_append, List.nil_append]
      refine ago_if (by omega) ?_
      simp (config := {maxSteps := 10000000}) (disch := first | exact okYes (by kernel_rfl) | omega) only [AGo_ok, Nat.reduceAdd, St.app, putO, eput_c, Nat.reduceBEq, eput_n, cond_false, hups, hput_c, hput_n, hdel_c, beq_self_eq_true, hdel_n, cond_true, List.map, ARun_none, AOpRun, aexec, FSt.ev, St.F, eget_c, ↓eget_h, ARun_nil, dropE_c, inL_c, inL_n, dropE_n]
      refine aw_region ?_
      simp (config := {maxSteps := 10000000}) (disch := first | exact okYes (by kernel_rfl) | omega) only [thenQ, List.length, Nat.zero_add, Nat.reduceAdd, Nat.reduceMul, ARun_none, AOpRun, aexec, FSt.ev, St.F, eget_c, Nat.reduceBEq, ↓eget_h, cond_false, AGo_ok, St.app, putO, eput_c, eput_n, hups, List.map, isSh, Bool.false_eq_true, ↓reduceIte, Option.map, abin, fits, beq_self_eq_true, cond_true, ARun_nil, dropE_c, inL_c, inL_n, dropE_n]
      refine ⟨k + 1, hk', by omega, ?_⟩
      rw [hbt, hlt]
      have hcin : ∀ y ∈ bcells t ++ [.list (sps x)], In (fun _ => False) y := by rw [bcells_app]; exact bcells_in _
      refine wk_to [] [(40, 408)] (by kernel_rfl) (by kernel_rfl) (by kernel_rfl) (by kernel_rfl) (by kernel_rfl) ?_ ?_ <;> repeat' (first | exact trivial | exact vr_val _ | exact vr_list _ | exact vr_at _ | exact vr_nil | exact vr_cap0 | exact vr_vec _ _ _ _ rfl | exact vr_own _ _ _ _ _ rfl | exact vr_ptr _ _ _ rfl | exact vr_nilv _ _ _ rfl | exact vr_bot _ | exact vr_cap0v _ _ _ rfl | exact vr_cap0l | apply vr_agg | apply vr_tup | apply vr_fn | refine vr_yld _ _ _ rfl ?_ | exact Ren.bot _ | exact Ren.val _ | exact Ren.list _ | exact Ren.at_ _ | exact Ren.ptr _ _ _ rfl | refine Ren.yld _ _ _ _ _ rfl rfl (RenL.get ?_).2 (fun _ _ _ h => h) | refine vr_fl _ _ _ _ _ (by decide) rfl ?_ ?_ ?_ ?_ | refine And.intro ⟨_, rfl, .inl ⟨_, rfl, by decide, ?_⟩⟩ ?_ | refine And.intro ⟨_, rfl, _, rfl, by decide, ?_⟩ ?_ | refine And.intro ⟨_, rfl, .inr ⟨rfl, rfl, of_decide_eq_true (by kernel_rfl)⟩⟩ ?_ | apply And.intro | exact vrl_flat _ (by first | exact icells_in _ | exact rcells_in _ | exact scells_in _ | exact bcells_in _ | assumption))
    · have hk' : k = l.length := by have := of_decide_eq_false hc; omega
      subst hk'
      refine aw_exit (aw_seq (aw_region ?_))
      simp (config := {maxSteps := 10000000}) (disch := first | exact okYes (by kernel_rfl) | omega) only [thenQ, List.length, Nat.zero_add, Nat.reduceAdd, Nat.reduceMul, List.take_length, ARun_none, AOpRun, aexec, FSt.ev, St.F, eget_c, Nat.reduceBEq, ↓eget_h, cond_false, AGo_ok, St.app, putO, eput_c, eput_n, hups, List.map, ARun_nil, dropE_c, inL_c, inL_n, beq_self_eq_true, cond_true, dropE_n]
      refine aw_ret ?_
      refine end_to [40] [] (by first | exact .inl rfl | exact .inr rfl) rfl (by kernel_rfl) (by kernel_rfl) (by kernel_rfl) ?_ ?_ <;> repeat' (first | exact trivial | exact vr_val _ | exact vr_list _ | exact vr_at _ | exact vr_nil | exact vr_cap0 | exact vr_vec _ _ _ _ rfl | exact vr_own _ _ _ _ _ rfl | exact vr_ptr _ _ _ rfl | exact vr_nilv _ _ _ rfl | exact vr_bot _ | exact vr_cap0v _ _ _ rfl | exact vr_cap0l | apply vr_agg | apply vr_tup | apply vr_fn | refine vr_yld _ _ _ rfl ?_ | exact Ren.bot _ | exact Ren.val _ | exact Ren.list _ | exact Ren.at_ _ | exact Ren.ptr _ _ _ rfl | refine Ren.yld _ _ _ _ _ rfl rfl (RenL.get ?_).2 (fun _ _ _ h => h) | refine vr_fl _ _ _ _ _ (by decide) rfl ?_ ?_ ?_ ?_ | refine And.intro ⟨_, rfl, .inl ⟨_, rfl, by decide, ?_⟩⟩ ?_ | refine And.intro ⟨_, rfl, _, rfl, by decide, ?_⟩ ?_ | refine And.intro ⟨_, rfl, .inr ⟨rfl, rfl, of_decide_eq_true (by kernel_rfl)⟩⟩ ?_ | apply And.intro | exact vrl_flat _ (by first | exact icells_in _ | exact rcells_in _ | exact scells_in _ | exact bcells_in _ | assumption))
      all_goals first | exact bxs_one _ | exact bxs_len _ | exact bxs_flat _ | exact bcells_in _
theorem vol_take : ∀ (b : Bx) (k : Nat), k < b.length → vol (b.take (k + 1)) = vol (b.take k) * wid (at_ b k)
  | [], k, h => by simp at h
  | x :: b, 0, _ => by simp [vol, at_, lo, hi]
  | x :: b, k + 1, h => by
    have := vol_take b k (by simpa using h)
    simp only [List.take_succ_cons, vol] at this ⊢
    rw [this, Int.mul_assoc]
    rfl
theorem wid_ok {b : Bx} (h : OkB b) {k : Nat} (hk : k < b.length) : wid (at_ b k) = hi b k - lo b k + 1 ∧ 1 ≤ wid (at_ b k) ∧ wid (at_ b k) ≤ 2000001 := by
  have h1 := h.low k hk
  have h2 := h.le k hk
  have h3 := h.high k hk
  unfold wid at_
  simp only
  rw [if_neg (by omega)]
  omega
theorem vol_take_le {b : Bx} (h : OkB b) : ∀ k, k ≤ b.length → 0 ≤ vol (b.take k) ∧ vol (b.take k) ≤ 2000001 ^ k
  | 0, _ => by simp [vol]
  | k + 1, hk => by
    obtain ⟨h1, h2⟩ := vol_take_le h k (by omega)
    obtain ⟨_, h4, h5⟩ := wid_ok h (k := k) (by omega)
    rw [vol_take b k (by omega)]
    refine ⟨Int.mul_nonneg h1 (by omega), ?_⟩
    rw [Int.pow_succ]
    exact Int.mul_le_mul h2 h5 (by omega) (by exact Int.pow_nonneg (by omega))
theorem vol_small {b : Bx} (h : OkB b) (k : Nat) (hk : k ≤ b.length) : 0 ≤ vol (b.take k) ∧ vol (b.take k) ≤ 8000012000006000001 := by
  obtain ⟨h1, h2⟩ := vol_take_le h k hk
  refine ⟨h1, Int.le_trans h2 ?_⟩
  have h3 := h.len
  rcases (by omega : k = 0 ∨ k = 1 ∨ k = 2 ∨ k = 3) with rfl | rfl | rfl | rfl <;> decide
end Go.Proofs.Ytfaiogajaaclcaa
/- What is left of a box without others: the reference's left. No conditions. -/
set_option linter.unusedSimpArgs false
set_option linter.unusedVariables false
namespace Go.Proofs.Ytfaiogajaaclcaa
open Go.RowKit Lift

theorem rst_len (b : Bx) : ∀ (l : List Bx), (∀ a ∈ l, a.length ≤ 3) → (rst l b).length ≤ 6 * l.length
  | [], _ => by simp [rst]
  | a :: l, h => by
    have h1 := mnL_len a b
    have h2 := h a (List.mem_cons_self ..)
    have h3 := rst_len b l fun x hx => h x (List.mem_cons_of_mem _ hx)
    unfold rst at h3 ⊢
    simp only [List.flatMap_cons, List.length_append, List.length_cons]
    omega
theorem leftR_cnt {n : Nat} (hn : n ≤ 3) : ∀ (R : List Bx) (x : Bx), x.length = n → (leftR R x).length ≤ 6 ^ R.length
  | [], x, _ => by simp [leftR]
  | b :: R, x, h => by
    have h1 := leftR_cnt hn R x h
    have h2 := rst_len b (leftR R x) fun a ha => by rw [leftR_len R x h a ha]; exact hn
    have e : leftR (b :: R) x = rst (leftR R x) b := rfl
    rw [e, List.length_cons, Nat.pow_succ]
    omega
theorem pow6 : ∀ k, k ≤ 8 → 6 ^ k ≤ 1679616 := by
  intro k hk
  exact Nat.le_trans (Nat.pow_le_pow_right (by omega) hk) (by decide)
theorem left_succ (L : List Bx) (x : Bx) (i : Nat) (h : i < L.length) : leftR (L.take (i + 1)).reverse x = rst (leftR (L.take i).reverse x) (L[i]?.getD []) := by
  have hrev : (L.take (i + 1)).reverse = L[i]?.getD [] :: (L.take i).reverse := by
    rw [← List.take_append_getElem h]; simp [h]
  rw [hrev]; rfl
theorem chk_zero {d : Nat} {l : List Bx} (h : chk d l = 0) : ∀ b ∈ l, OkB b ∧ b.length = d := by
  unfold chk at h
  split at h
  · rename_i h1
    split at h
    · rename_i h2
      intro b hb
      have e1 := List.all_eq_true.1 h1 b hb
      have e2 := List.all_eq_true.1 h2 b hb
      exact ⟨boxE_zero (by simpa using e1), by simpa using e2⟩
    · omega
  · omega
end Go.Proofs.Ytfaiogajaaclcaa
/- Comparison of corners: both sides. No conditions. -/
set_option linter.unusedSimpArgs false
set_option linter.unusedVariables false
namespace Go.Proofs.Ytfaiogajaaclcaa
open Go.RowKit Lift

def lex : List Int → List Int → Int
  | [], [] => 0
  | [], _ :: _ => -1
  | _ :: _, [] => 1
  | a :: p, b :: q => if a < b then -1 else if a > b then 1 else lex p q
def cmpI (a b : Int) : Int := if a < b then -1 else if a > b then 1 else 0
theorem lex_at : ∀ (p q : List Int) (k : Nat), k < p.length → k < q.length → (∀ j, j < k → p[j]?.getD 0 = q[j]?.getD 0) → p[k]?.getD 0 ≠ q[k]?.getD 0 → lex p q = cmpI (p[k]?.getD 0) (q[k]?.getD 0)
  | [], _, k, h, _, _, _ => by simp at h
  | _ :: _, [], k, _, h, _, _ => by simp at h
  | a :: p, b :: q, 0, _, _, _, hne => by
    simp only [List.getElem?_cons_zero, Option.getD_some] at hne ⊢
    unfold lex cmpI
    by_cases h1 : a < b
    · rw [if_pos h1, if_pos h1]
    · rw [if_neg h1, if_neg h1, if_pos (by omega), if_pos (by omega)]
  | a :: p, b :: q, k + 1, h1, h2, he, hne => by
    have e0 := he 0 (by omega)
    simp only [List.getElem?_cons_zero, Option.getD_some] at e0
    subst e0
    simp only [List.getElem?_cons_succ] at hne ⊢
    unfold lex
    rw [if_neg (by omega), if_neg (by omega)]
    exact lex_at p q k (by simpa using h1) (by simpa using h2) (fun j hj => by have := he (j + 1) (by omega); simpa using this) hne
theorem lex_eq : ∀ (p q : List Int), p.length = q.length → (∀ j, j < p.length → p[j]?.getD 0 = q[j]?.getD 0) → lex p q = 0
  | [], [], _, _ => rfl
  | [], _ :: _, h, _ => by simp at h
  | _ :: _, [], h, _ => by simp at h
  | a :: p, b :: q, h, he => by
    have e0 := he 0 (by simp)
    simp only [List.getElem?_cons_zero, Option.getD_some] at e0
    subst e0
    unfold lex
    rw [if_neg (by omega), if_neg (by omega)]
    exact lex_eq p q (by simpa using h) (fun j hj => by have := he (j + 1) (by simpa using hj); simpa using this)
set_option maxRecDepth 100000 in
set_option maxHeartbeats 2000000 in
theorem nan_ac (a : Int) : AC Try.prog 118 [dI a] [] [] (dB false) := by
  refine kcmp_isNaN_Lint_J.ac (n0 := 0) (by simp) ⟨.val _, trivial⟩ trivial rfl ?_
  unfold ccmp_isNaN_Lint_J
  refine aw_seq (aw_region ?_)
  simp (config := {maxSteps := 10000000}) (disch := first | exact okYes (by kernel_rfl) | omega) only [ARun_nil, ARun_none, ARun_some, ARun_skip, AOpRun, AGo_f, AGo_ok, AG_tt, AG_ff, AG_tf, AG_ft, AG_un, aexec, run1, asI, elems, base, opt1, fillD, splice, abin, ash, isSh, foldI, mn2, mx2, ↓eget_h, eget_c, eget_n, eput_c, eput_n, putO, ↓hget_h, hget_c, hget_n, hput_c, hput_n, hdel_c, hdel_n, hups, cond_true, cond_false,  ups, St.F, St.app, FSt.ev, dropE_c, dropE_n, inL_c, inL_n, envOf, thenQ, blockQ, D.isBot, D.isAgg, D.cells, D.leaf, scalarEq, eqCells, isB, Option.map, List.map, List.length, List.all, List.append, List.take, List.drop, List.cons_append, List.nil_append, List.append_nil, Option.isSome, List.getElem?_cons_zero, List.getElem?_cons_succ, if_true, if_false, true_and, and_true, Bool.not_true, Bool.not_false, Bool.true_or, Bool.false_or, Bool.or_true, Bool.or_false, Bool.false_eq_true, ↓reduceIte, Nat.reduceAdd, Nat.reduceMul, Nat.reduceEqDiff, Nat.reduceBEq, Nat.reduceSub, Nat.zero_add, Nat.reduceLeDiff, Nat.reduceGT, Nat.reduceLT, Nat.reduceBNe, okLog_f, reduceCtorEq, or_self, or_false, false_or, or_true, true_or, and_self, and_false, false_and, not_true_eq_false, not_false_eq_true, ne_eq, Bool.and_true, Bool.true_and, Bool.and_false, Bool.false_and, decide_eq_true_eq, decide_true, decide_false, Int.reduceBEq, Int.reduceBNe, Int.reduceLT, Int.reduceLE, Int.reduceAdd, Int.reduceSub, Int.reduceMul, Int.reduceNeg, Int.reduceEq, Int.toNat_zero, Int.reduceToNat, Int.zero_lt_one, Nat.zero_le, Int.le_refl, beq_self_eq_true, bne_self_eq_false, cast_lit, fits, wrap_in, Int.toNat_natCast, Int.natCast_nonneg, dI]
  refine aw_seq (aw_region ?_)
  simp (config := {maxSteps := 10000000}) (disch := first | exact okYes (by kernel_rfl) | omega) only [ARun_nil, ARun_none, ARun_some, ARun_skip, AOpRun, AGo_f, AGo_ok, AG_tt, AG_ff, AG_tf, AG_ft, AG_un, aexec, run1, asI, elems, base, opt1, fillD, splice, abin, ash, isSh, foldI, mn2, mx2, ↓eget_h, eget_c, eget_n, eput_c, eput_n, putO, ↓hget_h, hget_c, hget_n, hput_c, hput_n, hdel_c, hdel_n, hups, cond_true, cond_false,  ups, St.F, St.app, FSt.ev, dropE_c, dropE_n, inL_c, inL_n, envOf, thenQ, blockQ, D.isBot, D.isAgg, D.cells, D.leaf, scalarEq, eqCells, isB, Option.map, List.map, List.length, List.all, List.append, List.take, List.drop, List.cons_append, List.nil_append, List.append_nil, Option.isSome, List.getElem?_cons_zero, List.getElem?_cons_succ, if_true, if_false, true_and, and_true, Bool.not_true, Bool.not_false, Bool.true_or, Bool.false_or, Bool.or_true, Bool.or_false, Bool.false_eq_true, ↓reduceIte, Nat.reduceAdd, Nat.reduceMul, Nat.reduceEqDiff, Nat.reduceBEq, Nat.reduceSub, Nat.zero_add, Nat.reduceLeDiff, Nat.reduceGT, Nat.reduceLT, Nat.reduceBNe, okLog_f, reduceCtorEq, or_self, or_false, false_or, or_true, true_or, and_self, and_false, false_and, not_true_eq_false, not_false_eq_true, ne_eq, Bool.and_true, Bool.true_and, Bool.and_false, Bool.false_and, decide_eq_true_eq, decide_true, decide_false, Int.reduceBEq, Int.reduceBNe, Int.reduceLT, Int.reduceLE, Int.reduceAdd, Int.reduceSub, Int.reduceMul, Int.reduceNeg, Int.reduceEq, Int.toNat_zero, Int.reduceToNat, Int.zero_lt_one, Nat.zero_le, Int.le_refl, beq_self_eq_true, bne_self_eq_false, cast_lit, fits, wrap_in, Int.toNat_natCast, Int.natCast_nonneg]
  refine aw_ret ?_
  refine end_to [] [] (by first | exact .inl rfl | exact .inr rfl) rfl (by kernel_rfl) (by kernel_rfl) (by kernel_rfl) ?_ ?_ <;> repeat' (first | exact trivial | exact vr_val _ | exact vr_list _ | exact vr_at _ | exact vr_nil | exact vr_cap0 | exact vr_vec _ _ _ _ rfl | exact vr_own _ _ _ _ _ rfl | exact vr_ptr _ _ _ rfl | exact vr_nilv _ _ _ rfl | exact vr_bot _ | exact vr_cap0v _ _ _ rfl | exact vr_cap0l | apply vr_agg | apply vr_tup | apply vr_fn | refine vr_yld _ _ _ rfl ?_ | exact Ren.bot _ | exact Ren.val _ | exact Ren.list _ | exact Ren.at_ _ | exact Ren.ptr _ _ _ rfl | refine Ren.yld _ _ _ _ _ rfl rfl (RenL.get ?_).2 (fun _ _ _ h => h) | refine vr_fl _ _ _ _ _ (by decide) rfl ?_ ?_ ?_ ?_ | refine And.intro ⟨_, rfl, .inl ⟨_, rfl, by decide, ?_⟩⟩ ?_ | refine And.intro ⟨_, rfl, _, rfl, by decide, ?_⟩ ?_ | refine And.intro ⟨_, rfl, .inr ⟨rfl, rfl, of_decide_eq_true (by kernel_rfl)⟩⟩ ?_ | apply And.intro | exact vrl_flat _ (by first | exact icells_in _ | exact rcells_in _ | exact scells_in _ | exact bcells_in _ | assumption))
set_option maxRecDepth 100000 in
set_option maxHeartbeats 2000000 in
theorem cmp_ac (a b : Int) : AC Try.prog 112 [dI a, dI b] [] [] (dI (cmpI a b)) := by
  refine kcmp_Compare_Lint_J.ac (n0 := 0) (by simp) ⟨.val _, .val _, trivial⟩ trivial rfl ?_
  unfold ccmp_Compare_Lint_J
  refine aw_seq (aw_region ?_)
  simp (config := {maxSteps := 10000000}) (disch := first | exact okYes (by kernel_rfl) | omega) only [ARun_nil, ARun_none, ARun_some, ARun_skip, AOpRun, AGo_f, AGo_ok, AG_tt, AG_ff, AG_tf, AG_ft, AG_un, aexec, run1, asI, elems, base, opt1, fillD, splice, abin, ash, isSh, foldI, mn2, mx2, ↓eget_h, eget_c, eget_n, eput_c, eput_n, putO, ↓hget_h, hget_c, hget_n, hput_c, hput_n, hdel_c, hdel_n, hups, cond_true, cond_false,  ups, St.F, St.app, FSt.ev, dropE_c, dropE_n, inL_c, inL_n, envOf, thenQ, blockQ, D.isBot, D.isAgg, D.cells, D.leaf, scalarEq, eqCells, isB, Option.map, List.map, List.length, List.all, List.append, List.take, List.drop, List.cons_append, List.nil_append, List.append_nil, Option.isSome, List.getElem?_cons_zero, List.getElem?_cons_succ, if_true, if_false, true_and, and_true, Bool.not_true, Bool.not_false, Bool.true_or, Bool.false_or, Bool.or_true, Bool.or_false, Bool.false_eq_true, ↓reduceIte, Nat.reduceAdd, Nat.reduceMul, Nat.reduceEqDiff, Nat.reduceBEq, Nat.reduceSub, Nat.zero_add, Nat.reduceLeDiff, Nat.reduceGT, Nat.reduceLT, Nat.reduceBNe, okLog_f, reduceCtorEq, or_self, or_false, false_or, or_true, true_or, and_self, and_false, false_and, not_true_eq_false, not_false_eq_true, ne_eq, Bool.and_true, Bool.true_and, Bool.and_false, Bool.false_and, decide_eq_true_eq, decide_true, decide_false, Int.reduceBEq, Int.reduceBNe, Int.reduceLT, Int.reduceLE, Int.reduceAdd, Int.reduceSub, Int.reduceMul, Int.reduceNeg, Int.reduceEq, Int.toNat_zero, Int.reduceToNat, Int.zero_lt_one, Nat.zero_le, Int.le_refl, beq_self_eq_true, bne_self_eq_false, cast_lit, fits, wrap_in, Int.toNat_natCast, Int.natCast_nonneg, dI]
  refine aw_seq (aw_region ?_)
  simp (config := {maxSteps := 10000000}) (disch := first | exact okYes (by kernel_rfl) | omega) only [ARun_nil, ARun_none, ARun_some, ARun_skip, AOpRun, AGo_f, AGo_ok, AG_tt, AG_ff, AG_tf, AG_ft, AG_un, aexec, run1, asI, elems, base, opt1, fillD, splice, abin, ash, isSh, foldI, mn2, mx2, ↓eget_h, eget_c, eget_n, eput_c, eput_n, putO, ↓hget_h, hget_c, hget_n, hput_c, hput_n, hdel_c, hdel_n, hups, cond_true, cond_false,  ups, St.F, St.app, FSt.ev, dropE_c, dropE_n, inL_c, inL_n, envOf, thenQ, blockQ, D.isBot, D.isAgg, D.cells, D.leaf, scalarEq, eqCells, isB, Option.map, List.map, List.length, List.all, List.append, List.take, List.drop, List.cons_append, List.nil_append, List.append_nil, Option.isSome, List.getElem?_cons_zero, List.getElem?_cons_succ, if_true, if_false, true_and, and_true, Bool.not_true, Bool.not_false, Bool.true_or, Bool.false_or, Bool.or_true, Bool.or_false, Bool.false_eq_true, ↓reduceIte, Nat.reduceAdd, Nat.reduceMul, Nat.reduceEqDiff, Nat.reduceBEq, Nat.reduceSub, Nat.zero_add, Nat.reduceLeDiff, Nat.reduceGT, Nat.reduceLT, Nat.reduceBNe, okLog_f, reduceCtorEq, or_self, or_false, false_or, or_true, true_or, and_self, and_false, false_and, not_true_eq_false, not_false_eq_true, ne_eq, Bool.and_true, Bool.true_and, Bool.and_false, Bool.false_and, decide_eq_true_eq, decide_true, decide_false, Int.reduceBEq, Int.reduceBNe, Int.reduceLT, Int.reduceLE, Int.reduceAdd, Int.reduceSub, Int.reduceMul, Int.reduceNeg, Int.reduceEq, Int.toNat_zero, Int.reduceToNat, Int.zero_lt_one, Nat.zero_le, Int.le_refl, beq_self_eq_true, bne_self_eq_false, cast_lit, fits, wrap_in, Int.toNat_natCast, Int.natCast_nonneg]
  refine acall0 (nan_ac a) ?_
  simp (config := {maxSteps := 10000000}) (disch := first | exact okYes (by kernel_rfl) | omega) only [ARun_nil, ARun_none, ARun_some, ARun_skip, AOpRun, AGo_f, AGo_ok, AG_tt, AG_ff, AG_tf, AG_ft, AG_un, aexec, run1, asI, elems, base, opt1, fillD, splice, abin, ash, isSh, foldI, mn2, mx2, ↓eget_h, eget_c, eget_n, eput_c, eput_n, putO, ↓hget_h, hget_c, hget_n, hput_c, hput_n, hdel_c, hdel_n, hups, cond_true, cond_false,  ups, St.F, St.app, FSt.ev, dropE_c, dropE_n, inL_c, inL_n, envOf, thenQ, blockQ, D.isBot, D.isAgg, D.cells, D.leaf, scalarEq, eqCells, isB, Option.map, List.map, List.length, List.all, List.append, List.take, List.drop, List.cons_append, List.nil_append, List.append_nil, Option.isSome, List.getElem?_cons_zero, List.getElem?_cons_succ, if_true, if_false, true_and, and_true, Bool.not_true, Bool.not_false, Bool.true_or, Bool.false_or, Bool.or_true, Bool.or_false, Bool.false_eq_true, ↓reduceIte, Nat.reduceAdd, Nat.reduceMul, Nat.reduceEqDiff, Nat.reduceBEq, Nat.reduceSub, Nat.zero_add, Nat.reduceLeDiff, Nat.reduceGT, Nat.reduceLT, Nat.reduceBNe, okLog_f, reduceCtorEq, or_self, or_false, false_or, or_true, true_or, and_self, and_false, false_and, not_true_eq_false, not_false_eq_true, ne_eq, Bool.and_true, Bool.true_and, Bool.and_false, Bool.false_and, decide_eq_true_eq, decide_true, decide_false, Int.reduceBEq, Int.reduceBNe, Int.reduceLT, Int.reduceLE, Int.reduceAdd, Int.reduceSub, Int.reduceMul, Int.reduceNeg, Int.reduceEq, Int.toNat_zero, Int.reduceToNat, Int.zero_lt_one, Nat.zero_le, Int.le_refl, beq_self_eq_true, bne_self_eq_false, cast_lit, fits, wrap_in, Int.toNat_natCast, Int.natCast_nonneg, dB]
  refine aw_seq (aw_region ?_)
  simp (config := {maxSteps := 10000000}) (disch := first | exact okYes (by kernel_rfl) | omega) only [ARun_nil, ARun_none, ARun_some, ARun_skip, AOpRun, AGo_f, AGo_ok, AG_tt, AG_ff, AG_tf, AG_ft, AG_un, aexec, run1, asI, elems, base, opt1, fillD, splice, abin, ash, isSh, foldI, mn2, mx2, ↓eget_h, eget_c, eget_n, eput_c, eput_n, putO, ↓hget_h, hget_c, hget_n, hput_c, hput_n, hdel_c, hdel_n, hups, cond_true, cond_false,  ups, St.F, St.app, FSt.ev, dropE_c, dropE_n, inL_c, inL_n, envOf, thenQ, blockQ, D.isBot, D.isAgg, D.cells, D.leaf, scalarEq, eqCells, isB, Option.map, List.map, List.length, List.all, List.append, List.take, List.drop, List.cons_append, List.nil_append, List.append_nil, Option.isSome, List.getElem?_cons_zero, List.getElem?_cons_succ, if_true, if_false, true_and, and_true, Bool.not_true, Bool.not_false, Bool.true_or, Bool.false_or, Bool.or_true, Bool.or_false, Bool.false_eq_true, ↓reduceIte, Nat.reduceAdd, Nat.reduceMul, Nat.reduceEqDiff, Nat.reduceBEq, Nat.reduceSub, Nat.zero_add, Nat.reduceLeDiff, Nat.reduceGT, Nat.reduceLT, Nat.reduceBNe, okLog_f, reduceCtorEq, or_self, or_false, false_or, or_true, true_or, and_self, and_false, false_and, not_true_eq_false, not_false_eq_true, ne_eq, Bool.and_true, Bool.true_and, Bool.and_false, Bool.false_and, decide_eq_true_eq, decide_true, decide_false, Int.reduceBEq, Int.reduceBNe, Int.reduceLT, Int.reduceLE, Int.reduceAdd, Int.reduceSub, Int.reduceMul, Int.reduceNeg, Int.reduceEq, Int.toNat_zero, Int.reduceToNat, Int.zero_lt_one, Nat.zero_le, Int.le_refl, beq_self_eq_true, bne_self_eq_false, cast_lit, fits, wrap_in, Int.toNat_natCast, Int.natCast_nonneg]
  refine acall0 (nan_ac b) ?_
  simp (config := {maxSteps := 10000000}) (disch := first | exact okYes (by kernel_rfl) | omega) only [ARun_nil, ARun_none, ARun_some, ARun_skip, AOpRun, AGo_f, AGo_ok, AG_tt, AG_ff, AG_tf, AG_ft, AG_un, aexec, run1, asI, elems, base, opt1, fillD, splice, abin, ash, isSh, foldI, mn2, mx2, ↓eget_h, eget_c, eget_n, eput_c, eput_n, putO, ↓hget_h, hget_c, hget_n, hput_c, hput_n, hdel_c, hdel_n, hups, cond_true, cond_false,  ups, St.F, St.app, FSt.ev, dropE_c, dropE_n, inL_c, inL_n, envOf, thenQ, blockQ, D.isBot, D.isAgg, D.cells, D.leaf, scalarEq, eqCells, isB, Option.map, List.map, List.length, List.all, List.append, List.take, List.drop, List.cons_append, List.nil_append, List.append_nil, Option.isSome, List.getElem?_cons_zero, List.getElem?_cons_succ, if_true, if_false, true_and, and_true, Bool.not_true, Bool.not_false, Bool.true_or, Bool.false_or, Bool.or_true, Bool.or_false, Bool.false_eq_true, ↓reduceIte, Nat.reduceAdd, Nat.reduceMul, Nat.reduceEqDiff, Nat.reduceBEq, Nat.reduceSub, Nat.zero_add, Nat.reduceLeDiff, Nat.reduceGT, Nat.reduceLT, Nat.reduceBNe, okLog_f, reduceCtorEq, or_self, or_false, false_or, or_true, true_or, and_self, and_false, false_and, not_true_eq_false, not_false_eq_true, ne_eq, Bool.and_true, Bool.true_and, Bool.and_false, Bool.false_and, decide_eq_true_eq, decide_true, decide_false, Int.reduceBEq, Int.reduceBNe, Int.reduceLT, Int.reduceLE, Int.reduceAdd, Int.reduceSub, Int.reduceMul, Int.reduceNeg, Int.reduceEq, Int.toNat_zero, Int.reduceToNat, Int.zero_lt_one, Nat.zero_le, Int.le_refl, beq_self_eq_true, bne_self_eq_false, cast_lit, fits, wrap_in, Int.toNat_natCast, Int.natCast_nonneg, dB]
  refine aw_seq (aw_seq (aw_region ?_))
  simp (config := {maxSteps := 10000000}) (disch := first | exact okYes (by kernel_rfl) | omega) only [ARun_nil, ARun_none, ARun_some, ARun_skip, AOpRun, AGo_f, AGo_ok, AG_tt, AG_ff, AG_tf, AG_ft, AG_un, aexec, run1, asI, elems, base, opt1, fillD, splice, abin, ash, isSh, foldI, mn2, mx2, ↓eget_h, eget_c, eget_n, eput_c, eput_n, putO, ↓hget_h, hget_c, hget_n, hput_c, hput_n, hdel_c, hdel_n, hups, cond_true, cond_false,  ups, St.F, St.app, FSt.ev, dropE_c, dropE_n, inL_c, inL_n, envOf, thenQ, blockQ, D.isBot, D.isAgg, D.cells, D.leaf, scalarEq, eqCells, isB, Option.map, List.map, List.length, List.all, List.append, List.take, List.drop, List.cons_append, List.nil_append, List.append_nil, Option.isSome, List.getElem?_cons_zero, List.getElem?_cons_succ, if_true, if_false, true_and, and_true, Bool.not_true, Bool.not_false, Bool.true_or, Bool.false_or, Bool.or_true, Bool.or_false, Bool.false_eq_true, ↓reduceIte, Nat.reduceAdd, Nat.reduceMul, Nat.reduceEqDiff, Nat.reduceBEq, Nat.reduceSub, Nat.zero_add, Nat.reduceLeDiff, Nat.reduceGT, Nat.reduceLT, Nat.reduceBNe, okLog_f, reduceCtorEq, or_self, or_false, false_or, or_true, true_or, and_self, and_false, false_and, not_true_eq_false, not_false_eq_true, ne_eq, Bool.and_true, Bool.true_and, Bool.and_false, Bool.false_and, decide_eq_true_eq, decide_true, decide_false, Int.reduceBEq, Int.reduceBNe, Int.reduceLT, Int.reduceLE, Int.reduceAdd, Int.reduceSub, Int.reduceMul, Int.reduceNeg, Int.reduceEq, Int.toNat_zero, Int.reduceToNat, Int.zero_lt_one, Nat.zero_le, Int.le_refl, beq_self_eq_true, bne_self_eq_false, cast_lit, fits, wrap_in, Int.toNat_natCast, Int.natCast_nonneg]
  refine aw_cond rfl (fun hc => nomatch hc) (fun _ => ?_)
  refine aw_skip (aw_seq (aw_seq (aw_region ?_)))
  simp (config := {maxSteps := 10000000}) (disch := first | exact okYes (by kernel_rfl) | omega) only [ARun_nil, ARun_none, ARun_some, ARun_skip, AOpRun, AGo_f, AGo_ok, AG_tt, AG_ff, AG_tf, AG_ft, AG_un, aexec, run1, asI, elems, base, opt1, fillD, splice, abin, ash, isSh, foldI, mn2, mx2, ↓eget_h, eget_c, eget_n, eput_c, eput_n, putO, ↓hget_h, hget_c, hget_n, hput_c, hput_n, hdel_c, hdel_n, hups, cond_true, cond_false,  ups, St.F, St.app, FSt.ev, dropE_c, dropE_n, inL_c, inL_n, envOf, thenQ, blockQ, D.isBot, D.isAgg, D.cells, D.leaf, scalarEq, eqCells, isB, Option.map, List.map, List.length, List.all, List.append, List.take, List.drop, List.cons_append, List.nil_append, List.append_nil, Option.isSome, List.getElem?_cons_zero, List.getElem?_cons_succ, if_true, if_false, true_and, and_true, Bool.not_true, Bool.not_false, Bool.true_or, Bool.false_or, Bool.or_true, Bool.or_false, Bool.false_eq_true, ↓reduceIte, Nat.reduceAdd, Nat.reduceMul, Nat.reduceEqDiff, Nat.reduceBEq, Nat.reduceSub, Nat.zero_add, Nat.reduceLeDiff, Nat.reduceGT, Nat.reduceLT, Nat.reduceBNe, okLog_f, reduceCtorEq, or_self, or_false, false_or, or_true, true_or, and_self, and_false, false_and, not_true_eq_false, not_false_eq_true, ne_eq, Bool.and_true, Bool.true_and, Bool.and_false, Bool.false_and, decide_eq_true_eq, decide_true, decide_false, Int.reduceBEq, Int.reduceBNe, Int.reduceLT, Int.reduceLE, Int.reduceAdd, Int.reduceSub, Int.reduceMul, Int.reduceNeg, Int.reduceEq, Int.toNat_zero, Int.reduceToNat, Int.zero_lt_one, Nat.zero_le, Int.le_refl, beq_self_eq_true, bne_self_eq_false, cast_lit, fits, wrap_in, Int.toNat_natCast, Int.natCast_nonneg]
  refine aw_cond rfl (fun hc => nomatch hc) (fun _ => ?_)
  refine aw_skip (aw_seq (aw_seq (aw_region ?_)))
  simp (config := {maxSteps := 10000000}) (disch := first | exact okYes (by kernel_rfl) | omega) only [ARun_nil, ARun_none, ARun_some, ARun_skip, AOpRun, AGo_f, AGo_ok, AG_tt, AG_ff, AG_tf, AG_ft, AG_un, aexec, run1, asI, elems, base, opt1, fillD, splice, abin, ash, isSh, foldI, mn2, mx2, ↓eget_h, eget_c, eget_n, eput_c, eput_n, putO, ↓hget_h, hget_c, hget_n, hput_c, hput_n, hdel_c, hdel_n, hups, cond_true, cond_false,  ups, St.F, St.app, FSt.ev, dropE_c, dropE_n, inL_c, inL_n, envOf, thenQ, blockQ, D.isBot, D.isAgg, D.cells, D.leaf, scalarEq, eqCells, isB, Option.map, List.map, List.length, List.all, List.append, List.take, List.drop, List.cons_append, List.nil_append, List.append_nil, Option.isSome, List.getElem?_cons_zero, List.getElem?_cons_succ, if_true, if_false, true_and, and_true, Bool.not_true, Bool.not_false, Bool.true_or, Bool.false_or, Bool.or_true, Bool.or_false, Bool.false_eq_true, ↓reduceIte, Nat.reduceAdd, Nat.reduceMul, Nat.reduceEqDiff, Nat.reduceBEq, Nat.reduceSub, Nat.zero_add, Nat.reduceLeDiff, Nat.reduceGT, Nat.reduceLT, Nat.reduceBNe, okLog_f, reduceCtorEq, or_self, or_false, false_or, or_true, true_or, and_self, and_false, false_and, not_true_eq_false, not_false_eq_true, ne_eq, Bool.and_true, Bool.true_and, Bool.and_false, Bool.false_and, decide_eq_true_eq, decide_true, decide_false, Int.reduceBEq, Int.reduceBNe, Int.reduceLT, Int.reduceLE, Int.reduceAdd, Int.reduceSub, Int.reduceMul, Int.reduceNeg, Int.reduceEq, Int.toNat_zero, Int.reduceToNat, Int.zero_lt_one, Nat.zero_le, Int.le_refl, beq_self_eq_true, bne_self_eq_false, cast_lit, fits, wrap_in, Int.toNat_natCast, Int.natCast_nonneg]
  refine aw_cond rfl (fun hc => ?_) (fun hc => ?_)
  · have h1 : a < b := of_decide_eq_true hc
    refine aw_seq (aw_region ?_)
    simp (config := {maxSteps := 10000000}) (disch := first | exact okYes (by kernel_rfl) | omega) only [ARun_nil, ARun_none, ARun_some, ARun_skip, AOpRun, AGo_f, AGo_ok, AG_tt, AG_ff, AG_tf, AG_ft, AG_un, aexec, run1, asI, elems, base, opt1, fillD, splice, abin, ash, isSh, foldI, mn2, mx2, ↓eget_h, eget_c, eget_n, eput_c, eput_n, putO, ↓hget_h, hget_c, hget_n, hput_c, hput_n, hdel_c, hdel_n, hups, cond_true, cond_false,  ups, St.F, St.app, FSt.ev, dropE_c, dropE_n, inL_c, inL_n, envOf, thenQ, blockQ, D.isBot, D.isAgg, D.cells, D.leaf, scalarEq, eqCells, isB, Option.map, List.map, List.length, List.all, List.append, List.take, List.drop, List.cons_append, List.nil_append, List.append_nil, Option.isSome, List.getElem?_cons_zero, List.getElem?_cons_succ, if_true, if_false, true_and, and_true, Bool.not_true, Bool.not_false, Bool.true_or, Bool.false_or, Bool.or_true, Bool.or_false, Bool.false_eq_true, ↓reduceIte, Nat.reduceAdd, Nat.reduceMul, Nat.reduceEqDiff, Nat.reduceBEq, Nat.reduceSub, Nat.zero_add, Nat.reduceLeDiff, Nat.reduceGT, Nat.reduceLT, Nat.reduceBNe, okLog_f, reduceCtorEq, or_self, or_false, false_or, or_true, true_or, and_self, and_false, false_and, not_true_eq_false, not_false_eq_true, ne_eq, Bool.and_true, Bool.true_and, Bool.and_false, Bool.false_and, decide_eq_true_eq, decide_true, decide_false, Int.reduceBEq, Int.reduceBNe, Int.reduceLT, Int.reduceLE, Int.reduceAdd, Int.reduceSub, Int.reduceMul, Int.reduceNeg, Int.reduceEq, Int.toNat_zero, Int.reduceToNat, Int.zero_lt_one, Nat.zero_le, Int.le_refl, beq_self_eq_true, bne_self_eq_false, cast_lit, fits, wrap_in, Int.toNat_natCast, Int.natCast_nonneg]
    refine aw_ret ?_
    unfold cmpI
    rw [if_pos h1]
    refine end_to [] [] (by first | exact .inl rfl | exact .inr rfl) rfl (by kernel_rfl) (by kernel_rfl) (by kernel_rfl) ?_ ?_ <;> repeat' (first | exact trivial | exact vr_val _ | exact vr_list _ | exact vr_at _ | exact vr_nil | exact vr_cap0 | exact vr_vec _ _ _ _ rfl | exact vr_own _ _ _ _ _ rfl | exact vr_ptr _ _ _ rfl | exact vr_nilv _ _ _ rfl | exact vr_bot _ | exact vr_cap0v _ _ _ rfl | exact vr_cap0l | apply vr_agg | apply vr_tup | apply vr_fn | refine vr_yld _ _ _ rfl ?_ | exact Ren.bot _ | exact Ren.val _ | exact Ren.list _ | exact Ren.at_ _ | exact Ren.ptr _ _ _ rfl | refine Ren.yld _ _ _ _ _ rfl rfl (RenL.get ?_).2 (fun _ _ _ h => h) | refine vr_fl _ _ _ _ _ (by decide) rfl ?_ ?_ ?_ ?_ | refine And.intro ⟨_, rfl, .inl ⟨_, rfl, by decide, ?_⟩⟩ ?_ | refine And.intro ⟨_, rfl, _, rfl, by decide, ?_⟩ ?_ | refine And.intro ⟨_, rfl, .inr ⟨rfl, rfl, of_decide_eq_true (by kernel_rfl)⟩⟩ ?_ | apply And.intro | exact vrl_flat _ (by first | exact icells_in _ | exact rcells_in _ | exact scells_in _ | exact bcells_in _ | assumption))
  have h1 : ¬ a < b := of_decide_eq_false hc
  refine aw_skip (aw_seq (aw_seq (aw_region ?_)))
  simp (config := {maxSteps := 10000000}) (disch := first | exact okYes (by kernel_rfl) | omega) only [ARun_nil, ARun_none, ARun_some, ARun_skip, AOpRun, AGo_f, AGo_ok, AG_tt, AG_ff, AG_tf, AG_ft, AG_un, aexec, run1, asI, elems, base, opt1, fillD, splice, abin, ash, isSh, foldI, mn2, mx2, ↓eget_h, eget_c, eget_n, eput_c, eput_n, putO, ↓hget_h, hget_c, hget_n, hput_c, hput_n, hdel_c, hdel_n, hups, cond_true, cond_false,  ups, St.F, St.app, FSt.ev, dropE_c, dropE_n, inL_c, inL_n, envOf, thenQ, blockQ, D.isBot, D.isAgg, D.cells, D.leaf, scalarEq, eqCells, isB, Option.map, List.map, List.length, List.all, List.append, List.take, List.drop, List.cons_append, List.nil_append, List.append_nil, Option.isSome, List.getElem?_cons_zero, List.getElem?_cons_succ, if_true, if_false, true_and, and_true, Bool.not_true, Bool.not_false, Bool.true_or, Bool.false_or, Bool.or_true, Bool.or_false, Bool.false_eq_true, ↓reduceIte, Nat.reduceAdd, Nat.reduceMul, Nat.reduceEqDiff, Nat.reduceBEq, Nat.reduceSub, Nat.zero_add, Nat.reduceLeDiff, Nat.reduceGT, Nat.reduceLT, Nat.reduceBNe, okLog_f, reduceCtorEq, or_self, or_false, false_or, or_true, true_or, and_self, and_false, false_and, not_true_eq_false, not_false_eq_true, ne_eq, Bool.and_true, Bool.true_and, Bool.and_false, Bool.false_and, decide_eq_true_eq, decide_true, decide_false, Int.reduceBEq, Int.reduceBNe, Int.reduceLT, Int.reduceLE, Int.reduceAdd, Int.reduceSub, Int.reduceMul, Int.reduceNeg, Int.reduceEq, Int.toNat_zero, Int.reduceToNat, Int.zero_lt_one, Nat.zero_le, Int.le_refl, beq_self_eq_true, bne_self_eq_false, cast_lit, fits, wrap_in, Int.toNat_natCast, Int.natCast_nonneg]
  refine aw_cond rfl (fun hc => ?_) (fun hc => ?_)
  · have h2 : b < a := of_decide_eq_true hc
    refine aw_seq (aw_region ?_)
    simp (config := {maxSteps := 10000000}) (disch := first | exact okYes (by kernel_rfl) | omega) only [ARun_nil, ARun_none, ARun_some, ARun_skip, AOpRun, AGo_f, AGo_ok, AG_tt, AG_ff, AG_tf, AG_ft, AG_un, aexec, run1, asI, elems, base, opt1, fillD, splice, abin, ash, isSh, foldI, mn2, mx2, ↓eget_h, eget_c, eget_n, eput_c, eput_n, putO, ↓hget_h, hget_c, hget_n, hput_c, hput_n, hdel_c, hdel_n, hups, cond_true, cond_false,  ups, St.F, St.app, FSt.ev, dropE_c, dropE_n, inL_c, inL_n, envOf, thenQ, blockQ, D.isBot, D.isAgg, D.cells, D.leaf, scalarEq, eqCells, isB, Option.map, List.map, List.length, List.all, List.append, List.take, List.drop, List.cons_append, List.nil_append, List.append_nil, Option.isSome, List.getElem?_cons_zero, List.getElem?_cons_succ, if_true, if_false, true_and, and_true, Bool.not_true, Bool.not_false, Bool.true_or, Bool.false_or, Bool.or_true, Bool.or_false, Bool.false_eq_true, ↓reduceIte, Nat.reduceAdd, Nat.reduceMul, Nat.reduceEqDiff, Nat.reduceBEq, Nat.reduceSub, Nat.zero_add, Nat.reduceLeDiff, Nat.reduceGT, Nat.reduceLT, Nat.reduceBNe, okLog_f, reduceCtorEq, or_self, or_false, false_or, or_true, true_or, and_self, and_false, false_and, not_true_eq_false, not_false_eq_true, ne_eq, Bool.and_true, Bool.true_and, Bool.and_false, Bool.false_and, decide_eq_true_eq, decide_true, decide_false, Int.reduceBEq, Int.reduceBNe, Int.reduceLT, Int.reduceLE, Int.reduceAdd, Int.reduceSub, Int.reduceMul, Int.reduceNeg, Int.reduceEq, Int.toNat_zero, Int.reduceToNat, Int.zero_lt_one, Nat.zero_le, Int.le_refl, beq_self_eq_true, bne_self_eq_false, cast_lit, fits, wrap_in, Int.toNat_natCast, Int.natCast_nonneg]
    refine aw_ret ?_
    unfold cmpI
    rw [if_neg h1, if_pos h2]
    refine end_to [] [] (by first | exact .inl rfl | exact .inr rfl) rfl (by kernel_rfl) (by kernel_rfl) (by kernel_rfl) ?_ ?_ <;> repeat' (first | exact trivial | exact vr_val _ | exact vr_list _ | exact vr_at _ | exact vr_nil | exact vr_cap0 | exact vr_vec _ _ _ _ rfl | exact vr_own _ _ _ _ _ rfl | exact vr_ptr _ _ _ rfl | exact vr_nilv _ _ _ rfl | exact vr_bot _ | exact vr_cap0v _ _ _ rfl | exact vr_cap0l | apply vr_agg | apply vr_tup | apply vr_fn | refine vr_yld _ _ _ rfl ?_ | exact Ren.bot _ | exact Ren.val _ | exact Ren.list _ | exact Ren.at_ _ | exact Ren.ptr _ _ _ rfl | refine Ren.yld _ _ _ _ _ rfl rfl (RenL.get ?_).2 (fun _ _ _ h => h) | refine vr_fl _ _ _ _ _ (by decide) rfl ?_ ?_ ?_ ?_ | refine And.intro ⟨_, rfl, .inl ⟨_, rfl, by decide, ?_⟩⟩ ?_ | refine And.intro ⟨_, rfl, _, rfl, by decide, ?_⟩ ?_ | refine And.intro ⟨_, rfl, .inr ⟨rfl, rfl, of_decide_eq_true (by kernel_rfl)⟩⟩ ?_ | apply And.intro | exact vrl_flat _ (by first | exact icells_in _ | exact rcells_in _ | exact scells_in _ | exact bcells_in _ | assumption))
  have h2 : ¬ b < a := of_decide_eq_false hc
  refine aw_skip (aw_seq (aw_region ?_))
  simp (config := {maxSteps := 10000000}) (disch := first | exact okYes (by kernel_rfl) | omega) only [ARun_nil, ARun_none, ARun_some, ARun_skip, AOpRun, AGo_f, AGo_ok, AG_tt, AG_ff, AG_tf, AG_ft, AG_un, aexec, run1, asI, elems, base, opt1, fillD, splice, abin, ash, isSh, foldI, mn2, mx2, ↓eget_h, eget_c, eget_n, eput_c, eput_n, putO, ↓hget_h, hget_c, hget_n, hput_c, hput_n, hdel_c, hdel_n, hups, cond_true, cond_false,  ups, St.F, St.app, FSt.ev, dropE_c, dropE_n, inL_c, inL_n, envOf, thenQ, blockQ, D.isBot, D.isAgg, D.cells, D.leaf, scalarEq, eqCells, isB, Option.map, List.map, List.length, List.all, List.append, List.take, List.drop, List.cons_append, List.nil_append, List.append_nil, Option.isSome, List.getElem?_cons_zero, List.getElem?_cons_succ, if_true, if_false, true_and, and_true, Bool.not_true, Bool.not_false, Bool.true_or, Bool.false_or, Bool.or_true, Bool.or_false, Bool.false_eq_true, ↓reduceIte, Nat.reduceAdd, Nat.reduceMul, Nat.reduceEqDiff, Nat.reduceBEq, Nat.reduceSub, Nat.zero_add, Nat.reduceLeDiff, Nat.reduceGT, Nat.reduceLT, Nat.reduceBNe, okLog_f, reduceCtorEq, or_self, or_false, false_or, or_true, true_or, and_self, and_false, false_and, not_true_eq_false, not_false_eq_true, ne_eq, Bool.and_true, Bool.true_and, Bool.and_false, Bool.false_and, decide_eq_true_eq, decide_true, decide_false, Int.reduceBEq, Int.reduceBNe, Int.reduceLT, Int.reduceLE, Int.reduceAdd, Int.reduceSub, Int.reduceMul, Int.reduceNeg, Int.reduceEq, Int.toNat_zero, Int.reduceToNat, Int.zero_lt_one, Nat.zero_le, Int.le_refl, beq_self_eq_true, bne_self_eq_false, cast_lit, fits, wrap_in, Int.toNat_natCast, Int.natCast_nonneg]
  refine aw_ret ?_
  unfold cmpI
  rw [if_neg h1, if_neg h2]
  refine end_to [] [] (by first | exact .inl rfl | exact .inr rfl) rfl (by kernel_rfl) (by kernel_rfl) (by kernel_rfl) ?_ ?_ <;> repeat' (first | exact trivial | exact vr_val _ | exact vr_list _ | exact vr_at _ | exact vr_nil | exact vr_cap0 | exact vr_vec _ _ _ _ rfl | exact vr_own _ _ _ _ _ rfl | exact vr_ptr _ _ _ rfl | exact vr_nilv _ _ _ rfl | exact vr_bot _ | exact vr_cap0v _ _ _ rfl | exact vr_cap0l | apply vr_agg | apply vr_tup | apply vr_fn | refine vr_yld _ _ _ rfl ?_ | exact Ren.bot _ | exact Ren.val _ | exact Ren.list _ | exact Ren.at_ _ | exact Ren.ptr _ _ _ rfl | refine Ren.yld _ _ _ _ _ rfl rfl (RenL.get ?_).2 (fun _ _ _ h => h) | refine vr_fl _ _ _ _ _ (by decide) rfl ?_ ?_ ?_ ?_ | refine And.intro ⟨_, rfl, .inl ⟨_, rfl, by decide, ?_⟩⟩ ?_ | refine And.intro ⟨_, rfl, _, rfl, by decide, ?_⟩ ?_ | refine And.intro ⟨_, rfl, .inr ⟨rfl, rfl, of_decide_eq_true (by kernel_rfl)⟩⟩ ?_ | apply And.intro | exact vrl_flat _ (by first | exact icells_in _ | exact rcells_in _ | exact scells_in _ | exact bcells_in _ | assumption))
end Go.Proofs.Ytfaiogajaaclcaa
