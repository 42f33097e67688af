/- Texts of the law RecordWears, part 11. No conditions. -/
import Derived.Test.YtdcodicoclecnaaPRecordWears10
set_option linter.unusedSimpArgs false
set_option linter.unusedVariables false
/- record: what a case must be, in all. No conditions. -/
namespace Go.Proofs.Ytdcodicoclecnaa
open Go Go.RowKit Lift

instance (l : List Int) (b : Int) : Decidable (Asc l b) := inferInstanceAs (Decidable (∀ i, i < l.length → _))
def AscK (l : List Int) (b : Int) (k : Nat) : Prop := ∀ i, i < k → 0 ≤ l[i]?.getD 0 ∧ l[i]?.getD 0 < b ∧ (0 < i → l[i - 1]?.getD 0 < l[i]?.getD 0)
def lastA (l : List Int) (k : Nat) : Int := if k = 0 then -1 else l[k - 1]?.getD 0
theorem asc_no {l : List Int} {b : Int} {k : Nat} (hk : k < l.length) (hp : AscK l b k) (h : ¬ (lastA l k < l[k]?.getD 0 ∧ l[k]?.getD 0 < b)) : ¬ Asc l b := fun ha => by
  obtain ⟨h1, h2, h3⟩ := ha k hk
  refine h ⟨?_, h2⟩
  unfold lastA
  split
  · omega
  · exact h3 (by omega)
theorem asc_yes {l : List Int} {b : Int} {k : Nat} (hp : AscK l b k) (h1 : lastA l k < l[k]?.getD 0) (h2 : l[k]?.getD 0 < b) : AscK l b (k + 1) := fun i hi => by
  rcases (by omega : i < k ∨ i = k) with h | rfl
  · exact hp i h
  · refine ⟨?_, h2, fun h0 => ?_⟩
    · unfold lastA at h1
      split at h1
      · omega
      · have := (hp (i - 1) (by omega)).1; omega
    · unfold lastA at h1
      rw [if_neg (by omega)] at h1
      exact h1
set_option maxHeartbeats 2000000 in
theorem ascends_ac (l : List Int) (b : Int) (hl : l.length ≤ 1000000) : AC Try.prog 145 [.list (ints l), dI b] [] [] (dB (decide (Asc l b))) := by
  refine krecord_ascends.ac (n0 := 0) (by simp) ⟨.list _, .val _, trivial⟩ trivial rfl ?_
  unfold crecord_ascends
  (repeat' (first | apply aw_seq | ((first | apply aw_skip | apply aw_exit); try simp only [thenQ, blockQ, if_true, if_false, Nat.reduceEqDiff, reduceCtorEq]) | apply aw_ret | apply aw_block | apply aw_condT rfl | apply aw_condF rfl | ((first | refine aw_region ?_ | refine ago_if (by omega) ?_ | skip); simp (disch := first | exact okY | omega) only [ZU, Int.reduceNeg, dB, Nat.reduceMul, dI, AOpRun, aexec, Nat.reduceBEq, Nat.reduceAdd, ↓eget_h, ints_len])))
  refine aw_loop (fun k : Nat => ⟨[(1, dI b), (5, dI (lastA l k)), (8, .list (ints l)), (9, dI l.length), (10, dI k)], [], 400⟩) (fun k => k ≤ l.length ∧ AscK l b k) (fun k => l.length - k) ⟨0, ⟨by omega, fun i hi => by omega⟩, ?_⟩ ?_
  · refine wk_q [] [] ?_ ?_ <;> repeat' (first | exact trivial | exact vr_val _ | exact vr_list _ | apply And.intro)
  rintro k ⟨hk, hp⟩
  by_cases hk2 : k < l.length
  case neg =>
    obtain rfl : k = l.length := by omega
    rw [decide_eq_true (show Asc l b from hp)]
    (have hg : (987654321 : Nat) - 987654321 = 0 := rfl; have hr := hg; repeat' (first | apply aw_seq | ((first | apply aw_skip | apply aw_exit); try simp only [thenQ, blockQ, if_true, if_false, Nat.reduceEqDiff, reduceCtorEq]) | apply aw_ret | apply aw_block | apply aw_condT rfl | apply aw_condF rfl | (refine aw_cond rfl (fun hg => ?_) (fun hg => ?_) <;> (try (have hq := hg; simp only [Bool.not_eq_true', Bool.not_eq_false', Bool.and_eq_true, Bool.and_eq_false_iff, Bool.or_eq_true, Bool.or_eq_false_iff, decide_eq_true_eq, decide_eq_false_iff_not, bne_iff_ne, beq_iff_eq, beq_eq_false_iff_ne, bne_eq_false_iff_eq, ne_eq, Int.not_lt, Int.not_le, Decidable.not_not] at hq)) <;> (try (have hr := hg; simp only [decide_eq_true_eq, decide_eq_false_iff_not] at hr)) <;> (try (exfalso; omega))) | ((first | refine aw_region ?_ | refine ago_if (by omega) ?_ | skip); simp (disch := first | exact okY | omega) only [ZU, dI, Nat.reduceMul, Nat.reduceAdd, AOpRun, aexec, Nat.reduceBEq, ↓eget_h, isSh, ↓reduceIte, abin, hr, decide_false])))
    all_goals (refine end_q [] [] ?_ ?_ <;> repeat' (first | exact trivial | exact vr_val _))
  have g1 := ints_gd l k hk2
  have e1 : lastA l (k + 1) = l[k]?.getD 0 := by unfold lastA; rw [if_neg (by omega)]; rfl
  have hno := asc_no hk2 hp
  have hyes := asc_yes hp
  rw [← e1] at hno hyes g1
  generalize lastA l (k + 1) = x at *
  generalize lastA l k = y at *
  cases q1 : decide (x ≤ y) with
  | true =>
    rw [decide_eq_false (hno fun h => by have := of_decide_eq_true q1; omega)]
    (have hg : (987654321 : Nat) - 987654321 = 0 := rfl; have hr := hg; repeat' (first | apply aw_seq | ((first | apply aw_skip | apply aw_exit); try simp only [thenQ, blockQ, if_true, if_false, Nat.reduceEqDiff, reduceCtorEq]) | apply aw_ret | apply aw_block | apply aw_condT rfl | apply aw_condF rfl | (refine aw_cond rfl (fun hg => ?_) (fun hg => ?_) <;> (try (have hq := hg; simp only [Bool.not_eq_true', Bool.not_eq_false', Bool.and_eq_true, Bool.and_eq_false_iff, Bool.or_eq_true, Bool.or_eq_false_iff, decide_eq_true_eq, decide_eq_false_iff_not, bne_iff_ne, beq_iff_eq, beq_eq_false_iff_ne, bne_eq_false_iff_eq, ne_eq, Int.not_lt, Int.not_le, Decidable.not_not] at hq)) <;> (try (have hr := hg; simp only [decide_eq_true_eq, decide_eq_false_iff_not] at hr)) <;> (try (exfalso; omega))) | ((first | refine aw_region ?_ | refine ago_if (by omega) ?_ | skip); simp (disch := first | exact okY | omega) only [ZU, dI, Nat.reduceMul, Nat.reduceAdd, AOpRun, aexec, Nat.reduceBEq, ↓eget_h, isSh, ↓reduceIte, abin, hr, ints_all, opt1, g1, run1, q1, ARun_some, AG_tf, blockQ])))
    all_goals (refine end_q [] [] ?_ ?_ <;> repeat' (first | exact trivial | exact vr_val _))
  | false =>
    have n1 := of_decide_eq_false q1
    cases q2 : decide (x ≥ b) with
    | true =>
      rw [decide_eq_false (hno fun h => by have := of_decide_eq_true q2; omega)]
      (have hg : (987654321 : Nat) - 987654321 = 0 := rfl; have hr := hg; repeat' (first | apply aw_seq | ((first | apply aw_skip | apply aw_exit); try simp only [thenQ, blockQ, if_true, if_false, Nat.reduceEqDiff, reduceCtorEq]) | apply aw_ret | apply aw_block | apply aw_condT rfl | apply aw_condF rfl | (refine aw_cond rfl (fun hg => ?_) (fun hg => ?_) <;> (try (have hq := hg; simp only [Bool.not_eq_true', Bool.not_eq_false', Bool.and_eq_true, Bool.and_eq_false_iff, Bool.or_eq_true, Bool.or_eq_false_iff, decide_eq_true_eq, decide_eq_false_iff_not, bne_iff_ne, beq_iff_eq, beq_eq_false_iff_ne, bne_eq_false_iff_eq, ne_eq, Int.not_lt, Int.not_le, Decidable.not_not] at hq)) <;> (try (have hr := hg; simp only [decide_eq_true_eq, decide_eq_false_iff_not] at hr)) <;> (try (exfalso; omega))) | ((first | refine aw_region ?_ | refine ago_if (by omega) ?_ | skip); simp (disch := first | exact okY | omega) only [ZU, dI, Nat.reduceMul, Nat.reduceAdd, AOpRun, aexec, Nat.reduceBEq, ↓eget_h, isSh, ↓reduceIte, abin, hr, ints_all, opt1, g1, run1, q1, ARun_some, AG_ff, q2, blockQ])))
      all_goals (refine end_q [] [] ?_ ?_ <;> repeat' (first | exact trivial | exact vr_val _))
    | false =>
      have n2 := of_decide_eq_false q2
      (have hg : (987654321 : Nat) - 987654321 = 0 := rfl; have hr := hg; repeat' (first | apply aw_seq | ((first | apply aw_skip | apply aw_exit); try simp only [thenQ, blockQ, if_true, if_false, Nat.reduceEqDiff, reduceCtorEq]) | apply aw_ret | apply aw_block | apply aw_condT rfl | apply aw_condF rfl | (refine aw_cond rfl (fun hg => ?_) (fun hg => ?_) <;> (try (have hq := hg; simp only [Bool.not_eq_true', Bool.not_eq_false', Bool.and_eq_true, Bool.and_eq_false_iff, Bool.or_eq_true, Bool.or_eq_false_iff, decide_eq_true_eq, decide_eq_false_iff_not, bne_iff_ne, beq_iff_eq, beq_eq_false_iff_ne, bne_eq_false_iff_eq, ne_eq, Int.not_lt, Int.not_le, Decidable.not_not] at hq)) <;> (try (have hr := hg; simp only [decide_eq_true_eq, decide_eq_false_iff_not] at hr)) <;> (try (exfalso; omega))) | ((first | refine aw_region ?_ | refine ago_if (by omega) ?_ | skip); simp (disch := first | exact okY | omega) only [ZU, dI, Nat.reduceMul, Nat.reduceAdd, AOpRun, aexec, Nat.reduceBEq, ↓eget_h, isSh, ↓reduceIte, abin, hr, ints_all, opt1, g1, run1, q1, ARun_some, AG_ff, q2, blockQ, fits])))
      refine ⟨k + 1, ⟨by omega, hyes (by omega) (by omega)⟩, by omega, ?_⟩
      rw [e1]
      refine wk_q [] [] ?_ ?_ <;> repeat' (first | exact trivial | exact vr_val _ | exact vr_list _ | apply And.intro)
def casD (c : Cas) : D := .agg [.list (cls c.cl), .list (sps c.pf)]
theorem in_cas (S : Nat → Prop) (c : Cas) : In S (casD c) := .agg _ (by intro d hd; simp at hd; rcases hd with rfl | rfl <;> exact .list _)
open Classical in
noncomputable def casB (c : Cas) : Bool := decide (CasOk c)
open Classical in
theorem casB_y {c : Cas} (h : CasOk c) : casB c = true := by unfold casB; exact decide_eq_true h
open Classical in
theorem casB_n {c : Cas} (h : ¬ CasOk c) : casB c = false := by unfold casB; exact decide_eq_false h
structure CasIn (c : Cas) : Prop where
  n1 : c.cl.length ≤ maxLen
  n2 : c.pf.length ≤ maxLen
  l1 : ∀ i, (clAt c i).needs.length ≤ 1000000
  l2 : ∀ i, (clAt c i).proofs.length ≤ 1000000
theorem pf_any {c : Cas} : (c.pf.any fun x => !decide (pfOk x)) = true ↔ ¬ ∀ i, i < c.pf.length → pfOk (pfAt c i) := by
  rw [List.any_eq_true]
  constructor
  · rintro ⟨x, hx, h⟩ ha
    obtain ⟨j, hj, rfl⟩ := List.getElem_of_mem hx
    have := ha j hj
    simp only [pfAt, hj, List.getElem?_eq_getElem, Option.getD_some] at this
    simp [this] at h
  · intro h
    by_cases hx : ∃ x ∈ c.pf, ¬ pfOk x
    · obtain ⟨x, h1, h2⟩ := hx; exact ⟨x, h1, by simp [h2]⟩
    · refine absurd (fun i hi => ?_) h
      refine Decidable.byContradiction fun h1 => hx ⟨pfAt c i, ?_, h1⟩
      simp [pfAt, hi]
set_option maxRecDepth 100000 in
set_option maxHeartbeats 4000000 in
theorem cvalid_ac (c : Cas) (hc : CasIn c) : AC Try.prog 118 [casD c] [] [] (dB (casB c)) := by
  refine krecord_valid.ac (n0 := 0) (by simp) ⟨in_cas _ _, trivial⟩ trivial rfl ?_
  unfold crecord_valid casD
  have hmax : maxLen = 9223372036854775807 := rfl
  have m1 := hc.n1
  have m2 := hc.n2
  cases q1 : decide ((c.cl.length : Int) > 16) with
  | true =>
    rw [casB_n fun h => by have := h.n1; have := of_decide_eq_true q1; omega]
    (repeat' (first | apply aw_seq | ((first | apply aw_skip | apply aw_exit); try simp only [thenQ, blockQ, if_true, if_false, Nat.reduceEqDiff, reduceCtorEq]) | apply aw_ret | apply aw_block | apply aw_condT rfl | apply aw_condF rfl | ((first | refine aw_region ?_ | refine ago_if (by omega) ?_ | skip); simp (disch := first | exact okY | omega) only [ZU, dB, Nat.reduceAdd, Nat.reduceMul, AOpRun, aexec, D.isBot, ↓eget_h, or_self, ↓reduceIte, D.cells, Nat.reduceBEq, run1, cls_len, isSh, abin, q1, ARun_some, AG_tf])))
    all_goals (refine end_q [] [] ?_ ?_ <;> repeat' (first | exact trivial | exact vr_val _))
  | false =>
  have n1 := of_decide_eq_false q1
  cases q2 : decide ((c.pf.length : Int) > 12) with
  | true =>
    rw [casB_n fun h => by have := h.n2; have := of_decide_eq_true q2; omega]
    (repeat' (first | apply aw_seq | ((first | apply aw_skip | apply aw_exit); try simp only [thenQ, blockQ, if_true, if_false, Nat.reduceEqDiff, reduceCtorEq]) | apply aw_ret | apply aw_block | apply aw_condT rfl | apply aw_condF rfl | ((first | refine aw_region ?_ | refine ago_if (by omega) ?_ | skip); simp (disch := first | exact okY | omega) only [ZU, dB, Nat.reduceAdd, Nat.reduceMul, AOpRun, aexec, D.isBot, ↓eget_h, or_self, ↓reduceIte, D.cells, Nat.reduceBEq, run1, cls_len, isSh, abin, q1, ARun_some, AG_ff, sps_len, q2])))
    all_goals (refine end_q [] [] ?_ ?_ <;> repeat' (first | exact trivial | exact vr_val _))
  | false =>
  have n2 := of_decide_eq_false q2
  refine aw_seq (aw_region ?_)
  simp (disch := first | exact okY | omega) only [ZU, dB, Nat.reduceAdd, Nat.reduceMul, AOpRun, aexec, D.isBot, ↓eget_h, or_self, ↓reduceIte, D.cells, Nat.reduceBEq]
  refine aw_seq (aw_seq (aw_region ?_))
  simp (disch := first | exact okY | omega) only [ZU, Nat.reduceAdd, Nat.reduceMul, AOpRun, aexec, Nat.reduceBEq, ↓eget_h, run1, cls_len, isSh, ↓reduceIte, abin, q1, ARun_some, AG_ff, sps_len, q2]
  refine aw_condF rfl (aw_skip ?_)
  refine aw_seq (aw_seq (aw_region ?_))
  simp (disch := first | exact okY | omega) only [ZU, Nat.reduceAdd, Nat.reduceMul, AOpRun, aexec, Nat.reduceBEq, ↓eget_h, run1, cls_len]
  refine aw_block ?_
  refine aw_loop (fun k : Nat => ⟨[(1, .ptr 0 0), (16, .list (cls c.cl)), (17, dI c.cl.length), (18, dI k)], [(0, [.list (cls c.cl), .list (sps c.pf)])], 400⟩) (fun k => k ≤ c.cl.length ∧ ∀ i, i < k → Asc (clAt c i).needs i ∧ Asc (clAt c i).proofs c.pf.length) (fun k => c.cl.length - k) ⟨0, ⟨by omega, fun i hi => by omega⟩, ?_⟩ ?_
  · refine wk_q [] [(0, 0)] ?_ ?_ <;> repeat' (first | exact trivial | exact vr_val _ | exact vr_list _ | exact vr_ptr _ _ _ rfl | refine And.intro ⟨_, rfl, .inl ⟨_, rfl, by decide, ?_⟩⟩ ?_ | apply And.intro)
  rintro k ⟨hk, hp⟩
  by_cases hk2 : k < c.cl.length
  case neg =>
    obtain rfl : k = c.cl.length := by omega
    have hf := cfsp_ac 147 (fun x => !decide (pfOk x)) valid1_ac c.pf (by omega)
    have e : casB c = !(c.pf.any fun x => !decide (pfOk x)) := by
      cases h : (c.pf.any fun x => !decide (pfOk x)) with
      | true => exact casB_n fun hh => (pf_any.1 h) hh.pf
      | false => exact casB_y ⟨by omega, by omega, hp, Classical.byContradiction fun hn => by rw [pf_any.2 hn] at h; cases h⟩
    rw [e]
    generalize (c.pf.any fun x => !decide (pfOk x)) = bb at *
    (have hg : (987654321 : Nat) - 987654321 = 0 := rfl; have hr := hg; repeat' (first | apply aw_seq | ((first | apply aw_skip | apply aw_exit); try simp only [thenQ, blockQ, if_true, if_false, Nat.reduceEqDiff, reduceCtorEq]) | apply aw_ret | apply aw_block | apply aw_condT rfl | apply aw_condF rfl | (refine aw_cond rfl (fun hg => ?_) (fun hg => ?_) <;> (try (have hq := hg; simp only [Bool.not_eq_true', Bool.not_eq_false', Bool.and_eq_true, Bool.and_eq_false_iff, Bool.or_eq_true, Bool.or_eq_false_iff, decide_eq_true_eq, decide_eq_false_iff_not, bne_iff_ne, beq_iff_eq, beq_eq_false_iff_ne, bne_eq_false_iff_eq, ne_eq, Int.not_lt, Int.not_le, Decidable.not_not] at hq)) <;> (try (have hr := hg; simp only [decide_eq_true_eq, decide_eq_false_iff_not] at hr)) <;> (try (exfalso; omega))) | ((first | refine aw_region ?_ | refine acall0 (hf) ?_ | refine ago_if (by omega) ?_ | skip); simp (disch := first | exact okY | omega) only [ZU, dI, Nat.reduceMul, Nat.reduceAdd, AOpRun, aexec, Nat.reduceBEq, ↓eget_h, isSh, ↓reduceIte, abin, hr, decide_false, run1, dB])))
    all_goals (refine end_q [] [] ?_ ?_ <;> repeat' (first | exact trivial | exact vr_val _))
  have g1 : (cls c.cl)[k]? = some (clC (clAt c k)) := cls_gd c.cl k hk2
  unfold clC at g1
  have l1 := hc.l1 k
  have l2 := hc.l2 k
  have hyes : Asc (clAt c k).needs k → Asc (clAt c k).proofs c.pf.length → ∀ i, i < k + 1 → Asc (clAt c i).needs i ∧ Asc (clAt c i).proofs c.pf.length := fun h1 h2 i hi => by
    rcases (by omega : i < k ∨ i = k) with h | rfl
    · exact hp i h
    · exact ⟨h1, h2⟩
  have hno : ¬ (Asc (clAt c k).needs k ∧ Asc (clAt c k).proofs c.pf.length) → casB c = false := fun h => casB_n fun hh => h (hh.asc k hk2)
  generalize clAt c k = x at g1 l1 l2 hyes hno
  have a1 := ascends_ac x.needs k l1
  have a2 := ascends_ac x.proofs c.pf.length l2
  by_cases h1 : Asc x.needs k
  case neg =>
    rw [decide_eq_false h1] at a1
    rw [hno fun h => h1 h.1]
    (have hg : (987654321 : Nat) - 987654321 = 0 := rfl; have hr := hg; repeat' (first | apply aw_seq | ((first | apply aw_skip | apply aw_exit); try simp only [thenQ, blockQ, if_true, if_false, Nat.reduceEqDiff, reduceCtorEq]) | apply aw_ret | apply aw_block | apply aw_condT rfl | apply aw_condF rfl | (refine aw_cond rfl (fun hg => ?_) (fun hg => ?_) <;> (try (have hq := hg; simp only [Bool.not_eq_true', Bool.not_eq_false', Bool.and_eq_true, Bool.and_eq_false_iff, Bool.or_eq_true, Bool.or_eq_false_iff, decide_eq_true_eq, decide_eq_false_iff_not, bne_iff_ne, beq_iff_eq, beq_eq_false_iff_ne, bne_eq_false_iff_eq, ne_eq, Int.not_lt, Int.not_le, Decidable.not_not] at hq)) <;> (try (have hr := hg; simp only [decide_eq_true_eq, decide_eq_false_iff_not] at hr)) <;> (try (exfalso; omega))) | ((first | refine aw_region ?_ | refine acall0 (a1) ?_ | refine ago_if (by omega) ?_ | skip); simp (disch := first | exact okY | omega) only [ZU, dI, Nat.reduceMul, Nat.reduceAdd, AOpRun, aexec, Nat.reduceBEq, ↓eget_h, isSh, ↓reduceIte, abin, hr, cls_all, opt1, g1, dB, Nat.reduceLeDiff, List.take, ↓hget_h, D.isBot, D.cells, List.all, D.leaf, splice, List.drop, run1, ARun_some, AG_tf, blockQ])))
    all_goals (refine end_q [] [] ?_ ?_ <;> repeat' (first | exact trivial | exact vr_val _))
  by_cases h2 : Asc x.proofs c.pf.length
  case neg =>
    rw [decide_eq_true h1] at a1
    rw [decide_eq_false h2] at a2
    rw [hno fun h => h2 h.2]
    (have hg : (987654321 : Nat) - 987654321 = 0 := rfl; have hr := hg; repeat' (first | apply aw_seq | ((first | apply aw_skip | apply aw_exit); try simp only [thenQ, blockQ, if_true, if_false, Nat.reduceEqDiff, reduceCtorEq]) | apply aw_ret | apply aw_block | apply aw_condT rfl | apply aw_condF rfl | (refine aw_cond rfl (fun hg => ?_) (fun hg => ?_) <;> (try (have hq := hg; simp only [Bool.not_eq_true', Bool.not_eq_false', Bool.and_eq_true, Bool.and_eq_false_iff, Bool.or_eq_true, Bool.or_eq_false_iff, decide_eq_true_eq, decide_eq_false_iff_not, bne_iff_ne, beq_iff_eq, beq_eq_false_iff_ne, bne_eq_false_iff_eq, ne_eq, Int.not_lt, Int.not_le, Decidable.not_not] at hq)) <;> (try (have hr := hg; simp only [decide_eq_true_eq, decide_eq_false_iff_not] at hr)) <;> (try (exfalso; omega))) | ((first | refine aw_region ?_ | refine acall0 (a1) ?_ | refine acall0 (a2) ?_ | refine ago_if (by omega) ?_ | skip); simp (disch := first | exact okY | omega) only [ZU, dI, Nat.reduceMul, Nat.reduceAdd, AOpRun, aexec, Nat.reduceBEq, ↓eget_h, isSh, ↓reduceIte, abin, hr, cls_all, opt1, g1, dB, Nat.reduceLeDiff, List.take, ↓hget_h, D.isBot, D.cells, List.all, D.leaf, splice, List.drop, run1, ARun_some, AG_ff, sps_len, blockQ])))
    all_goals (refine end_q [] [] ?_ ?_ <;> repeat' (first | exact trivial | exact vr_val _))
  rw [decide_eq_true h1] at a1
  rw [decide_eq_true h2] at a2
  (have hg : (987654321 : Nat) - 987654321 = 0 := rfl; have hr := hg; repeat' (first | apply aw_seq | ((first | apply aw_skip | apply aw_exit); try simp only [thenQ, blockQ, if_true, if_false, Nat.reduceEqDiff, reduceCtorEq]) | apply aw_ret | apply aw_block | apply aw_condT rfl | apply aw_condF rfl | (refine aw_cond rfl (fun hg => ?_) (fun hg => ?_) <;> (try (have hq := hg; simp only [Bool.not_eq_true', Bool.not_eq_false', Bool.and_eq_true, Bool.and_eq_false_iff, Bool.or_eq_true, Bool.or_eq_false_iff, decide_eq_true_eq, decide_eq_false_iff_not, bne_iff_ne, beq_iff_eq, beq_eq_false_iff_ne, bne_eq_false_iff_eq, ne_eq, Int.not_lt, Int.not_le, Decidable.not_not] at hq)) <;> (try (have hr := hg; simp only [decide_eq_true_eq, decide_eq_false_iff_not] at hr)) <;> (try (exfalso; omega))) | ((first | refine aw_region ?_ | refine acall0 (a1) ?_ | refine acall0 (a2) ?_ | refine ago_if (by omega) ?_ | skip); simp (disch := first | exact okY | omega) only [ZU, dI, Nat.reduceMul, Nat.reduceAdd, AOpRun, aexec, Nat.reduceBEq, ↓eget_h, isSh, ↓reduceIte, abin, hr, cls_all, opt1, g1, dB, Nat.reduceLeDiff, List.take, ↓hget_h, D.isBot, D.cells, List.all, D.leaf, splice, List.drop, run1, ARun_some, AG_ff, sps_len, fits])))
  refine ⟨k + 1, ⟨by omega, hyes h1 h2⟩, by omega, ?_⟩
  refine wk_q [] [(0, 0)] ?_ ?_ <;> repeat' (first | exact trivial | exact vr_val _ | exact vr_list _ | exact vr_ptr _ _ _ rfl | refine And.intro ⟨_, rfl, .inl ⟨_, rfl, by decide, ?_⟩⟩ ?_ | apply And.intro)
theorem casE_B (c : Cas) (E : Int) : casE c E = if casB c = true then 0 else E := by
  by_cases h : CasOk c
  · rw [casE_ok h, casB_y h, if_pos rfl]
  · rw [casE_no h, casB_n h, if_neg (by simp)]
set_option maxRecDepth 100000 in
set_option maxHeartbeats 4000000 in
theorem ccheck_ac (c : Cas) (hc : CasIn c) (claim tick : Int) : AC Try.prog 82 [casD c, dI claim, dI tick] [] [] (dI (clmE c claim tick 122 1)) := by
  refine krecord_check.ac (n0 := 0) (by simp) ⟨in_cas _ _, .val _, .val _, trivial⟩ trivial rfl ?_
  have cv := cvalid_ac c hc
  unfold crecord_check clmE
  rw [casE_B]
  have hmax : maxLen = 9223372036854775807 := rfl
  have m1 := hc.n1
  unfold casD at *
  cases hb : casB c with
  | false =>
    rw [hb] at cv
    simp only [Bool.false_eq_true, if_false, ne_eq, reduceCtorEq, not_false_eq_true, if_true]
    (repeat' (first | apply aw_seq | ((first | apply aw_skip | apply aw_exit); try simp only [thenQ, blockQ, if_true, if_false, Nat.reduceEqDiff, reduceCtorEq]) | apply aw_ret | apply aw_block | apply aw_condT rfl | apply aw_condF rfl | ((first | refine aw_region ?_ | refine acall0 (cv) ?_ | refine ago_if (by omega) ?_ | skip); simp (disch := first | exact okY | omega) only [ZU, dI, Int.reduceEq, not_false_eq_true, ↓reduceIte, Nat.reduceAdd, Nat.reduceMul, AOpRun, aexec, D.isBot, ↓eget_h, or_self, D.cells, Nat.reduceBEq, Nat.reduceLeDiff, List.drop, List.take, dB, blockQ])))
    all_goals (refine end_q [] [] ?_ ?_ <;> repeat' (first | exact trivial | exact vr_val _))
  | true =>
    rw [hb] at cv
    simp only [if_true, ne_eq, not_true_eq_false, if_false]
    have w1 := within_ac claim 0 ((c.cl.length : Int) - 1)
    have w2 := within_ac tick 0 2000
    cases h1 : wI claim 0 ((c.cl.length : Int) - 1) with
    | false =>
      rw [h1] at w1
      rw [if_neg fun h => by have := wI_f h1; omega]
      (repeat' (first | apply aw_seq | ((first | apply aw_skip | apply aw_exit); try simp only [thenQ, blockQ, if_true, if_false, Nat.reduceEqDiff, reduceCtorEq]) | apply aw_ret | apply aw_block | apply aw_condT rfl | apply aw_condF rfl | ((first | refine aw_region ?_ | refine acall0 (cv) ?_ | refine acall0 (w1) ?_ | refine ago_if (by omega) ?_ | skip); simp (disch := first | exact okY | omega) only [ZU, dI, Nat.reduceAdd, Nat.reduceMul, AOpRun, aexec, D.isBot, ↓eget_h, or_self, ↓reduceIte, D.cells, Nat.reduceBEq, Nat.reduceLeDiff, List.drop, List.take, dB, run1, cls_len, isSh, abin, fits, blockQ])))
      all_goals (refine end_q [] [] ?_ ?_ <;> repeat' (first | exact trivial | exact vr_val _))
    | true =>
      rw [h1] at w1
      cases h2 : wI tick 0 2000 with
      | false =>
        rw [h2] at w2
        rw [if_neg fun h => by have := wI_f h2; omega]
        (repeat' (first | apply aw_seq | ((first | apply aw_skip | apply aw_exit); try simp only [thenQ, blockQ, if_true, if_false, Nat.reduceEqDiff, reduceCtorEq]) | apply aw_ret | apply aw_block | apply aw_condT rfl | apply aw_condF rfl | ((first | refine aw_region ?_ | refine acall0 (cv) ?_ | refine acall0 (w1) ?_ | refine acall0 (w2) ?_ | refine ago_if (by omega) ?_ | skip); simp (disch := first | exact okY | omega) only [ZU, dI, Nat.reduceAdd, Nat.reduceMul, AOpRun, aexec, D.isBot, ↓eget_h, or_self, ↓reduceIte, D.cells, Nat.reduceBEq, Nat.reduceLeDiff, List.drop, List.take, dB, run1, cls_len, isSh, abin, fits, blockQ])))
        all_goals (refine end_q [] [] ?_ ?_ <;> repeat' (first | exact trivial | exact vr_val _))
      | true =>
        rw [h2] at w2
        rw [if_pos (by have := wI_t h1; have := wI_t h2; omega)]
        (repeat' (first | apply aw_seq | ((first | apply aw_skip | apply aw_exit); try simp only [thenQ, blockQ, if_true, if_false, Nat.reduceEqDiff, reduceCtorEq]) | apply aw_ret | apply aw_block | apply aw_condT rfl | apply aw_condF rfl | ((first | refine aw_region ?_ | refine acall0 (cv) ?_ | refine acall0 (w1) ?_ | refine acall0 (w2) ?_ | refine ago_if (by omega) ?_ | skip); simp (disch := first | exact okY | omega) only [ZU, dI, Nat.reduceAdd, Nat.reduceMul, AOpRun, aexec, D.isBot, ↓eget_h, or_self, ↓reduceIte, D.cells, Nat.reduceBEq, Nat.reduceLeDiff, List.drop, List.take, dB, run1, cls_len, isSh, abin, fits])))
        all_goals (refine end_q [] [] ?_ ?_ <;> repeat' (first | exact trivial | exact vr_val _))
end Go.Proofs.Ytdcodicoclecnaa
/- record: sets of proofs as bits; which count in a tick. No conditions. -/
namespace Go.Proofs.Ytdcodicoclecnaa
open Go Go.RowKit Lift

def bitsN (cn : Nat → Bool) : Nat → Nat
  | 0 => 0
  | i + 1 => if cn i = true then bitsN cn i ||| 2 ^ i else bitsN cn i
theorem bitsN_lt (cn : Nat → Bool) : ∀ n, bitsN cn n < 2 ^ n
  | 0 => by simp [bitsN]
  | n + 1 => by
    have ih := bitsN_lt cn n
    have h2 : 2 ^ n < 2 ^ (n + 1) := Nat.pow_lt_pow_right (by omega) (by omega)
    unfold bitsN
    split
    · exact Nat.or_lt_two_pow (by omega) h2
    · omega
theorem bitsN_test (cn : Nat → Bool) (j : Nat) : ∀ n, (bitsN cn n).testBit j = (decide (j < n) && cn j)
  | 0 => by simp [bitsN]
  | n + 1 => by
    have ih := bitsN_test cn j n
    unfold bitsN
    split
    · rename_i h
      rw [Nat.testBit_or, ih, Nat.testBit_two_pow]
      by_cases h1 : n = j
      · subst h1; simp [h]
      · rcases Nat.lt_or_ge j n with h2 | h2
        · simp [h1, h2, show j < n + 1 by omega]
        · simp [h1, show ¬ j < n by omega, show ¬ j < n + 1 by omega]
    · rename_i h
      rw [ih]
      by_cases h1 : n = j
      · subst h1; simp at h; simp [h]
      · rcases Nat.lt_or_ge j n with h2 | h2
        · simp [h2, show j < n + 1 by omega]
        · simp [show ¬ j < n by omega, show ¬ j < n + 1 by omega]
theorem bits_small {n k : Nat} (cn : Nat → Bool) (h : n ≤ 12) (hk : k ≤ n) : bitsN cn k < 4096 := by
  have h1 := bitsN_lt cn k
  have h2 : 2 ^ k ≤ 2 ^ 12 := Nat.pow_le_pow_right (by omega) (by omega)
  omega
set_option maxRecDepth 100000 in
set_option maxHeartbeats 1000000 in
theorem phas_ac (p i : Nat) (hp : p < 4096) (hi : i < 60) : AC Try.prog 89 [dI p, dI i] [] [] (dB (p.testBit i)) := by
  refine krecord_proofs_has.ac (n0 := 0) (by simp) ⟨.val _, .val _, trivial⟩ trivial rfl ?_
  unfold crecord_proofs_has
  have e0 : IntKind.i64.bits = 64 := rfl
  have e1 : min i IntKind.i64.bits = i := by rw [e0]; omega
  have hd : p / 2 ^ i ≤ p := Nat.div_le_self _ _
  have a1 : Int.fdiv (p : Int) (2 ^ i) = ((p / 2 ^ i : Nat) : Int) := fdiv_pow _ _
  have a2 : IntKind.i64.wrap ((BitVec.ofInt IntKind.i64.bits ((p / 2 ^ i : Nat) : Int) &&& BitVec.ofInt IntKind.i64.bits 1).toNat) = ((p / 2 ^ i &&& 1 : Nat) : Int) := and_nat _ 1 (by omega) (by omega)
  have a3 : (((p / 2 ^ i &&& 1 : Nat) : Int) == 1) = p.testBit i := by
    rw [Nat.and_one_is_mod, Nat.testBit_eq_decide_div_mod_eq]
    cases h : decide (p / 2 ^ i % 2 = 1) with
    | true => have := of_decide_eq_true h; simp only [beq_iff_eq]; omega
    | false => have := of_decide_eq_false h; simp only [beq_eq_false_iff_ne]; omega
  (repeat' (first | apply aw_seq | ((first | apply aw_skip | apply aw_exit); try simp only [thenQ, blockQ, if_true, if_false, Nat.reduceEqDiff, reduceCtorEq]) | apply aw_ret | apply aw_block | apply aw_condT rfl | apply aw_condF rfl | ((first | refine aw_region ?_ | refine ago_if (by omega) ?_ | skip); simp (disch := first | exact okY | omega) only [ZU, dB, Nat.reduceMul, dI, AOpRun, aexec, Nat.reduceBEq, Nat.reduceAdd, ↓eget_h, isSh, ↓reduceIte, ash, e1, a1, abin, a2, a3])))
  all_goals (refine end_q [] [] ?_ ?_ <;> repeat' (first | exact trivial | exact vr_val _))
set_option maxRecDepth 100000 in
set_option maxHeartbeats 1000000 in
theorem pwith_ac (p i : Nat) (hp : p < 4096) (hi : i < 12) : AC Try.prog 90 [dI p, dI i] [] [] (dI ((p ||| 2 ^ i : Nat) : Int)) := by
  refine krecord_proofs_with.ac (n0 := 0) (by simp) ⟨.val _, .val _, trivial⟩ trivial rfl ?_
  unfold crecord_proofs_with
  have e0 : IntKind.i64.bits = 64 := rfl
  have e1 : min i IntKind.i64.bits = i := by rw [e0]; omega
  have h2 : 2 ^ i < 2 ^ 12 := Nat.pow_lt_pow_right (by omega) hi
  have a1 : IntKind.i64.wrap (1 * 2 ^ i) = ((2 ^ i : Nat) : Int) := by
    rw [Int.one_mul, show (2 : Int) ^ i = ((2 ^ i : Nat) : Int) by simp]
    generalize 2 ^ i = z at h2 ⊢
    exact wrap_in (by omega) (by omega)
  have a2 := or_nat p (2 ^ i) (by omega) (by omega)
  (repeat' (first | apply aw_seq | ((first | apply aw_skip | apply aw_exit); try simp only [thenQ, blockQ, if_true, if_false, Nat.reduceEqDiff, reduceCtorEq]) | apply aw_ret | apply aw_block | apply aw_condT rfl | apply aw_condF rfl | ((first | refine aw_region ?_ | refine ago_if (by omega) ?_ | skip); simp (disch := first | exact okY | omega) only [ZU, dI, Nat.reduceMul, AOpRun, aexec, Nat.reduceBEq, Nat.reduceAdd, ↓eget_h, isSh, ↓reduceIte, ash, e1, a1, abin, a2])))
  all_goals (refine end_q [] [] ?_ ?_ <;> repeat' (first | exact trivial | exact vr_val _))
theorem cnt_at {c : Cas} {tick : Int} {i : Nat} (h : i < c.pf.length) : cntT c tick i = wI tick (pfAt c i).1 (pfAt c i).2 := by unfold cntT wI; rw [decide_eq_true h, Bool.true_and]
def cntN (c : Cas) (tick : Int) : Nat := bitsN (cntT c tick) c.pf.length
theorem cntN_test (c : Cas) (tick : Int) (j : Nat) : (cntN c tick).testBit j = cntT c tick j := by
  unfold cntN
  rw [bitsN_test]
  cases h : decide (j < c.pf.length) with
  | true => rfl
  | false => unfold cntT; rw [h]; rfl
set_option maxRecDepth 100000 in
set_option maxHeartbeats 2000000 in
theorem counting_ac (c : Cas) (h12 : c.pf.length ≤ 12) (tick : Int) : AC Try.prog 84 [casD c, dI tick] [] [] (dI ((cntN c tick : Nat) : Int)) := by
  refine krecord_counting.ac (n0 := 0) (by simp) ⟨in_cas _ _, .val _, trivial⟩ trivial rfl ?_
  unfold crecord_counting casD
  (repeat' (first | apply aw_seq | ((first | apply aw_skip | apply aw_exit); try simp only [thenQ, blockQ, if_true, if_false, Nat.reduceEqDiff, reduceCtorEq]) | apply aw_ret | apply aw_block | apply aw_condT rfl | apply aw_condF rfl | ((first | refine aw_region ?_ | refine ago_if (by omega) ?_ | skip); simp (disch := first | exact okY | omega) only [ZU, dI, Nat.reduceAdd, Nat.reduceMul, AOpRun, aexec, D.isBot, ↓eget_h, or_self, ↓reduceIte, D.cells, Nat.reduceBEq, run1, sps_len])))
  refine aw_loop (fun k : Nat => ⟨[(1, dI tick), (2, .ptr 0 0), (4, dI ((bitsN (cntT c tick) k : Nat) : Int)), (8, .list (sps c.pf)), (9, dI c.pf.length), (10, dI k)], [(0, [.list (cls c.cl), .list (sps c.pf)])], 400⟩) (fun k => k ≤ c.pf.length) (fun k => c.pf.length - k) ⟨0, by omega, ?_⟩ ?_
  · refine wk_q [] [(0, 0)] ?_ ?_ <;> repeat' (first | exact trivial | exact vr_val _ | exact vr_list _ | exact vr_ptr _ _ _ rfl | refine And.intro ⟨_, rfl, .inl ⟨_, rfl, by decide, ?_⟩⟩ ?_ | apply And.intro)
  intro k hk
  by_cases hk2 : k < c.pf.length
  case neg =>
    obtain rfl : k = c.pf.length := by omega
    show AWb _ _ _ _ _ _ _
    unfold cntN
    (have hg : (987654321 : Nat) - 987654321 = 0 := rfl; have hr := hg; repeat' (first | apply aw_seq | ((first | apply aw_skip | apply aw_exit); try simp only [thenQ, blockQ, if_true, if_false, Nat.reduceEqDiff, reduceCtorEq]) | apply aw_ret | apply aw_block | apply aw_condT rfl | apply aw_condF rfl | (refine aw_cond rfl (fun hg => ?_) (fun hg => ?_) <;> (try (have hq := hg; simp only [Bool.not_eq_true', Bool.not_eq_false', Bool.and_eq_true, Bool.and_eq_false_iff, Bool.or_eq_true, Bool.or_eq_false_iff, decide_eq_true_eq, decide_eq_false_iff_not, bne_iff_ne, beq_iff_eq, beq_eq_false_iff_ne, bne_eq_false_iff_eq, ne_eq, Int.not_lt, Int.not_le, Decidable.not_not] at hq)) <;> (try (have hr := hg; simp only [decide_eq_true_eq, decide_eq_false_iff_not] at hr)) <;> (try (exfalso; omega))) | ((first | refine aw_region ?_ | refine ago_if (by omega) ?_ | skip); simp (disch := first | exact okY | omega) only [ZU, dI, Nat.reduceMul, Nat.reduceAdd, AOpRun, aexec, Nat.reduceBEq, ↓eget_h, isSh, ↓reduceIte, abin, hr, decide_false])))
    all_goals (refine end_q [] [] ?_ ?_ <;> repeat' (first | exact trivial | exact vr_val _))
  have g1 : (sps c.pf)[k]? = some [dI (pfAt c k).1, dI (pfAt c k).2] := sp_at c.pf k hk2
  have w := within_ac tick (pfAt c k).1 (pfAt c k).2
  have hs := bits_small (cntT c tick) h12 hk
  have hc := cnt_at (tick := tick) hk2
  have hb : bitsN (cntT c tick) (k + 1) = if cntT c tick k = true then bitsN (cntT c tick) k ||| 2 ^ k else bitsN (cntT c tick) k := rfl
  have cw := pwith_ac (bitsN (cntT c tick) k) k hs (by omega)
  cases h : cntT c tick k with
  | true =>
    rw [h, if_pos rfl] at hb
    rw [← hc, h] at w
    (have hg : (987654321 : Nat) - 987654321 = 0 := rfl; have hr := hg; repeat' (first | apply aw_seq | ((first | apply aw_skip | apply aw_exit); try simp only [thenQ, blockQ, if_true, if_false, Nat.reduceEqDiff, reduceCtorEq]) | apply aw_ret | apply aw_block | apply aw_condT rfl | apply aw_condF rfl | (refine aw_cond rfl (fun hg => ?_) (fun hg => ?_) <;> (try (have hq := hg; simp only [Bool.not_eq_true', Bool.not_eq_false', Bool.and_eq_true, Bool.and_eq_false_iff, Bool.or_eq_true, Bool.or_eq_false_iff, decide_eq_true_eq, decide_eq_false_iff_not, bne_iff_ne, beq_iff_eq, beq_eq_false_iff_ne, bne_eq_false_iff_eq, ne_eq, Int.not_lt, Int.not_le, Decidable.not_not] at hq)) <;> (try (have hr := hg; simp only [decide_eq_true_eq, decide_eq_false_iff_not] at hr)) <;> (try (exfalso; omega))) | ((first | refine aw_region ?_ | refine acall0 (w) ?_ | refine acall0 (cw) ?_ | refine ago_if (by omega) ?_ | skip); simp (disch := first | exact okY | omega) only [ZU, dI, Nat.reduceMul, Nat.reduceAdd, AOpRun, aexec, Nat.reduceBEq, ↓eget_h, isSh, ↓reduceIte, abin, hr, sps_all, opt1, g1, Nat.reduceLeDiff, List.take, ↓hget_h, D.isBot, D.cells, List.all, D.leaf, splice, List.drop, run1, dB, blockQ, fits])))
    refine ⟨k + 1, by omega, by omega, ?_⟩
    rw [hb]
    refine wk_q [] [(0, 0)] ?_ ?_ <;> repeat' (first | exact trivial | exact vr_val _ | exact vr_list _ | exact vr_ptr _ _ _ rfl | refine And.intro ⟨_, rfl, .inl ⟨_, rfl, by decide, ?_⟩⟩ ?_ | apply And.intro)
  | false =>
    rw [h, if_neg (by simp)] at hb
    rw [← hc, h] at w
    (have hg : (987654321 : Nat) - 987654321 = 0 := rfl; have hr := hg; repeat' (first | apply aw_seq | ((first | apply aw_skip | apply aw_exit); try simp only [thenQ, blockQ, if_true, if_false, Nat.reduceEqDiff, reduceCtorEq]) | apply aw_ret | apply aw_block | apply aw_condT rfl | apply aw_condF rfl | (refine aw_cond rfl (fun hg => ?_) (fun hg => ?_) <;> (try (have hq := hg; simp only [Bool.not_eq_true', Bool.not_eq_false', Bool.and_eq_true, Bool.and_eq_false_iff, Bool.or_eq_true, Bool.or_eq_false_iff, decide_eq_true_eq, decide_eq_false_iff_not, bne_iff_ne, beq_iff_eq, beq_eq_false_iff_ne, bne_eq_false_iff_eq, ne_eq, Int.not_lt, Int.not_le, Decidable.not_not] at hq)) <;> (try (have hr := hg; simp only [decide_eq_true_eq, decide_eq_false_iff_not] at hr)) <;> (try (exfalso; omega))) | ((first | refine aw_region ?_ | refine acall0 (w) ?_ | refine ago_if (by omega) ?_ | skip); simp (disch := first | exact okY | omega) only [ZU, dI, Nat.reduceMul, Nat.reduceAdd, AOpRun, aexec, Nat.reduceBEq, ↓eget_h, isSh, ↓reduceIte, abin, hr, sps_all, opt1, g1, Nat.reduceLeDiff, List.take, ↓hget_h, D.isBot, D.cells, List.all, D.leaf, splice, List.drop, run1, dB, fits])))
    refine ⟨k + 1, by omega, by omega, ?_⟩
    rw [hb]
    refine wk_q [] [(0, 0)] ?_ ?_ <;> repeat' (first | exact trivial | exact vr_val _ | exact vr_list _ | exact vr_ptr _ _ _ rfl | refine And.intro ⟨_, rfl, .inl ⟨_, rfl, by decide, ?_⟩⟩ ?_ | apply And.intro)
end Go.Proofs.Ytdcodicoclecnaa
/- record: choosing truth values. No conditions. -/
namespace Go.Proofs.Ytdcodicoclecnaa
open Go Go.RowKit Lift

set_option maxRecDepth 100000 in
set_option maxHeartbeats 1000000 in
theorem ibool_ac (l : List Bool) (b : Bool) (hl : l.length ≤ 1000000) : AC Try.prog 149 [.list (bools l), dB b] [] [] (dI (match l.findIdx? (fun x => x == b) with
    | some k => (k : Int)
    | none => -1)) := by
  refine kslices_Index_L_L_Jbool_Kbool_J.ac (n0 := 0) (by simp) ⟨.list _, .val _, trivial⟩ trivial rfl ?_
  unfold cslices_Index_L_L_Jbool_Kbool_J
  (repeat' (first | apply aw_seq | ((first | apply aw_skip | apply aw_exit); try simp only [thenQ, blockQ, if_true, if_false, Nat.reduceEqDiff, reduceCtorEq]) | apply aw_ret | apply aw_block | apply aw_condT rfl | apply aw_condF rfl | ((first | refine aw_region ?_ | refine ago_if (by omega) ?_ | skip); simp (disch := first | exact okY | omega) only [ZU, Int.reduceNeg, dI, Nat.reduceMul, dB, AOpRun, aexec, Nat.reduceBEq, Nat.reduceAdd, ↓eget_h, bools_len])))
  refine aw_loop (fun k : Nat => ⟨[(0, .list (bools l)), (1, dB b), (7, dI l.length), (8, dI k)], [], 400⟩) (fun k => k ≤ l.length ∧ ∀ j, j < k → (l[j]?.getD false == b) = false) (fun k => l.length - k) ⟨0, ⟨by omega, fun j hj => by omega⟩, ?_⟩ ?_
  · refine wk_q [] [] ?_ ?_ <;> repeat' (first | exact trivial | exact vr_val _ | exact vr_list _ | apply And.intro)
  rintro k ⟨hk, hin⟩
  by_cases hk2 : k < l.length
  · have g1 := bools_gd l k hk2
    unfold dB at g1
    cases he : (l[k]?.getD false == b) with
    | true =>
      have q : l.findIdx? (fun x => x == b) = some k := by
        rw [List.findIdx?_eq_some_iff_getElem]
        refine ⟨hk2, by have := he; simp only [hk2, List.getElem?_eq_getElem, Option.getD_some] at this; exact this, fun j hj => ?_⟩
        have := hin j hj
        simp only [show j < l.length by omega, List.getElem?_eq_getElem, Option.getD_some] at this
        simp [this]
      have he2 : (b == l[k]?.getD false) = true := by rw [beq_iff_eq] at he ⊢; exact he.symm
      rw [q]
      generalize l[k]?.getD false = v at *
      (have hg : (987654321 : Nat) - 987654321 = 0 := rfl; have hr := hg; repeat' (first | apply aw_seq | ((first | apply aw_skip | apply aw_exit); try simp only [thenQ, blockQ, if_true, if_false, Nat.reduceEqDiff, reduceCtorEq]) | apply aw_ret | apply aw_block | apply aw_condT rfl | apply aw_condF rfl | (refine aw_cond rfl (fun hg => ?_) (fun hg => ?_) <;> (try (have hq := hg; simp only [Bool.not_eq_true', Bool.not_eq_false', Bool.and_eq_true, Bool.and_eq_false_iff, Bool.or_eq_true, Bool.or_eq_false_iff, decide_eq_true_eq, decide_eq_false_iff_not, bne_iff_ne, beq_iff_eq, beq_eq_false_iff_ne, bne_eq_false_iff_eq, ne_eq, Int.not_lt, Int.not_le, Decidable.not_not] at hq)) <;> (try (have hr := hg; simp only [decide_eq_true_eq, decide_eq_false_iff_not] at hr)) <;> (try (exfalso; omega))) | ((first | refine aw_region ?_ | refine ago_if (by omega) ?_ | skip); simp (disch := first | exact okY | omega) only [ZU, dB, dI, Int.reduceNeg, Nat.reduceMul, Nat.reduceAdd, AOpRun, aexec, Nat.reduceBEq, ↓eget_h, isSh, ↓reduceIte, abin, hr, bools_all, opt1, g1, run1, he2, blockQ])))
      all_goals (refine end_q [] [] ?_ ?_ <;> repeat' (first | exact trivial | exact vr_val _))
    | false =>
      have he2 : (b == l[k]?.getD false) = false := by rw [beq_eq_false_iff_ne] at he ⊢; exact fun h => he h.symm
      generalize hv : l[k]?.getD false = v at *
      (have hg : (987654321 : Nat) - 987654321 = 0 := rfl; have hr := hg; repeat' (first | apply aw_seq | ((first | apply aw_skip | apply aw_exit); try simp only [thenQ, blockQ, if_true, if_false, Nat.reduceEqDiff, reduceCtorEq]) | apply aw_ret | apply aw_block | apply aw_condT rfl | apply aw_condF rfl | (refine aw_cond rfl (fun hg => ?_) (fun hg => ?_) <;> (try (have hq := hg; simp only [Bool.not_eq_true', Bool.not_eq_false', Bool.and_eq_true, Bool.and_eq_false_iff, Bool.or_eq_true, Bool.or_eq_false_iff, decide_eq_true_eq, decide_eq_false_iff_not, bne_iff_ne, beq_iff_eq, beq_eq_false_iff_ne, bne_eq_false_iff_eq, ne_eq, Int.not_lt, Int.not_le, Decidable.not_not] at hq)) <;> (try (have hr := hg; simp only [decide_eq_true_eq, decide_eq_false_iff_not] at hr)) <;> (try (exfalso; omega))) | ((first | refine aw_region ?_ | refine ago_if (by omega) ?_ | skip); simp (disch := first | exact okY | omega) only [ZU, dB, dI, Int.reduceNeg, Nat.reduceMul, Nat.reduceAdd, AOpRun, aexec, Nat.reduceBEq, ↓eget_h, isSh, ↓reduceIte, abin, hr, bools_all, opt1, g1, run1, he2, bne_self_eq_false, fits])))
      refine ⟨k + 1, ⟨by omega, fun j hj => ?_⟩, by omega, by refine wk_q [] [] ?_ ?_ <;> repeat' (first | exact trivial | exact vr_val _ | exact vr_list _ | apply And.intro)⟩
      rcases (by omega : j < k ∨ j = k) with h | rfl
      · exact hin j h
      · rw [hv]; exact he
  · obtain rfl : k = l.length := by omega
    have q : l.findIdx? (fun x => x == b) = none := by
      rw [List.findIdx?_eq_none_iff]
      intro y hy
      obtain ⟨j, hj, rfl⟩ := List.getElem_of_mem hy
      have := hin j hj
      simp only [hj, List.getElem?_eq_getElem, Option.getD_some] at this
      exact this
    rw [q]
    (have hg : (987654321 : Nat) - 987654321 = 0 := rfl; have hr := hg; repeat' (first | apply aw_seq | ((first | apply aw_skip | apply aw_exit); try simp only [thenQ, blockQ, if_true, if_false, Nat.reduceEqDiff, reduceCtorEq]) | apply aw_ret | apply aw_block | apply aw_condT rfl | apply aw_condF rfl | (refine aw_cond rfl (fun hg => ?_) (fun hg => ?_) <;> (try (have hq := hg; simp only [Bool.not_eq_true', Bool.not_eq_false', Bool.and_eq_true, Bool.and_eq_false_iff, Bool.or_eq_true, Bool.or_eq_false_iff, decide_eq_true_eq, decide_eq_false_iff_not, bne_iff_ne, beq_iff_eq, beq_eq_false_iff_ne, bne_eq_false_iff_eq, ne_eq, Int.not_lt, Int.not_le, Decidable.not_not] at hq)) <;> (try (have hr := hg; simp only [decide_eq_true_eq, decide_eq_false_iff_not] at hr)) <;> (try (exfalso; omega))) | ((first | refine aw_region ?_ | refine ago_if (by omega) ?_ | skip); simp (disch := first | exact okY | omega) only [ZU, dB, dI, Int.reduceNeg, Nat.reduceMul, Nat.reduceAdd, AOpRun, aexec, Nat.reduceBEq, ↓eget_h, isSh, ↓reduceIte, abin, hr, decide_false])))
    all_goals (refine end_q [] [] ?_ ?_ <;> repeat' (first | exact trivial | exact vr_val _))
set_option maxRecDepth 100000 in
set_option maxHeartbeats 1000000 in
theorem cbool_ac (l : List Bool) (b : Bool) (hl : l.length ≤ 1000000) : AC Try.prog 121 [.list (bools l), dB b] [] [] (dB (l.any fun x => x == b)) := by
  refine kslices_Contains_L_L_Jbool_Kbool_J.ac (n0 := 0) (by simp) ⟨.list _, .val _, trivial⟩ trivial rfl ?_
  unfold cslices_Contains_L_L_Jbool_Kbool_J
  have hf := ibool_ac l b hl
  cases h : l.findIdx? (fun x => x == b) with
  | none =>
    have ha : l.any (fun x => x == b) = false := by
      rw [List.findIdx?_eq_none_iff] at h
      exact List.any_eq_false.2 fun x hx => by simp [h x hx]
    rw [h] at hf
    rw [ha]
    (repeat' (first | apply aw_seq | ((first | apply aw_skip | apply aw_exit); try simp only [thenQ, blockQ, if_true, if_false, Nat.reduceEqDiff, reduceCtorEq]) | apply aw_ret | apply aw_block | apply aw_condT rfl | apply aw_condF rfl | ((first | refine aw_region ?_ | refine acall0 (hf) ?_ | refine ago_if (by omega) ?_ | skip); simp (disch := first | exact okY | omega) only [ZU, dB, Nat.reduceMul, AOpRun, aexec, Nat.reduceBEq, Nat.reduceAdd, ↓eget_h, dI, Int.reduceNeg, isSh, ↓reduceIte, abin])))
    all_goals (refine end_q [] [] ?_ ?_ <;> repeat' (first | exact trivial | exact vr_val _))
  | some k =>
    have ha : l.any (fun x => x == b) = true := by
      rw [List.findIdx?_eq_some_iff_getElem] at h
      obtain ⟨hk, he, _⟩ := h
      exact List.any_eq_true.2 ⟨l[k], List.getElem_mem hk, he⟩
    rw [h] at hf
    rw [ha]
    have q : decide ((k : Int) ≥ 0) = true := decide_eq_true (by omega)
    (repeat' (first | apply aw_seq | ((first | apply aw_skip | apply aw_exit); try simp only [thenQ, blockQ, if_true, if_false, Nat.reduceEqDiff, reduceCtorEq]) | apply aw_ret | apply aw_block | apply aw_condT rfl | apply aw_condF rfl | ((first | refine aw_region ?_ | refine acall0 (hf) ?_ | refine ago_if (by omega) ?_ | skip); simp (disch := first | exact okY | omega) only [ZU, dB, Nat.reduceMul, AOpRun, aexec, Nat.reduceBEq, Nat.reduceAdd, ↓eget_h, dI, isSh, ↓reduceIte, abin])))
    all_goals (refine end_q [] [] ?_ ?_ <;> repeat' (first | exact trivial | exact vr_val _))
set_option maxRecDepth 100000 in
set_option maxHeartbeats 1000000 in
theorem holds1_ac (hd : List Bool) (hne : (bcl hd).isEmpty = false) (n : Int) (h0 : 0 ≤ n) (h1 : n.toNat < hd.length) : AC Try.prog 120 [dI n, .ptr 16 0] [(16, [.vec 24 hd.length 1]), (24, bcl hd)] [(16, some [.vec 24 hd.length 1]), (24, some (bcl hd))] (dB (hd[n.toNat]?.getD false)) := by
  refine krecord_holds_S1.ac (n0 := 400) (by simp) ⟨.val _, .ptr _ _ (by omega), trivial⟩ ⟨⟨by omega, by intro d hd; simp at hd; subst hd; exact .vec _ _ _ (by omega)⟩, ⟨by omega, fun d h => (bcl_in hd d h).mono fun _ h => h.elim⟩, trivial⟩ (by simp [okUp, hne]) ?_
  unfold crecord_holds_S1
  have g1 := bc_gd hd n.toNat h1
  have g2 : n < (hd.length : Int) := by omega
  have g3 := bcl_len hd
  (repeat' (first | apply aw_seq | ((first | apply aw_skip | apply aw_exit); try simp only [thenQ, blockQ, if_true, if_false, Nat.reduceEqDiff, reduceCtorEq]) | apply aw_ret | apply aw_block | apply aw_condT rfl | apply aw_condF rfl | ((first | refine aw_region ?_ | refine ago_if (by omega) ?_ | skip); simp (disch := first | exact okY | omega) only [ZU, dB, Nat.mul_one, Nat.reduceAdd, dI, AOpRun, aexec, Nat.reduceBEq, Nat.reduceMul, run1, ↓eget_h, Nat.add_zero, h0, g2, ↓reduceIte, ↓hget_h, g1])))
  all_goals (refine end_q [] [(16, 16), (24, 24)] ?_ ?_ <;> repeat' (first | exact trivial | exact vr_val _ | exact vr_vec _ _ _ _ rfl | refine And.intro ⟨_, rfl, _, rfl, by decide, ?_⟩ ?_ | apply And.intro))
  all_goals exact vrl_flat _ (bcl_in _)
set_option maxRecDepth 100000 in
set_option maxHeartbeats 2000000 in
theorem pick1_ac (hd : List Bool) (hne : (bcl hd).isEmpty = false) (l : List Int) (hl : l.length ≤ 1000000) (hn : ∀ k, k < l.length → 0 ≤ l[k]?.getD 0 ∧ (l[k]?.getD 0).toNat < hd.length) : AC Try.prog 119 [.list (ints l), .fn 120 [] [.ptr 16 0]] [(16, [.vec 24 hd.length 1]), (24, bcl hd)] [(16, some [.vec 24 hd.length 1]), (24, some (bcl hd)), (96, some (bcl (l.map fun n => hd[n.toNat]?.getD false)))] (.vec 96 l.length 1) := by
  refine krecord_pick.ac (n0 := 400) (by simp) ⟨.list _, .fn _ _ _ (by simp) (by intro d hd; simp at hd; subst hd; exact .ptr _ _ (by omega)), trivial⟩ ⟨⟨by omega, by intro d hd; simp at hd; subst hd; exact .vec _ _ _ (by omega)⟩, ⟨by omega, fun d h => (bcl_in hd d h).mono fun _ h => h.elim⟩, trivial⟩ (by simp [okUp, hne]) ?_
  unfold crecord_pick
  refine aw_seq (aw_region ?_)
  simp (disch := first | exact okY | omega) only [ZU, Nat.reduceMul, Nat.reduceAdd, AOpRun, aexec, Nat.reduceBEq]
  refine aw_seq (aw_seq (aw_region ?_))
  simp (disch := first | exact okY | omega) only [ZU, Nat.reduceAdd, Nat.reduceMul, AOpRun, aexec, ↓eget_h, Nat.reduceBEq, ints_len]
  refine aw_block ?_
  refine aw_loop (fun k : Nat => ⟨[(1, .fn 120 [] [.ptr 16 0]), (4, .vec 500 k 1), (7, .list (ints l)), (8, dI l.length), (9, dI k)], [(16, [.vec 24 hd.length 1]), (24, bcl hd), (500, bcl ((l.map (fun n => hd[n.toNat]?.getD false)).take k))], 600⟩) (fun k => k ≤ l.length) (fun k => l.length - k) ⟨0, by omega, ?_⟩ ?_
  · simp only [List.take_zero]
    show Wk _ _ ⟨_, [(16, [.vec 24 hd.length 1]), (24, bcl hd), (500, [])], _⟩
    refine wk_q [] [(16, 16), (24, 24), (500, 900)] ?_ ?_ <;> repeat' (first | exact trivial | exact vr_val _ | exact vr_list _ | exact vr_vec _ _ _ _ rfl | exact vr_ptr _ _ _ rfl | exact vr_nilv _ _ _ rfl | apply vr_fn | refine And.intro ⟨_, rfl, .inl ⟨_, rfl, by decide, ?_⟩⟩ ?_ | refine And.intro ⟨_, rfl, .inr ⟨rfl, rfl, of_decide_eq_true (by kernel_rfl)⟩⟩ ?_ | apply And.intro)
    all_goals exact vrl_flat _ (bcl_in _)
  intro k hk
  have hml : (l.map (fun n => hd[n.toNat]?.getD false)).length = l.length := List.length_map ..
  by_cases hk2 : k < l.length
  case neg =>
    obtain rfl : k = l.length := by omega
    have e : (l.map (fun n => hd[n.toNat]?.getD false)).take l.length = l.map (fun n => hd[n.toNat]?.getD false) := List.take_of_length_le (by omega)
    rw [e]
    (have hg : (987654321 : Nat) - 987654321 = 0 := rfl; have hr := hg; repeat' (first | apply aw_seq | ((first | apply aw_skip | apply aw_exit); try simp only [thenQ, blockQ, if_true, if_false, Nat.reduceEqDiff, reduceCtorEq]) | apply aw_ret | apply aw_block | apply aw_condT rfl | apply aw_condF rfl | (refine aw_cond rfl (fun hg => ?_) (fun hg => ?_) <;> (try (have hq := hg; simp only [Bool.not_eq_true', Bool.not_eq_false', Bool.and_eq_true, Bool.and_eq_false_iff, Bool.or_eq_true, Bool.or_eq_false_iff, decide_eq_true_eq, decide_eq_false_iff_not, bne_iff_ne, beq_iff_eq, beq_eq_false_iff_ne, bne_eq_false_iff_eq, ne_eq, Int.not_lt, Int.not_le, Decidable.not_not] at hq)) <;> (try (have hr := hg; simp only [decide_eq_true_eq, decide_eq_false_iff_not] at hr)) <;> (try (exfalso; omega))) | ((first | refine aw_region ?_ | refine ago_if (by omega) ?_ | skip); simp (disch := first | exact okY | omega) only [ZU, dI, Nat.reduceMul, Nat.reduceAdd, AOpRun, aexec, Nat.reduceBEq, ↓eget_h, isSh, ↓reduceIte, abin, hr, decide_false])))
    refine end_q [] [(16, 16), (24, 24), (96, 500)] ?_ ?_ <;> repeat' (first | exact trivial | exact vr_vec _ _ _ _ rfl | refine And.intro ⟨_, rfl, _, rfl, by decide, ?_⟩ ?_ | apply And.intro)
    all_goals exact vrl_flat _ (bcl_in _)
  have g1 := ints_gd l k hk2
  have e : (l.map (fun n => hd[n.toNat]?.getD false)).take (k + 1) = (l.map (fun n => hd[n.toNat]?.getD false)).take k ++ [(fun n => hd[n.toNat]?.getD false) (l[k]?.getD 0)] := by
    rw [List.take_add_one]
    simp [hk2]
  have hca := holds1_ac hd hne (l[k]?.getD 0) (hn k hk2).1 (hn k hk2).2
  have hic : (bcl ((l.map (fun n => hd[n.toNat]?.getD false)).take k)).length = k := by rw [bcl_len, List.length_take]; omega
  have hit : (bcl ((l.map (fun n => hd[n.toNat]?.getD false)).take k)).take k = bcl ((l.map (fun n => hd[n.toNat]?.getD false)).take k) := List.take_of_length_le (by omega)
  have hlf := bcl_leaf ((l.map (fun n => hd[n.toNat]?.getD false)).take k)
  have e2 : bcl ((l.map (fun n => hd[n.toNat]?.getD false)).take (k + 1)) = bcl ((l.map (fun n => hd[n.toNat]?.getD false)).take k) ++ [.val (.bool ((fun n => hd[n.toNat]?.getD false) (l[k]?.getD 0)))] := by rw [e, bc_app]
  have hcin : ∀ y ∈ bcl ((l.map (fun n => hd[n.toNat]?.getD false)).take k) ++ [.val (.bool ((fun n => hd[n.toNat]?.getD false) (l[k]?.getD 0)))], In (fun _ => False) y := by rw [bc_app]; exact bcl_in _
  generalize bcl ((l.map (fun n => hd[n.toNat]?.getD false)).take k) = L at *
  simp only at e2 hcin
  (have hg : (987654321 : Nat) - 987654321 = 0 := rfl; have hr := hg; repeat' (first | apply aw_seq | ((first | apply aw_skip | apply aw_exit); try simp only [thenQ, blockQ, if_true, if_false, Nat.reduceEqDiff, reduceCtorEq]) | apply aw_ret | apply aw_block | apply aw_condT rfl | apply aw_condF rfl | (refine aw_cond rfl (fun hg => ?_) (fun hg => ?_) <;> (try (have hq := hg; simp only [Bool.not_eq_true', Bool.not_eq_false', Bool.and_eq_true, Bool.and_eq_false_iff, Bool.or_eq_true, Bool.or_eq_false_iff, decide_eq_true_eq, decide_eq_false_iff_not, bne_iff_ne, beq_iff_eq, beq_eq_false_iff_ne, bne_eq_false_iff_eq, ne_eq, Int.not_lt, Int.not_le, Decidable.not_not] at hq)) <;> (try (have hr := hg; simp only [decide_eq_true_eq, decide_eq_false_iff_not] at hr)) <;> (try (exfalso; omega))) | ((first | refine aw_region ?_ | refine acallB (hca) (by repeat' (first | exact trivial | exact rfl | refine And.intro ?_ ?_)) (by kernel_rfl) (by kernel_rfl) (by kernel_rfl) ?_ | refine ago_if (by omega) ?_ | skip); simp (disch := first | exact okY | omega) only [ZU, dI, Nat.mul_one, Nat.reduceAdd, AOpRun, aexec, Nat.reduceBEq, ↓eget_h, isSh, ↓reduceIte, abin, Nat.reduceMul, hr, ints_all, opt1, g1, run1, blockQ, dB, fillD, D.isBot, D.cells, ne_eq, not_true_eq_false, Nat.reduceGT, or_self, splice, List.take, List.drop, base, ↓hget_h, hic, Nat.le_refl, hit, elems, List.all, D.leaf, and_true, ups, hdel_c, hdel_n, fits])))
  refine ⟨k + 1, by omega, by omega, ?_⟩
  rw [e2]
  refine wk_q [] [(16, 16), (24, 24), (500, 672)] ?_ ?_ <;> repeat' (first | exact trivial | exact vr_val _ | exact vr_list _ | exact vr_vec _ _ _ _ rfl | exact vr_ptr _ _ _ rfl | apply vr_fn | refine And.intro ⟨_, rfl, .inl ⟨_, rfl, by decide, ?_⟩⟩ ?_ | apply And.intro | exact vrl_flat _ (by first | exact icells_in _ | exact rcells_in _ | exact scells_in _ | exact bcells_in _ | assumption) | fail)
  all_goals first | exact vrl_flat _ (bcl_in _) | assumption
set_option maxRecDepth 100000 in
set_option maxHeartbeats 2000000 in
theorem pick2_ac (p : Nat) (hp : p < 4096) (l : List Int) (hl : l.length ≤ 1000000) (hn : ∀ k, k < l.length → 0 ≤ l[k]?.getD 0 ∧ (l[k]?.getD 0) < 12) : AC Try.prog 119 [.list (ints l), .fn 89 [dI p] []] [] [(136, some (bcl (l.map fun n => p.testBit n.toNat)))] (.vec 136 l.length 1) := by
  refine krecord_pick.ac (n0 := 400) (by simp) ⟨.list _, .fn _ _ _ (by intro d hd; simp at hd; subst hd; exact .val _) (by simp), trivial⟩ trivial rfl ?_
  unfold crecord_pick
  refine aw_seq (aw_region ?_)
  simp (disch := first | exact okY | omega) only [ZU, Nat.reduceMul, Nat.reduceAdd, dI, AOpRun, aexec, Nat.reduceBEq]
  refine aw_seq (aw_seq (aw_region ?_))
  simp (disch := first | exact okY | omega) only [ZU, Nat.reduceAdd, Nat.reduceMul, AOpRun, aexec, ↓eget_h, Nat.reduceBEq, ints_len]
  refine aw_block ?_
  refine aw_loop (fun k : Nat => ⟨[(1, .fn 89 [dI p] []), (4, .vec 500 k 1), (7, .list (ints l)), (8, dI l.length), (9, dI k)], [(500, bcl ((l.map (fun n => p.testBit n.toNat)).take k))], 600⟩) (fun k => k ≤ l.length) (fun k => l.length - k) ⟨0, by omega, ?_⟩ ?_
  · simp only [List.take_zero]
    show Wk _ _ ⟨_, [(500, [])], _⟩
    refine wk_q [] [(500, 900)] ?_ ?_ <;> repeat' (first | exact trivial | exact vr_val _ | exact vr_list _ | exact vr_nilv _ _ _ rfl | apply vr_fn | refine And.intro ⟨_, rfl, .inr ⟨rfl, rfl, of_decide_eq_true (by kernel_rfl)⟩⟩ ?_ | apply And.intro)
    all_goals exact vrl_flat _ (bcl_in _)
  intro k hk
  have hml : (l.map (fun n => p.testBit n.toNat)).length = l.length := List.length_map ..
  by_cases hk2 : k < l.length
  case neg =>
    obtain rfl : k = l.length := by omega
    have e : (l.map (fun n => p.testBit n.toNat)).take l.length = l.map (fun n => p.testBit n.toNat) := List.take_of_length_le (by omega)
    rw [e]
    (have hg : (987654321 : Nat) - 987654321 = 0 := rfl; have hr := hg; repeat' (first | apply aw_seq | ((first | apply aw_skip | apply aw_exit); try simp only [thenQ, blockQ, if_true, if_false, Nat.reduceEqDiff, reduceCtorEq]) | apply aw_ret | apply aw_block | apply aw_condT rfl | apply aw_condF rfl | (refine aw_cond rfl (fun hg => ?_) (fun hg => ?_) <;> (try (have hq := hg; simp only [Bool.not_eq_true', Bool.not_eq_false', Bool.and_eq_true, Bool.and_eq_false_iff, Bool.or_eq_true, Bool.or_eq_false_iff, decide_eq_true_eq, decide_eq_false_iff_not, bne_iff_ne, beq_iff_eq, beq_eq_false_iff_ne, bne_eq_false_iff_eq, ne_eq, Int.not_lt, Int.not_le, Decidable.not_not] at hq)) <;> (try (have hr := hg; simp only [decide_eq_true_eq, decide_eq_false_iff_not] at hr)) <;> (try (exfalso; omega))) | ((first | refine aw_region ?_ | refine ago_if (by omega) ?_ | skip); simp (disch := first | exact okY | omega) only [ZU, dI, Nat.reduceMul, Nat.reduceAdd, AOpRun, aexec, Nat.reduceBEq, ↓eget_h, isSh, ↓reduceIte, abin, hr, decide_false])))
    refine end_q [] [(136, 500)] ?_ ?_ <;> repeat' (first | exact trivial | exact vr_vec _ _ _ _ rfl | refine And.intro ⟨_, rfl, _, rfl, by decide, ?_⟩ ?_)
    all_goals exact vrl_flat _ (bcl_in _)
  have g1 := ints_gd l k hk2
  have e : (l.map (fun n => p.testBit n.toNat)).take (k + 1) = (l.map (fun n => p.testBit n.toNat)).take k ++ [(fun n => p.testBit n.toNat) (l[k]?.getD 0)] := by
    rw [List.take_add_one]
    simp [hk2]
  have hca := phas_ac p (l[k]?.getD 0).toNat hp (by have := hn k hk2; omega)
  rw [Int.toNat_of_nonneg (hn k hk2).1] at hca
  have hic : (bcl ((l.map (fun n => p.testBit n.toNat)).take k)).length = k := by rw [bcl_len, List.length_take]; omega
  have hit : (bcl ((l.map (fun n => p.testBit n.toNat)).take k)).take k = bcl ((l.map (fun n => p.testBit n.toNat)).take k) := List.take_of_length_le (by omega)
  have hlf := bcl_leaf ((l.map (fun n => p.testBit n.toNat)).take k)
  have e2 : bcl ((l.map (fun n => p.testBit n.toNat)).take (k + 1)) = bcl ((l.map (fun n => p.testBit n.toNat)).take k) ++ [.val (.bool ((fun n => p.testBit n.toNat) (l[k]?.getD 0)))] := by rw [e, bc_app]
  have hcin : ∀ y ∈ bcl ((l.map (fun n => p.testBit n.toNat)).take k) ++ [.val (.bool ((fun n => p.testBit n.toNat) (l[k]?.getD 0)))], In (fun _ => False) y := by rw [bc_app]; exact bcl_in _
  generalize bcl ((l.map (fun n => p.testBit n.toNat)).take k) = L at *
  simp only at e2 hcin
  (have hg : (987654321 : Nat) - 987654321 = 0 := rfl; have hr := hg; repeat' (first | apply aw_seq | ((first | apply aw_skip | apply aw_exit); try simp only [thenQ, blockQ, if_true, if_false, Nat.reduceEqDiff, reduceCtorEq]) | apply aw_ret | apply aw_block | apply aw_condT rfl | apply aw_condF rfl | (refine aw_cond rfl (fun hg => ?_) (fun hg => ?_) <;> (try (have hq := hg; simp only [Bool.not_eq_true', Bool.not_eq_false', Bool.and_eq_true, Bool.and_eq_false_iff, Bool.or_eq_true, Bool.or_eq_false_iff, decide_eq_true_eq, decide_eq_false_iff_not, bne_iff_ne, beq_iff_eq, beq_eq_false_iff_ne, bne_eq_false_iff_eq, ne_eq, Int.not_lt, Int.not_le, Decidable.not_not] at hq)) <;> (try (have hr := hg; simp only [decide_eq_true_eq, decide_eq_false_iff_not] at hr)) <;> (try (exfalso; omega))) | ((first | refine aw_region ?_ | refine acall0 (hca) ?_ | refine ago_if (by omega) ?_ | skip); simp (disch := first | exact okY | omega) only [ZU, dI, Nat.mul_one, Nat.reduceAdd, AOpRun, aexec, Nat.reduceBEq, ↓eget_h, isSh, ↓reduceIte, abin, Nat.reduceMul, hr, ints_all, opt1, g1, run1, blockQ, dB, fillD, D.isBot, D.cells, ne_eq, not_true_eq_false, Nat.reduceGT, or_self, splice, List.take, List.drop, base, hic, Nat.le_refl, hit, elems, ↓hget_h, List.all, D.leaf, and_true, ups, hdel_c, hdel_n, fits])))
  refine ⟨k + 1, by omega, by omega, ?_⟩
  rw [e2]
  refine wk_q [] [(500, 672)] ?_ ?_ <;> repeat' (first | exact trivial | exact vr_val _ | exact vr_list _ | exact vr_vec _ _ _ _ rfl | apply vr_fn | refine And.intro ⟨_, rfl, .inl ⟨_, rfl, by decide, ?_⟩⟩ ?_ | apply And.intro | exact vrl_flat _ (by first | exact icells_in _ | exact rcells_in _ | exact scells_in _ | exact bcells_in _ | assumption) | fail)
  all_goals assumption
end Go.Proofs.Ytdcodicoclecnaa
/- record: whether a claim holds with proofs. No conditions. -/
namespace Go.Proofs.Ytdcodicoclecnaa
open Go Go.RowKit Lift

theorem clV_any {x : Clm} {h : List Bool} {cn : Nat → Bool} (ha : x.any = true) : ((x.needs.map fun n => h[n.toNat]?.getD false) ++ x.proofs.map fun n => cn n.toNat).any (fun b => b == true) = clV x h cn := by
  unfold clV
  rw [if_pos ha, List.any_append, List.any_map, List.any_map]
  congr 1 <;> (congr 1; funext n; simp)
theorem clV_all {x : Clm} {h : List Bool} {cn : Nat → Bool} (ha : x.any = false) : (!((x.needs.map fun n => h[n.toNat]?.getD false) ++ x.proofs.map fun n => cn n.toNat).any (fun b => b == false)) = clV x h cn := by
  unfold clV
  rw [ha, if_neg (by simp), List.any_append, List.any_map, List.any_map, Bool.not_or, List.not_any_eq_all_not, List.not_any_eq_all_not]
  congr 1 <;> (congr 1; funext n; simp)
theorem bcl_app (A B : List Bool) : bcl A ++ bcl B = bcl (A ++ B) := by simp [bcl]
theorem asc_short {l : List Int} {b : Int} (h : Asc l b) (hb : b ≤ 20) : l.length ≤ 100 := by
  have key : ∀ i, i < l.length → (i : Int) ≤ l[i]?.getD 0 := fun i => by
    induction i with
    | zero => intro hi; have := (h 0 hi).1; omega
    | succ i ih =>
      intro hi
      have h1 := ih (by omega)
      have h2 := (h (i + 1) hi).2.2 (by omega)
      rw [Nat.add_sub_cancel] at h2
      omega
  rcases Nat.eq_zero_or_pos l.length with h0 | h0
  · omega
  · have h1 := key (l.length - 1) (by omega)
    have h2 := (h (l.length - 1) (by omega)).2.1
    omega
theorem bcl_ne {l : List Bool} (h : 0 < l.length) : (bcl l).isEmpty = false := by cases l with
  | nil => simp at h
  | cons a l => rfl
set_option maxRecDepth 100000 in
set_option maxHeartbeats 8000000 in
theorem holds_ac (c : Cas) (hc : CasOk c) (cl : Nat) (hcl : cl < c.cl.length) (p : Nat) (hp : p < 4096) : AC Try.prog 83 [casD c, dI cl, dI p] [] [] (dB (holdC c cl p.testBit)) := by
  refine krecord_holds.ac (n0 := 0) (by simp) ⟨in_cas _ _, .val _, .val _, trivial⟩ trivial rfl ?_
  unfold crecord_holds casD
  have n1 := hc.n1
  have n2 := hc.n2
  have e0 : ((cl : Int) + 1).toNat = cl + 1 := by omega
  refine aw_seq (aw_region ?_)
  simp (disch := first | exact okY | omega) only [ZU, dB, Nat.reduceAdd, Nat.reduceMul, dI, AOpRun, aexec, D.isBot, ↓eget_h, or_self, ↓reduceIte, D.cells, Nat.reduceBEq]
  refine aw_seq (aw_region ?_)
  have hm1 : (0 : Int) ≤ (cl : Int) + 1 := by omega
  have hm2 : ((cl : Int) + 1) * 1 ≤ 2 ^ 48 := by omega
  have hm3 : (cl : Int) + 1 < 2 ^ 62 := by omega
  have hf0 : hlF c p.testBit (cl + 1) 0 = List.replicate (cl + 1) false := hlF_zero c p.testBit (cl + 1)
  simp (disch := first | exact okY | omega) only [ZU, Nat.reduceAdd, Nat.reduceMul, AOpRun, aexec, Nat.reduceBEq, ↓eget_h, isSh, ↓reduceIte, abin, fits, hm1, cast_lit, hm2, hm3, e0, rep_bc, ← hf0, ↓hget_h, D.isBot, D.cells, Nat.reduceLeDiff, List.all, D.leaf, splice, List.take, List.drop]
  refine aw_seq (aw_seq (aw_region ?_))
  have hm4 : (cl : Int) + 1 ≤ (c.cl.length : Int) := by omega
  have e1 : ((cl : Int) + 1 - 0).toNat = cl + 1 := by omega
  have ca := cls_all c.cl
  simp (disch := first | exact okY | omega) only [ZU, Nat.reduceAdd, Nat.reduceMul, AOpRun, aexec, Nat.reduceBEq, ↓eget_h, run1, isSh, ↓reduceIte, abin, fits, asI, cls_len, Int.le_refl, hm1, hm4, ca, e1, Int.toNat_zero, List.drop]
  have hSl : ((cls c.cl).take (cl + 1)).length = cl + 1 := by rw [List.length_take, cls_len]; omega
  have hSa : ((cls c.cl).take (cl + 1)).all (fun x => x.length == 3) = true := List.all_eq_true.2 fun x hx => List.all_eq_true.1 ca x (List.mem_of_mem_take hx)
  have hSg : ∀ k, k < cl + 1 → ((cls c.cl).take (cl + 1))[k]? = some (clC (clAt c k)) := fun k hk => by rw [List.getElem?_take_of_lt hk]; exact cls_gd c.cl k (by omega)
  generalize (cls c.cl).take (cl + 1) = S at *
  simp (disch := first | exact okY | omega) only [hSl]
  refine aw_block ?_
  refine aw_loop (fun k : Nat => ⟨[(1, dI cl), (2, dI p), (7, .ptr 16 0), (18, .list S), (19, dI ((cl : Int) + 1)), (20, dI k)], [(16, [.vec 24 (cl + 1) 1]), (24, bcl (hlF c p.testBit (cl + 1) k))], 400⟩) (fun k => k ≤ cl + 1) (fun k => cl + 1 - k) ⟨0, by omega, ?_⟩ ?_
  · refine wk_q [] [(16, 40), (24, 32)] ?_ ?_ <;> repeat' (first | exact trivial | exact vr_val _ | exact vr_list _ | exact vr_vec _ _ _ _ rfl | exact vr_ptr _ _ _ rfl | refine And.intro ⟨_, rfl, .inl ⟨_, rfl, by decide, ?_⟩⟩ ?_ | apply And.intro)
    all_goals exact vrl_flat _ (bcl_in _)
  intro k hk
  by_cases hk2 : k < cl + 1
  case neg =>
    obtain rfl : k = cl + 1 := by omega
    have g1 := bc_gd (hlF c p.testBit (cl + 1) (cl + 1)) cl (by rw [hlF_len]; omega)
    rw [hlF_get c p.testBit (cl + 1) (cl + 1) cl (by omega) (by omega)] at g1
    have g2 := bcl_len (hlF c p.testBit (cl + 1) (cl + 1))
    rw [hlF_len] at g2
    have q : decide (((cl + 1 : Nat) : Int) < (cl : Int) + 1) = false := decide_eq_false (by omega)
    have q2 : (cl : Int) < ((cl + 1 : Nat) : Int) := by omega
    have q3 : (0 : Int) ≤ (cl : Int) := by omega
    show AWb _ _ _ _ _ _ _
    (repeat' (first | apply aw_seq | ((first | apply aw_skip | apply aw_exit); try simp only [thenQ, blockQ, if_true, if_false, Nat.reduceEqDiff, reduceCtorEq]) | apply aw_ret | apply aw_block | apply aw_condT rfl | apply aw_condF rfl | ((first | refine aw_region ?_ | refine ago_if (by omega) ?_ | skip); simp (disch := first | exact okY | omega) only [ZU, dI, Nat.mul_one, Nat.reduceAdd, AOpRun, aexec, Nat.reduceBEq, ↓eget_h, isSh, ↓reduceIte, abin, q, Nat.reduceMul, run1, Nat.add_zero, q3, q2, ↓hget_h, g1])))
    all_goals (refine end_q [] [] ?_ ?_ <;> repeat' (first | exact trivial | exact vr_val _))
  have g1 := hSg k hk2
  unfold clC at g1
  obtain ⟨as1, as2⟩ := hc.asc k (by omega)
  have hsu := hlF_succ c p.testBit (cl + 1) k hk2
  have hdl := hlF_len c p.testBit (cl + 1) k
  have eA : (clAt c k).needs.map (fun n => (hlF c p.testBit (cl + 1) k)[n.toNat]?.getD false) = (clAt c k).needs.map (fun n => (hlK c p.testBit k)[n.toNat]?.getD false) := by
    refine List.map_congr_left fun n hn => ?_
    have := asc_lt as1 hn
    exact hlF_get c p.testBit (cl + 1) k n.toNat (by omega) (by omega)
  have va := clV_any (x := clAt c k) (h := hlK c p.testBit k) (cn := p.testBit)
  have vl := clV_all (x := clAt c k) (h := hlK c p.testBit k) (cn := p.testBit)
  have l1 : (clAt c k).needs.length ≤ 100 := asc_short as1 (by omega)
  have l2 : (clAt c k).proofs.length ≤ 100 := asc_short as2 (by omega)
  have pk1 := pick1_ac (hlF c p.testBit (cl + 1) k) (bcl_ne (by omega)) (clAt c k).needs (by omega) (fun j hj => by have := as1 j hj; omega)
  have pk2 := pick2_ac p hp (clAt c k).proofs (by omega) (fun j hj => by have := as2 j hj; omega)
  rw [eA, hdl] at pk1
  have hAl : ((clAt c k).needs.map (fun n => (hlK c p.testBit k)[n.toNat]?.getD false)).length = (clAt c k).needs.length := List.length_map ..
  have hBl : ((clAt c k).proofs.map (fun n => p.testBit n.toNat)).length = (clAt c k).proofs.length := List.length_map ..
  generalize (clAt c k).needs.map (fun n => (hlK c p.testBit k)[n.toNat]?.getD false) = A at *
  generalize (clAt c k).proofs.map (fun n => p.testBit n.toNat) = B at *
  generalize clV (clAt c k) (hlK c p.testBit k) p.testBit = V at *
  generalize clAt c k = x at *
  generalize hlF c p.testBit (cl + 1) k = H at *
  have ki : (k : Int) < (cl : Int) + 1 := by omega
  refine aw_seq (aw_region ?_)
  simp (disch := first | exact okY | omega) only [ZU, dI, Nat.reduceMul, Nat.reduceAdd, AOpRun, aexec, Nat.reduceBEq, ↓eget_h, isSh, ↓reduceIte, abin, ki]
  refine aw_seq (aw_condT rfl (aw_skip ?_))
  refine aw_seq (aw_block (aw_seq (aw_region ?_)))
  simp (disch := first | exact okY | omega) only [ZU, Nat.reduceAdd, Nat.reduceMul, AOpRun, aexec, Nat.reduceBEq, ↓eget_h, hSa, ↓reduceIte, opt1, g1, dB, Nat.reduceLeDiff, List.take, ↓hget_h, D.isBot, D.cells, List.all, D.leaf, splice, List.drop]
  refine aw_wk (s' := ⟨[(1, dI cl), (2, dI p), (7, .ptr 16 0), (8, dI k), (9, .ptr 40 0), (18, .list S), (19, dI ((cl : Int) + 1)), (20, dI k)], [(16, [.vec 24 (cl + 1) 1]), (24, bcl H), (40, [.list (ints x.needs), .list (ints x.proofs), dB x.any])], 72⟩) ?_ ?_
  · unfold dI dB
    refine wk_q [] [(16, 16), (24, 24), (40, 432)] ?_ ?_ <;> repeat' (first | exact trivial | exact vr_val _ | exact vr_list _ | exact vr_vec _ _ _ _ rfl | exact vr_ptr _ _ _ rfl | refine And.intro ⟨_, rfl, .inl ⟨_, rfl, by decide, ?_⟩⟩ ?_ | apply And.intro)
    all_goals exact vrl_flat _ (bcl_in _)
  refine aw_seq (aw_region ?_)
  simp (disch := first | exact okY | omega) only [ZU, Nat.reduceAdd, Nat.reduceMul, dI, dB, AOpRun, aexec, Nat.reduceBEq, ↓eget_h, run1, ↓hget_h]
  refine acallB pk1 (by repeat' (first | exact trivial | exact rfl | refine And.intro ?_ ?_)) (by kernel_rfl) (by kernel_rfl) (by kernel_rfl) ?_
  simp (disch := first | exact okY | omega) only [ZU, Nat.reduceAdd, Nat.reduceBEq, AOpRun, aexec, ↓eget_h, run1, ↓hget_h]
  refine acallB pk2 (by repeat' (first | exact trivial | exact rfl | refine And.intro ?_ ?_)) (by kernel_rfl) (by kernel_rfl) (by kernel_rfl) ?_
  have hac : (bcl A).length = x.needs.length := by rw [bcl_len]; exact hAl
  have hat : (bcl A).take x.needs.length = bcl A := List.take_of_length_le (by omega)
  have hbc : (bcl B).length = x.proofs.length := by rw [bcl_len]; exact hBl
  have hbt : (bcl B).take x.proofs.length = bcl B := List.take_of_length_le (by omega)
  have hbl := bcl_leaf B
  simp (disch := first | exact okY | omega) only [ZU, Nat.reduceAdd, Nat.reduceBEq, AOpRun, aexec, base, ↓eget_h, ↓hget_h, Nat.mul_one, hac, Nat.le_refl, ↓reduceIte, hat, elems, hbc, hbt, Nat.reduceMul, hbl, and_true, ups]
  refine ago_if (by omega) ?_
  simp (disch := first | exact okY | omega) only [ZU, Nat.reduceAdd, Nat.reduceBEq, hdel_c, hdel_n, AOpRun, aexec, ↓eget_h]
  rw [bcl_app]
  have hL : (A ++ B).length = x.needs.length + x.proofs.length := by simp [hAl, hBl]
  refine aw_wk (s' := ⟨[(1, dI cl), (2, dI p), (7, .ptr 16 0), (8, dI k), (9, .ptr 40 0), (10, .vec 144 (x.needs.length + x.proofs.length) 1), (18, .list S), (19, dI ((cl : Int) + 1)), (20, dI k)], [(16, [.vec 24 (cl + 1) 1]), (24, bcl H), (40, [.list (ints x.needs), .list (ints x.proofs), dB x.any]), (144, bcl (A ++ B))], 200⟩) ?_ ?_
  · unfold dI dB
    refine wk_q [] [(16, 16), (24, 24), (40, 40), (144, 144)] ?_ ?_ <;> repeat' (first | exact trivial | exact vr_val _ | exact vr_list _ | exact vr_vec _ _ _ _ rfl | exact vr_ptr _ _ _ rfl | refine And.intro ⟨_, rfl, .inl ⟨_, rfl, by decide, ?_⟩⟩ ?_ | apply And.intro)
    all_goals exact vrl_flat _ (bcl_in _)
  have ct := cbool_ac (A ++ B) true (by omega)
  have cf := cbool_ac (A ++ B) false (by omega)
  generalize A ++ B = L at *
  have hHc : (bcl H).length = cl + 1 := (bcl_len H).trans hdl
  have hHk : k + 1 ≤ cl + 1 := by omega
  have hHb := bc_t H k V (by omega)
  have hcin := bcl_in (H.set k V)
  have k0 : (0 : Int) ≤ (k : Int) := by omega
  have k1 : (k : Int) < ((cl + 1 : Nat) : Int) := by omega
  have hfin : ∀ s : St, Wk [] s ⟨[(1, dI cl), (2, dI p), (7, .ptr 16 0), (18, .list S), (19, dI ((cl : Int) + 1)), (20, dI ((k + 1 : Nat) : Int))], [(16, [.vec 24 (cl + 1) 1]), (24, bcl (H.set k V))], 400⟩ → ∃ j, j ≤ cl + 1 ∧ cl + 1 - j < cl + 1 - k ∧ Wk [] s ⟨[(1, dI cl), (2, dI p), (7, .ptr 16 0), (18, .list S), (19, dI ((cl : Int) + 1)), (20, dI j)], [(16, [.vec 24 (cl + 1) 1]), (24, bcl (hlF c p.testBit (cl + 1) j))], 400⟩ := fun s hs => ⟨k + 1, by omega, by omega, by rw [hsu]; exact hs⟩
  cases ha : x.any with
  | true =>
    rw [va ha] at ct
    refine aw_seq (aw_region ?_)
    simp (disch := first | exact okY | omega) only [ZU, Nat.reduceAdd, Nat.reduceMul, dI, dB, AOpRun, aexec, Nat.reduceBEq, ↓eget_h, run1, ↓hget_h]
    refine aw_condT rfl (aw_region ?_)
    simp (disch := first | exact okY | omega) only [ZU, blockQ, Nat.reduceAdd, Nat.reduceMul, AOpRun, aexec, run1, Nat.reduceBEq, ↓eget_h]
    refine acall ct [144] ⟨vec_bools L (by simp) rfl hL, .refl _, trivial⟩ (.inr (.val _)) (by intro g hg; simp at hg; subst hg; exact ⟨_, rfl⟩) (by kernel_rfl) ?_
    simp (disch := first | exact okY | omega) only [ZU, Nat.reduceAdd, dB, Nat.reduceBEq, AOpRun, aexec, ↓eget_h, k0, k1, ↓reduceIte, Nat.mul_one, ↓hget_h, D.isBot, D.cells, hHc, hHk, List.all, D.leaf, splice, hHb]
    refine aw_region ?_
    simp (disch := first | exact okY | omega) only [ZU, Nat.reduceAdd, Nat.reduceMul, AOpRun, aexec, Nat.reduceBEq, ↓eget_h, isSh, ↓reduceIte, abin, fits]
    refine hfin _ ?_
    unfold dI
    refine wk_q [] [(16, 16), (24, 24)] ?_ ?_ <;> repeat' (first | exact trivial | exact vr_val _ | exact vr_list _ | exact vr_vec _ _ _ _ rfl | exact vr_ptr _ _ _ rfl | refine And.intro ⟨_, rfl, .inl ⟨_, rfl, by decide, ?_⟩⟩ ?_ | apply And.intro | exact vrl_flat _ (by first | exact icells_in _ | exact rcells_in _ | exact scells_in _ | exact bcells_in _ | assumption) | fail)
    all_goals exact vrl_flat _ hcin
  | false =>
    refine aw_seq (aw_region ?_)
    simp (disch := first | exact okY | omega) only [ZU, Nat.reduceAdd, Nat.reduceMul, dI, dB, AOpRun, aexec, Nat.reduceBEq, ↓eget_h, run1, ↓hget_h]
    refine aw_condF rfl (aw_region ?_)
    simp (disch := first | exact okY | omega) only [ZU, blockQ, Nat.reduceAdd, Nat.reduceMul, AOpRun, aexec, run1, Nat.reduceBEq, ↓eget_h]
    refine acall cf [144] ⟨vec_bools L (by simp) rfl hL, .refl _, trivial⟩ (.inr (.val _)) (by intro g hg; simp at hg; subst hg; exact ⟨_, rfl⟩) (by kernel_rfl) ?_
    have vf := vl ha
    generalize (L.any fun b => b == false) = W at *
    subst vf
    simp (disch := first | exact okY | omega) only [ZU, Nat.reduceAdd, dB, Nat.reduceBEq, AOpRun, aexec, ↓eget_h, k0, k1, ↓reduceIte, Nat.mul_one, ↓hget_h, D.isBot, D.cells, hHc, hHk, List.all, D.leaf, splice, hHb]
    refine aw_region ?_
    simp (disch := first | exact okY | omega) only [ZU, Nat.reduceAdd, Nat.reduceMul, AOpRun, aexec, Nat.reduceBEq, ↓eget_h, isSh, ↓reduceIte, abin, fits]
    refine hfin _ ?_
    unfold dI
    refine wk_q [] [(16, 16), (24, 24)] ?_ ?_ <;> repeat' (first | exact trivial | exact vr_val _ | exact vr_list _ | exact vr_vec _ _ _ _ rfl | exact vr_ptr _ _ _ rfl | refine And.intro ⟨_, rfl, .inl ⟨_, rfl, by decide, ?_⟩⟩ ?_ | apply And.intro | exact vrl_flat _ (by first | exact icells_in _ | exact rcells_in _ | exact scells_in _ | exact bcells_in _ | assumption) | fail)
    all_goals exact vrl_flat _ hcin
end Go.Proofs.Ytdcodicoclecnaa
/- record: until when a claim holds. No conditions. -/
namespace Go.Proofs.Ytdcodicoclecnaa
open Go Go.RowKit Lift

def untF (h : Nat → Bool) : Nat → Nat → Nat
  | 0, t => t
  | n + 1, t => if h t = true then untF h n (t + 1) else t
def hAtT (c : Cas) (cl : Nat) (t : Nat) : Bool := holdC c cl (cntT c (t : Int))
def untT (c : Cas) (cl tk : Nat) : Nat := untF (hAtT c cl) (2001 - tk) tk
theorem cntN_fun (c : Cas) (tick : Int) : (cntN c tick).testBit = cntT c tick := funext fun j => cntN_test c tick j
theorem cntN_lt {c : Cas} (hc : CasOk c) (tick : Int) : cntN c tick < 4096 := bits_small _ hc.n2 (Nat.le_refl _)
theorem clmE_ok {c : Cas} {claim tick : Int} (h : clmE c claim tick 122 1 = 0) : CasOk c ∧ ∃ cl tk : Nat, claim = cl ∧ tick = tk ∧ cl < c.cl.length ∧ tk ≤ 2000 := by
  unfold clmE at h
  by_cases hc : CasOk c
  · rw [casE_ok hc, if_neg (by simp)] at h
    split at h
    · rename_i h1
      exact ⟨hc, claim.toNat, tick.toNat, by omega, by omega, by omega, by omega⟩
    · omega
  · rw [casE_no hc, if_pos (by omega)] at h; omega
set_option maxRecDepth 100000 in
set_option maxHeartbeats 4000000 in
theorem until_ok (c : Cas) (hi : CasIn c) (cl tk : Nat) (h0 : clmE c cl tk 122 1 = 0) : AC Try.prog 37 [casD c, dI cl, dI tk] [] [] (if untT c cl tk = tk then .tup [dI 0, dI 3] else .tup [dI ((untT c cl tk : Nat) - 1 : Int), dI 0]) := by
  refine krecord_Until.ac (n0 := 0) (by simp) ⟨in_cas _ _, .val _, .val _, trivial⟩ trivial rfl ?_
  obtain ⟨hc, cl', tk', e1, e2, hcl, htk⟩ := clmE_ok h0
  obtain rfl : cl = cl' := by omega
  obtain rfl : tk = tk' := by omega
  have ck := ccheck_ac c hi cl tk
  rw [h0] at ck
  have hh := fun t : Nat => holds_ac c hc cl hcl (cntN c t) (cntN_lt hc t)
  have cc := fun t : Nat => counting_ac c hc.n2 (t : Int)
  unfold crecord_Until
  unfold casD at *
  (repeat' (first | apply aw_seq | ((first | apply aw_skip | apply aw_exit); try simp only [thenQ, blockQ, if_true, if_false, Nat.reduceEqDiff, reduceCtorEq]) | apply aw_ret | apply aw_block | apply aw_condT rfl | apply aw_condF rfl | ((first | refine aw_region ?_ | refine acall0 (ck) ?_ | refine ago_if (by omega) ?_ | skip); simp (disch := first | exact okY | omega) only [ZU, dI, Nat.reduceAdd, Nat.reduceMul, AOpRun, aexec, D.isBot, ↓eget_h, or_self, ↓reduceIte, D.cells, Nat.reduceBEq, Nat.reduceLeDiff, List.drop, List.take, isSh, abin, bne_self_eq_false])))
  refine aw_loop (fun t : Nat => ⟨[(1, dI cl), (2, dI tk), (3, .ptr 0 0), (9, dI t)], [(0, [.list (cls c.cl), .list (sps c.pf)])], 400⟩) (fun t => tk ≤ t ∧ t ≤ 2001 ∧ untF (hAtT c cl) (2001 - t) t = untT c cl tk) (fun t => 2001 - t) ⟨tk, ⟨by omega, by omega, rfl⟩, ?_⟩ ?_
  · refine wk_q [] [(0, 0)] ?_ ?_ <;> repeat' (first | exact trivial | exact vr_val _ | exact vr_list _ | exact vr_ptr _ _ _ rfl | refine And.intro ⟨_, rfl, .inl ⟨_, rfl, by decide, ?_⟩⟩ ?_ | apply And.intro)
  rintro t ⟨ht1, ht2, hu⟩
  have ht := hh t
  rw [cntN_fun] at ht
  have ct := cc t
  generalize cntN c t = p at ht ct
  by_cases hle : t ≤ 2000
  case neg =>
    obtain rfl : t = 2001 := by omega
    have e : untT c cl tk = 2001 := by rw [← hu]; rfl
    rw [e, if_neg (by omega)]
    (have hg : (987654321 : Nat) - 987654321 = 0 := rfl; have hr := hg; repeat' (first | apply aw_seq | ((first | apply aw_skip | apply aw_exit); try simp only [thenQ, blockQ, if_true, if_false, Nat.reduceEqDiff, reduceCtorEq]) | apply aw_ret | apply aw_block | apply aw_condT rfl | apply aw_condF rfl | (refine aw_cond rfl (fun hg => ?_) (fun hg => ?_) <;> (try (have hq := hg; simp only [Bool.not_eq_true', Bool.not_eq_false', Bool.and_eq_true, Bool.and_eq_false_iff, Bool.or_eq_true, Bool.or_eq_false_iff, decide_eq_true_eq, decide_eq_false_iff_not, bne_iff_ne, beq_iff_eq, beq_eq_false_iff_ne, bne_eq_false_iff_eq, ne_eq, Int.not_lt, Int.not_le, Decidable.not_not] at hq)) <;> (try (have hr := hg; simp only [decide_eq_true_eq, decide_eq_false_iff_not] at hr)) <;> (try (exfalso; omega))) | ((first | refine aw_region ?_ | refine ago_if (by omega) ?_ | skip); simp (disch := first | exact okY | omega) only [ZU, hg, dI, cast_lit, Int.reduceSub, Nat.reduceAdd, Nat.reduceMul, AOpRun, aexec, Nat.reduceBEq, ↓eget_h, isSh, ↓reduceIte, abin, Int.reduceLE, decide_false, ARun_some, AG_ft, fits])))
    all_goals (refine end_q [] [] ?_ ?_ <;> repeat' (first | exact trivial | exact vr_val _ | apply vr_tup | apply And.intro))
  have q1 : decide ((t : Int) ≤ 2000) = true := decide_eq_true (by omega)
  cases hv : holdC c cl (cntT c (t : Int)) with
  | false =>
    rw [hv] at ht
    have e : untT c cl tk = t := by
      rw [← hu, show 2001 - t = (2000 - t) + 1 by omega]
      unfold untF
      rw [if_neg (by unfold hAtT; simp [hv])]
    rw [e]
    by_cases hte : t = tk
    · subst hte
      rw [if_pos rfl]
      (repeat' (first | apply aw_seq | ((first | apply aw_skip | apply aw_exit); try simp only [thenQ, blockQ, if_true, if_false, Nat.reduceEqDiff, reduceCtorEq]) | apply aw_ret | apply aw_block | apply aw_condT rfl | apply aw_condF rfl | ((first | refine aw_region ?_ | refine acall0 (ct) ?_ | refine acall0 (ht) ?_ | refine ago_if (by omega) ?_ | skip); simp (disch := first | exact okY | omega) only [ZU, dI, Nat.reduceAdd, Nat.reduceMul, AOpRun, aexec, Nat.reduceBEq, ↓eget_h, isSh, ↓reduceIte, abin, q1, ARun_some, AG_tt, Nat.reduceLeDiff, List.drop, List.take, dB])))
      all_goals (refine end_q [] [] ?_ ?_ <;> repeat' (first | exact trivial | exact vr_val _ | apply vr_tup | apply And.intro))
    · rw [if_neg hte]
      have q2 : ((t : Int) == (tk : Int)) = false := by simp only [beq_eq_false_iff_ne]; omega
      (repeat' (first | apply aw_seq | ((first | apply aw_skip | apply aw_exit); try simp only [thenQ, blockQ, if_true, if_false, Nat.reduceEqDiff, reduceCtorEq]) | apply aw_ret | apply aw_block | apply aw_condT rfl | apply aw_condF rfl | ((first | refine aw_region ?_ | refine acall0 (ct) ?_ | refine acall0 (ht) ?_ | refine ago_if (by omega) ?_ | skip); simp (disch := first | exact okY | omega) only [ZU, dI, Nat.reduceAdd, Nat.reduceMul, AOpRun, aexec, Nat.reduceBEq, ↓eget_h, isSh, ↓reduceIte, abin, q1, ARun_some, AG_tt, Nat.reduceLeDiff, List.drop, List.take, dB, q2, fits])))
      all_goals (refine end_q [] [] ?_ ?_ <;> repeat' (first | exact trivial | exact vr_val _ | apply vr_tup | apply And.intro))
  | true =>
    rw [hv] at ht
    have e : untF (hAtT c cl) (2001 - (t + 1)) (t + 1) = untT c cl tk := by
      rw [← hu, show 2001 - t = (2001 - (t + 1)) + 1 by omega]
      conv => rhs; unfold untF
      rw [if_pos (by unfold hAtT; exact hv)]
    (repeat' (first | apply aw_seq | ((first | apply aw_skip | apply aw_exit); try simp only [thenQ, blockQ, if_true, if_false, Nat.reduceEqDiff, reduceCtorEq]) | apply aw_ret | apply aw_block | apply aw_condT rfl | apply aw_condF rfl | ((first | refine aw_region ?_ | refine acall0 (ct) ?_ | refine acall0 (ht) ?_ | refine ago_if (by omega) ?_ | skip); simp (disch := first | exact okY | omega) only [ZU, dI, Nat.reduceAdd, Nat.reduceMul, AOpRun, aexec, Nat.reduceBEq, ↓eget_h, isSh, ↓reduceIte, abin, q1, ARun_some, AG_tt, Nat.reduceLeDiff, List.drop, List.take, dB, blockQ, fits])))
    refine ⟨t + 1, ⟨by omega, by omega, e⟩, by omega, ?_⟩
    refine wk_q [] [(0, 0)] ?_ ?_ <;> repeat' (first | exact trivial | exact vr_val _ | exact vr_list _ | exact vr_ptr _ _ _ rfl | refine And.intro ⟨_, rfl, .inl ⟨_, rfl, by decide, ?_⟩⟩ ?_ | apply And.intro)
end Go.Proofs.Ytdcodicoclecnaa
/- law12: the example and what is made of it. No conditions. -/
namespace Go.Proofs.Ytdcodicoclecnaa
open Go Go.RowKit Lift

def exL : Lay := ⟨4, 100, 200, 300, 400, [⟨1, 0, 8, true, 1, 2, 10, 1, 0⟩, ⟨2, 4, 3, false, 5, 1, 0, 2, 1⟩, ⟨3, 0, 1, false, 1, 1, 0, 1, 0⟩]⟩
def exF : List (List Int) := [[100, 4, 0, 0], [200, 254, 48, 1], [300, 6, 0, 0]]
def exC : Cas := ⟨[⟨[], [0, 1], false⟩, ⟨[0], [2], true⟩, ⟨[0, 1], [], false⟩], [(0, 10), (5, 20), (8, 30)]⟩
theorem exC_ok : CasOk exC := ⟨by decide, by decide, by decide, by decide⟩
theorem exC_in : CasIn exC := ⟨by decide, by decide, fun i => by
  rcases i with _ | _ | _ | i <;> simp [exC, clAt, cl0], fun i => by
  rcases i with _ | _ | _ | i <;> simp [exC, clAt, cl0]⟩
theorem exU : untT exC 1 5 = 31 := by decide
theorem exE : clmE exC ((1 : Nat) : Int) ((5 : Nat) : Int) 122 1 = 0 := by
  unfold clmE
  rw [casE_ok exC_ok]
  decide
theorem exL_in : LayIn exL := ⟨by decide, fun k hk => by
  rcases (by have : exL.fl.length = 3 := rfl
             omega : k = 0 ∨ k = 1 ∨ k = 2) with rfl | rfl | rfl <;> decide⟩
def isV : D → Bool
  | .val _ => true
  | .list _ => true
  | _ => false
theorem vals_in {S : Nat → Prop} {c : List D} (h : c.all isV = true) : ∀ d ∈ c, In S d := fun d hd => by
  have := List.all_eq_true.1 h d hd
  cases d <;> first | exact .val _ | exact .list _ | (simp [isV] at this)
set_option maxRecDepth 100000 in
set_option maxHeartbeats 4000000 in
theorem example_ac : AC Try.prog 64 [] [] [] (.tup [layD exL, .list (rows exF), casD exC]) := by
  refine klaw12_Example.ac (n0 := 0) (by simp) trivial trivial rfl ?_
  unfold claw12_Example
  refine aw_seq (aw_region ?_)
  simp (disch := first | exact okY | omega) only [ZU, Nat.reduceAdd, Nat.reduceMul, AOpRun, aexec, ↓reduceIte, Nat.reduceBEq]
  refine aw_seq (aw_region ?_)
  simp (disch := first | exact okY | omega) only [ZU, Nat.reduceAdd, Nat.reduceMul, AOpRun, aexec, fillD, D.isBot, D.cells, ne_eq, not_true_eq_false, Nat.reduceGT, or_self, ↓reduceIte, splice, List.take, List.drop, Nat.reduceBEq, ↓eget_h, ↓hget_h, Nat.reduceLeDiff, List.all, D.leaf]
  refine aw_wk (s' := ⟨[(0, .ptr 0 0), (2, .ptr 16 0), (3, .ptr 32 0)], [(0, [.val (.int .i64 0), .val (.int .i64 0), .val (.int .i64 0), .val (.int .i64 0), .val (.int .i64 0), .val (.slice none 0 0)]), (16, [.val (.slice none 0 0), .val (.slice none 0 0)]), (32, layC exL)], 100⟩) ?_ ?_
  · unfold layC dI exL
    refine wk_q [56] [(0, 0), (16, 16), (32, 72)] ?_ ?_ <;> repeat' (first | exact trivial | exact vr_val _ | exact vr_ptr _ _ _ rfl | refine vr_fl _ _ _ _ _ (by decide) rfl ?_ ?_ ?_ ?_ | refine And.intro ⟨_, rfl, .inl ⟨_, rfl, by decide, ?_⟩⟩ ?_ | apply And.intro)
    all_goals first | exact fls_nine _ | exact rfl | exact vals_in rfl
  refine aw_seq (aw_region_cut [⟨some 11, .buildSl 1 2 [(.val (.int .i64 0)), (.val (.int .i64 0))] [(0, 1, (.const (.int .i64 0))), (1, 1, (.const (.int .i64 1)))], none, []⟩,
     ⟨some 12, .build [(.val (.slice none 0 0)), (.val (.slice none 0 0)), (.val (.bool false))] [(1, 1, (.tmp 11))], none, []⟩,
     ⟨some 13, .buildSl 1 1 [(.val (.int .i64 0))] [(0, 1, (.const (.int .i64 0)))], none, []⟩,
     ⟨some 14, .buildSl 1 1 [(.val (.int .i64 0))] [(0, 1, (.const (.int .i64 2)))], none, []⟩,
     ⟨some 15, .build [(.val (.slice none 0 0)), (.val (.slice none 0 0)), (.val (.bool false))] [(0, 1, (.tmp 13)), (1, 1, (.tmp 14)), (2, 1, (.const (.bool true)))], none, []⟩,
     ⟨some 16, .buildSl 1 2 [(.val (.int .i64 0)), (.val (.int .i64 0))] [(0, 1, (.const (.int .i64 0))), (1, 1, (.const (.int .i64 1)))], none, []⟩,
     ⟨some 17, .build [(.val (.slice none 0 0)), (.val (.slice none 0 0)), (.val (.bool false))] [(0, 1, (.tmp 16))], none, []⟩]
    [⟨some 18, .buildSl 3 3 [(.val (.slice none 0 0)), (.val (.slice none 0 0)), (.val (.bool false)), (.val (.slice none 0 0)), (.val (.slice none 0 0)), (.val (.bool false)), (.val (.slice none 0 0)), (.val (.slice none 0 0)), (.val (.bool false))] [(0, 3, (.tmp 12)), (3, 3, (.tmp 15)), (6, 3, (.tmp 17))], none, []⟩,
     ⟨some 19, .build [(.val (.int .i64 0)), (.val (.int .i64 0))] [(1, 1, (.const (.int .i64 10)))], none, []⟩,
     ⟨some 20, .build [(.val (.int .i64 0)), (.val (.int .i64 0))] [(0, 1, (.const (.int .i64 5))), (1, 1, (.const (.int .i64 20)))], none, []⟩,
     ⟨some 21, .build [(.val (.int .i64 0)), (.val (.int .i64 0))] [(0, 1, (.const (.int .i64 8))), (1, 1, (.const (.int .i64 30)))], none, []⟩,
     ⟨some 22, .buildSl 2 3 [(.val (.int .i64 0)), (.val (.int .i64 0)), (.val (.int .i64 0)), (.val (.int .i64 0)), (.val (.int .i64 0)), (.val (.int .i64 0))] [(0, 2, (.tmp 19)), (2, 2, (.tmp 20)), (4, 2, (.tmp 21))], none, []⟩,
     ⟨some 23, .build [(.val (.slice none 0 0)), (.val (.slice none 0 0))] [(0, 1, (.tmp 18)), (1, 1, (.tmp 22))], none, []⟩,
     ⟨some 4, .mem [(.val (.slice none 0 0)), (.val (.slice none 0 0))], none, []⟩,
     ⟨none, .store 2 (.tmp 4) (.tmp 23), none, []⟩] ?_)
  simp (disch := first | exact okY | omega) only [ZU, Nat.reduceAdd, Nat.reduceMul, AOpRun, aexec, fillD, D.isBot, D.cells, ne_eq, Nat.reduceGT, or_false, splice, List.take, Nat.reduceBEq, ↓reduceIte, not_true_eq_false, or_self, List.drop, ↓eget_h]
  refine ⟨⟨[(0, .ptr 0 0), (2, .ptr 16 0), (3, .ptr 32 0), (12, .agg [.list (ints []), .list (ints [0, 1]), dB false]), (15, .agg [.list (ints [0]), .list (ints [2]), dB true]), (17, .agg [.list (ints [0, 1]), .list (ints []), dB false])], [(0, [.val (.int .i64 0), .val (.int .i64 0), .val (.int .i64 0), .val (.int .i64 0), .val (.int .i64 0), .val (.slice none 0 0)]), (16, [.val (.slice none 0 0), .val (.slice none 0 0)]), (32, layC exL)], 200⟩, ?_, of_decide_eq_true (by kernel_rfl), ?_⟩
  · unfold dB
    refine wk_q [100, 116, 124, 140] [(0, 0), (16, 16), (32, 32)] ?_ ?_ <;> repeat' (first | exact trivial | exact vr_val _ | exact vr_list _ | exact vr_nil | exact vr_ptr _ _ _ rfl | apply vr_agg | refine vr_fl _ _ _ _ _ (by decide) rfl ?_ ?_ ?_ ?_ | refine And.intro ⟨_, rfl, .inl ⟨_, rfl, by decide, ?_⟩⟩ ?_ | apply And.intro)
    all_goals first | exact ints_one _ | exact rfl | exact vals_in rfl | exact vrl_flat _ (vals_in rfl)
  simp (disch := first | exact okY | omega) only [ZU, Nat.reduceSub, Nat.reduceAdd, Nat.reduceBEq, ↓reduceIte, ↓eget_h, not_true_eq_false, or_self, List.drop, Nat.reduceGT, List.take, AOpRun, aexec, fillD, D.isBot, D.cells, ne_eq, splice, Nat.reduceMul, ↓hget_h, Nat.reduceLeDiff, List.all, D.leaf]
  refine aw_wk (s' := ⟨[(0, .ptr 0 0), (2, .ptr 16 0), (3, .ptr 32 0), (4, .ptr 40 0)], [(0, [.val (.int .i64 0), .val (.int .i64 0), .val (.int .i64 0), .val (.int .i64 0), .val (.int .i64 0), .val (.slice none 0 0)]), (16, [.val (.slice none 0 0), .val (.slice none 0 0)]), (32, layC exL), (40, [.list (cls exC.cl), .list (sps exC.pf)])], 400⟩) ?_ ?_
  · refine wk_q [200, 232] [(0, 0), (16, 16), (32, 32), (40, 248)] ?_ ?_ <;> repeat' (first | exact trivial | exact vr_val _ | exact vr_list _ | exact vr_ptr _ _ _ rfl | refine vr_fl _ _ _ _ _ (by decide) rfl ?_ ?_ ?_ ?_ | refine And.intro ⟨_, rfl, .inl ⟨_, rfl, by decide, ?_⟩⟩ ?_ | apply And.intro)
    all_goals first | exact cls_three _ | exact sps_two _ | exact rfl | exact vals_in rfl | exact vrl_flat _ (vals_in rfl)
  unfold layC exL
  refine aw_seq (aw_region ?_)
  simp (disch := first | exact okY | omega) only [ZU, Nat.reduceAdd, Nat.reduceMul, dI, AOpRun, aexec, Nat.reduceBEq, ↓eget_h, ↓hget_h, Nat.reduceLeDiff, ↓reduceIte, List.drop, List.take, fillD, D.isBot, D.cells, ne_eq, not_true_eq_false, Nat.reduceGT, or_self, splice, List.all, D.leaf]
  refine aw_wk (s' := ⟨[(0, .ptr 0 0), (1, .vec 432 3 1), (2, .ptr 16 0)], [(0, layC exL), (16, [.list (cls exC.cl), .list (sps exC.pf)]), (432, [.list (ints [100, 4, 0, 0]), .list (ints [200, 254, 48, 1]), .list (ints [300, 6, 0, 0])])], 500⟩) ?_ ?_
  · unfold layC dI exL
    refine wk_q [408, 416, 424] [(0, 0), (16, 16), (432, 432)] ?_ ?_ <;> repeat' (first | exact trivial | exact vr_val _ | exact vr_list _ | exact vr_vec _ _ _ _ rfl | exact vr_ptr _ _ _ rfl | refine vr_fl _ _ _ _ _ (by decide) rfl ?_ ?_ ?_ ?_ | refine And.intro ⟨_, rfl, .inl ⟨_, rfl, by decide, ?_⟩⟩ ?_ | apply And.intro)
    all_goals first | exact ints_one _ | exact rfl | exact vals_in rfl | exact vrl_flat _ (vals_in rfl)
  refine aw_ret ?_
  unfold layD casD
  refine end_q [432] [] ?_ ?_ <;> repeat' (first | exact trivial | exact vr_val _ | exact vr_list _ | apply vr_agg | apply vr_tup | refine vr_fl _ _ _ _ _ (by decide) rfl ?_ ?_ ?_ ?_ | apply And.intro)
  all_goals first | exact vals_in rfl | exact vrl_flat _ (vals_in rfl) | exact rfl | (intro e he; simp [rows, exF] at he; rcases he with rfl | rfl | rfl <;> rfl)
theorem exL_ok : LayOk exL := ⟨by decide, by decide, by decide, by decide, by decide, fun k hk => by
  rcases (by have : exL.fl.length = 3 := rfl
             omega : k = 0 ∨ k = 1 ∨ k = 2) with rfl | rfl | rfl <;> exact ⟨by decide, by decide, by decide, by decide, by decide, by decide, by decide, by decide, by decide, by decide, by decide, by decide, by decide, by decide⟩, fun i hi k hk s hs h1 h2 h3 => by
  have : exL.fl.length = 3 := rfl
  have h4 := h3.1
  rcases (by omega : i = 1 ∧ k = 0 ∨ i = 2 ∧ k = 0 ∨ i = 2 ∧ k = 1) with ⟨rfl, rfl⟩ | ⟨rfl, rfl⟩ | ⟨rfl, rfl⟩ <;> exact absurd h4 (by decide)⟩
theorem exF_in : FrIn exF := ⟨by decide, fun k => by
  unfold frm
  rcases k with _ | _ | _ | k <;> simp [exF, maxLen]⟩
theorem exP : pkS exL (fAt exL 0) exF 3 = (2, 26) := by decide
theorem exPk : peakR exL exF ((0 : Nat) : Int) = (2, 26, 0) := by
  have h : wfE exL exF [((0 : Nat) : Int)] = 0 := by
    unfold wfE
    rw [if_pos (tpE_ok exL_ok (by decide)), if_pos (by decide)]
  unfold peakR
  rw [if_pos h]
  have : pkS exL (fAt exL ((0 : Nat) : Int).toNat) exF exF.length = (2, 26) := exP
  rw [this, if_neg (by decide)]
set_option maxRecDepth 100000 in
set_option maxHeartbeats 4000000 in
theorem works_ac : AC Try.prog 16 [] [] [] (dB true) := by
  refine klaw12_works.ac (n0 := 0) (by simp) trivial trivial rfl ?_
  have ex := example_ac
  have pk := peak_ac exL exF ((0 : Nat) : Int) exL_in exF_in
  rw [exPk] at pk
  have un := until_ok exC exC_in 1 5 exE
  rw [exU, if_neg (by decide)] at un
  unfold claw12_works
  unfold layD casD layC at *
  (repeat' (first | apply aw_seq | ((first | apply aw_skip | apply aw_exit); try simp only [thenQ, blockQ, if_true, if_false, Nat.reduceEqDiff, reduceCtorEq]) | apply aw_ret | apply aw_block | apply aw_condT rfl | apply aw_condF rfl | ((first | refine aw_region ?_ | refine acall0 (ex) ?_ | refine acall0 (pk) ?_ | refine acall0 (un) ?_ | refine ago_if (by omega) ?_ | skip); simp (disch := first | exact okY | omega) only [ZU, dB, Nat.reduceMul, AOpRun, aexec, Nat.reduceAdd, dI, Nat.reduceBEq, ↓eget_h, opt1, ↓reduceIte, D.isBot, D.cells, Nat.reduceLeDiff, List.all, D.leaf, splice, List.take, List.drop, ↓hget_h, cast_lit, Int.reduceSub, isSh, abin, ARun_some, AG_tt])))
  all_goals (refine end_q [] [] ?_ ?_ <;> repeat' (first | exact trivial | exact vr_val _))
end Go.Proofs.Ytdcodicoclecnaa
