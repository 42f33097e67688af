/- Texts of the law RecordHolds, part 5. No conditions. -/
import Derived.Test.YtdcodicoclecnaaPRecordHolds04
import Derived.Test.YtdcodicoclecnaaRows
/- record: what a case must be, in all. No conditions. -/
set_option linter.unusedSimpArgs false
set_option linter.unusedVariables false
namespace Go.Proofs.Ytdcodicoclecnaa
open Go Go.RowKit Lift

instance (l : List Int) (b : Int) : Decidable (Asc l b) := inferInstanceAs (Decidable (∀ i, i < l.length → _))
def AscK (l : List Int) (b : Int) (k : Nat) : Prop := ∀ i, i < k → 0 ≤ l[i]?.getD 0 ∧ l[i]?.getD 0 < b ∧ (0 < i → l[i - 1]?.getD 0 < l[i]?.getD 0)
def lastA (l : List Int) (k : Nat) : Int := if k = 0 then -1 else l[k - 1]?.getD 0
theorem asc_no {l : List Int} {b : Int} {k : Nat} (hk : k < l.length) (hp : AscK l b k) (h : ¬ (lastA l k < l[k]?.getD 0 ∧ l[k]?.getD 0 < b)) : ¬ Asc l b := fun ha => by
  obtain ⟨h1, h2, h3⟩ := ha k hk
  refine h ⟨?_, h2⟩
  unfold lastA
  split
  · omega
  · exact h3 (by omega)
theorem asc_yes {l : List Int} {b : Int} {k : Nat} (hp : AscK l b k) (h1 : lastA l k < l[k]?.getD 0) (h2 : l[k]?.getD 0 < b) : AscK l b (k + 1) := fun i hi => by
  rcases (by omega : i < k ∨ i = k) with h | rfl
  · exact hp i h
  · refine ⟨?_, h2, fun h0 => ?_⟩
    · unfold lastA at h1
      split at h1
      · omega
      · have := (hp (i - 1) (by omega)).1; omega
    · unfold lastA at h1
      rw [if_neg (by omega)] at h1
      exact h1
set_option maxHeartbeats 2000000 in
theorem ascends_ac (l : List Int) (b : Int) (hl : l.length ≤ 1000000) : AC Try.prog 145 [.list (ints l), dI b] [] [] (dB (decide (Asc l b))) := by
  refine krecord_ascends.ac (n0 := 0) (by simp) ⟨.list _, .val _, trivial⟩ trivial rfl ?_
  unfold crecord_ascends
  (have hg : (987654321 : Nat) - 987654321 = 0 := rfl; have hr := hg; repeat' (first | refine aw_seq ?_ | (refine aw_skip ?_; try simp only [thenQ, blockQ, if_true, if_false, Nat.reduceEqDiff, reduceCtorEq]) | (refine aw_exit ?_; try simp only [thenQ, blockQ, if_true, if_false, Nat.reduceEqDiff, reduceCtorEq]) | refine aw_ret ?_ | refine aw_block ?_ | refine aw_condT rfl ?_ | refine aw_condF rfl ?_ | ((first | refine aw_region ?_ | refine ago_if (by omega) ?_ | skip); simp (config := {maxSteps := 10000000}) (disch := first | exact okYes (by kernel_rfl) | omega) only [thenQ, List.map, Int.reduceNeg, dB, List.length, Nat.zero_add, Nat.reduceMul, envOf, dI, ARun_none, AOpRun, aexec, FSt.ev, AGo_ok, St.app, putO, eput_c, Nat.reduceBEq, eput_n, cond_false, hups, ARun_nil, dropE_c, inL_n, dropE_n, Nat.reduceAdd, St.F, ↓eget_h, eget_c, ints_len])))
  refine aw_loop (fun k : Nat => ⟨[(1, dI b), (5, dI (lastA l k)), (8, .list (ints l)), (9, dI l.length), (10, dI k)], [], 400⟩) (fun k => k ≤ l.length ∧ AscK l b k) (fun k => l.length - k) ⟨0, ⟨by omega, fun i hi => by omega⟩, ?_⟩ ?_
  · refine wk_to [] [] (by kernel_rfl) (by kernel_rfl) (by kernel_rfl) (by kernel_rfl) (by kernel_rfl) ?_ ?_ <;> repeat' (first | exact trivial | exact vr_val _ | exact vr_list _ | apply And.intro)
  rintro k ⟨hk, hp⟩
  by_cases hk2 : k < l.length
  case neg =>
    obtain rfl : k = l.length := by omega
    rw [decide_eq_true (show Asc l b from hp)]
    (have hg : (987654321 : Nat) - 987654321 = 0 := rfl; have hr := hg; repeat' (first | refine aw_seq ?_ | (refine aw_skip ?_; try simp only [thenQ, blockQ, if_true, if_false, Nat.reduceEqDiff, reduceCtorEq]) | (refine aw_exit ?_; try simp only [thenQ, blockQ, if_true, if_false, Nat.reduceEqDiff, reduceCtorEq]) | refine aw_ret ?_ | refine aw_block ?_ | refine aw_condT rfl ?_ | refine aw_condF rfl ?_ | (refine aw_cond rfl (fun hg => ?_) (fun hg => ?_) <;> (try (have hq := hg; simp only [Bool.not_eq_true', Bool.not_eq_false', Bool.and_eq_true, Bool.and_eq_false_iff, Bool.or_eq_true, Bool.or_eq_false_iff, decide_eq_true_eq, decide_eq_false_iff_not, bne_iff_ne, beq_iff_eq, beq_eq_false_iff_ne, bne_eq_false_iff_eq, ne_eq, Int.not_lt, Int.not_le, Decidable.not_not] at hq)) <;> (try (have hr := hg; simp only [decide_eq_true_eq, decide_eq_false_iff_not] at hr)) <;> (try (exfalso; omega))) | ((first | refine aw_region ?_ | refine ago_if (by omega) ?_ | skip); simp (config := {maxSteps := 10000000}) (disch := first | exact okYes (by kernel_rfl) | omega) only [thenQ, dI, List.length, Nat.zero_add, Nat.reduceMul, Nat.reduceAdd, ARun_none, AOpRun, aexec, FSt.ev, St.F, eget_c, Nat.reduceBEq, ↓eget_h, cond_false, isSh, Bool.false_eq_true, ↓reduceIte, Option.map, abin, AGo_ok, St.app, putO, eput_c, eput_n, hups, List.map, ARun_nil, dropE_c, inL_n, dropE_n, hr, decide_false])))
    all_goals (refine end_to [] [] (by first | exact .inl rfl | exact .inr rfl) rfl (by kernel_rfl) (by kernel_rfl) (by kernel_rfl) ?_ ?_ <;> repeat' (first | exact trivial | exact vr_val _))
  have g1 := ints_gd l k hk2
  have e1 : lastA l (k + 1) = l[k]?.getD 0 := by unfold lastA; rw [if_neg (by omega)]; rfl
  have hno := asc_no hk2 hp
  have hyes := asc_yes hp
  rw [← e1] at hno hyes g1
  generalize lastA l (k + 1) = x at *
  generalize lastA l k = y at *
  cases q1 : decide (x ≤ y) with
  | true =>
    rw [decide_eq_false (hno fun h => by have := of_decide_eq_true q1; omega)]
    (have hg : (987654321 : Nat) - 987654321 = 0 := rfl; have hr := hg; repeat' (first | refine aw_seq ?_ | (refine aw_skip ?_; try simp only [thenQ, blockQ, if_true, if_false, Nat.reduceEqDiff, reduceCtorEq]) | (refine aw_exit ?_; try simp only [thenQ, blockQ, if_true, if_false, Nat.reduceEqDiff, reduceCtorEq]) | refine aw_ret ?_ | refine aw_block ?_ | refine aw_condT rfl ?_ | refine aw_condF rfl ?_ | (refine aw_cond rfl (fun hg => ?_) (fun hg => ?_) <;> (try (have hq := hg; simp only [Bool.not_eq_true', Bool.not_eq_false', Bool.and_eq_true, Bool.and_eq_false_iff, Bool.or_eq_true, Bool.or_eq_false_iff, decide_eq_true_eq, decide_eq_false_iff_not, bne_iff_ne, beq_iff_eq, beq_eq_false_iff_ne, bne_eq_false_iff_eq, ne_eq, Int.not_lt, Int.not_le, Decidable.not_not] at hq)) <;> (try (have hr := hg; simp only [decide_eq_true_eq, decide_eq_false_iff_not] at hr)) <;> (try (exfalso; omega))) | ((first | refine aw_region ?_ | refine ago_if (by omega) ?_ | skip); simp (config := {maxSteps := 10000000}) (disch := first | exact okYes (by kernel_rfl) | omega) only [thenQ, dI, List.length, Nat.zero_add, Nat.reduceMul, Nat.reduceAdd, ARun_none, AOpRun, aexec, FSt.ev, St.F, eget_c, Nat.reduceBEq, ↓eget_h, cond_false, isSh, Bool.false_eq_true, ↓reduceIte, Option.map, abin, AGo_ok, St.app, putO, eput_c, eput_n, hups, List.map, ARun_nil, dropE_c, inL_n, dropE_n, hr, decide_true, Int.natCast_nonneg, ints_all, and_self, opt1, Int.toNat_natCast, g1, run1, List.getElem?_cons_zero, inL_c, beq_self_eq_true, cond_true, q1, ARun_some, AG_tf, blockQ])))
    all_goals (refine end_to [] [] (by first | exact .inl rfl | exact .inr rfl) rfl (by kernel_rfl) (by kernel_rfl) (by kernel_rfl) ?_ ?_ <;> repeat' (first | exact trivial | exact vr_val _))
  | false =>
    have n1 := of_decide_eq_false q1
    cases q2 : decide (x ≥ b) with
    | true =>
      rw [decide_eq_false (hno fun h => by have := of_decide_eq_true q2; omega)]
      (have hg : (987654321 : Nat) - 987654321 = 0 := rfl; have hr := hg; repeat' (first | refine aw_seq ?_ | (refine aw_skip ?_; try simp only [thenQ, blockQ, if_true, if_false, Nat.reduceEqDiff, reduceCtorEq]) | (refine aw_exit ?_; try simp only [thenQ, blockQ, if_true, if_false, Nat.reduceEqDiff, reduceCtorEq]) | refine aw_ret ?_ | refine aw_block ?_ | refine aw_condT rfl ?_ | refine aw_condF rfl ?_ | (refine aw_cond rfl (fun hg => ?_) (fun hg => ?_) <;> (try (have hq := hg; simp only [Bool.not_eq_true', Bool.not_eq_false', Bool.and_eq_true, Bool.and_eq_false_iff, Bool.or_eq_true, Bool.or_eq_false_iff, decide_eq_true_eq, decide_eq_false_iff_not, bne_iff_ne, beq_iff_eq, beq_eq_false_iff_ne, bne_eq_false_iff_eq, ne_eq, Int.not_lt, Int.not_le, Decidable.not_not] at hq)) <;> (try (have hr := hg; simp only [decide_eq_true_eq, decide_eq_false_iff_not] at hr)) <;> (try (exfalso; omega))) | ((first | refine aw_region ?_ | refine ago_if (by omega) ?_ | skip); simp (config := {maxSteps := 10000000}) (disch := first | exact okYes (by kernel_rfl) | omega) only [thenQ, dI, List.length, Nat.zero_add, Nat.reduceMul, Nat.reduceAdd, ARun_none, AOpRun, aexec, FSt.ev, St.F, eget_c, Nat.reduceBEq, ↓eget_h, cond_false, isSh, Bool.false_eq_true, ↓reduceIte, Option.map, abin, AGo_ok, St.app, putO, eput_c, eput_n, hups, List.map, ARun_nil, dropE_c, inL_n, dropE_n, hr, decide_true, Int.natCast_nonneg, ints_all, and_self, opt1, Int.toNat_natCast, g1, run1, List.getElem?_cons_zero, inL_c, beq_self_eq_true, cond_true, q1, ARun_some, AG_ff, q2, blockQ])))
      all_goals (refine end_to [] [] (by first | exact .inl rfl | exact .inr rfl) rfl (by kernel_rfl) (by kernel_rfl) (by kernel_rfl) ?_ ?_ <;> repeat' (first | exact trivial | exact vr_val _))
    | false =>
      have n2 := of_decide_eq_false q2
      (have hg : (987654321 : Nat) - 987654321 = 0 := rfl; have hr := hg; repeat' (first | refine aw_seq ?_ | (refine aw_skip ?_; try simp only [thenQ, blockQ, if_true, if_false, Nat.reduceEqDiff, reduceCtorEq]) | (refine aw_exit ?_; try simp only [thenQ, blockQ, if_true, if_false, Nat.reduceEqDiff, reduceCtorEq]) | refine aw_ret ?_ | refine aw_block ?_ | refine aw_condT rfl ?_ | refine aw_condF rfl ?_ | (refine aw_cond rfl (fun hg => ?_) (fun hg => ?_) <;> (try (have hq := hg; simp only [Bool.not_eq_true', Bool.not_eq_false', Bool.and_eq_true, Bool.and_eq_false_iff, Bool.or_eq_true, Bool.or_eq_false_iff, decide_eq_true_eq, decide_eq_false_iff_not, bne_iff_ne, beq_iff_eq, beq_eq_false_iff_ne, bne_eq_false_iff_eq, ne_eq, Int.not_lt, Int.not_le, Decidable.not_not] at hq)) <;> (try (have hr := hg; simp only [decide_eq_true_eq, decide_eq_false_iff_not] at hr)) <;> (try (exfalso; omega))) | ((first | refine aw_region ?_ | refine ago_if (by omega) ?_ | skip); simp (config := {maxSteps := 10000000}) (disch := first | exact okYes (by kernel_rfl) | omega) only [thenQ, dI, List.length, Nat.zero_add, Nat.reduceMul, Nat.reduceAdd, ARun_none, AOpRun, aexec, FSt.ev, St.F, eget_c, Nat.reduceBEq, ↓eget_h, cond_false, isSh, Bool.false_eq_true, ↓reduceIte, Option.map, abin, AGo_ok, St.app, putO, eput_c, eput_n, hups, List.map, ARun_nil, dropE_c, inL_n, dropE_n, hr, decide_true, Int.natCast_nonneg, ints_all, and_self, opt1, Int.toNat_natCast, g1, run1, List.getElem?_cons_zero, inL_c, beq_self_eq_true, cond_true, q1, ARun_some, AG_ff, q2, blockQ, fits])))
      refine ⟨k + 1, ⟨by omega, hyes (by omega) (by omega)⟩, by omega, ?_⟩
      rw [e1]
      refine wk_to [] [] (by kernel_rfl) (by kernel_rfl) (by kernel_rfl) (by kernel_rfl) (by kernel_rfl) ?_ ?_ <;> repeat' (first | exact trivial | exact vr_val _ | exact vr_list _ | apply And.intro)
/-- a case -/
def casD (c : Cas) : D := .agg [.list (cls c.cl), .list (sps c.pf)]
theorem in_cas (S : Nat → Prop) (c : Cas) : In S (casD c) := .agg _ (by intro d hd; simp at hd; rcases hd with rfl | rfl <;> exact .list _)
open Classical in
noncomputable def casB (c : Cas) : Bool := decide (CasOk c)
open Classical in
theorem casB_y {c : Cas} (h : CasOk c) : casB c = true := by unfold casB; exact decide_eq_true h
open Classical in
theorem casB_n {c : Cas} (h : ¬ CasOk c) : casB c = false := by unfold casB; exact decide_eq_false h
/-- what came in -/
structure CasIn (c : Cas) : Prop where
  n1 : c.cl.length ≤ maxLen
  n2 : c.pf.length ≤ maxLen
  l1 : ∀ i, (clAt c i).needs.length ≤ 1000000
  l2 : ∀ i, (clAt c i).proofs.length ≤ 1000000
theorem pf_any {c : Cas} : (c.pf.any fun x => !decide (pfOk x)) = true ↔ ¬ ∀ i, i < c.pf.length → pfOk (pfAt c i) := by
  rw [List.any_eq_true]
  constructor
  · rintro ⟨x, hx, h⟩ ha
    obtain ⟨j, hj, rfl⟩ := List.getElem_of_mem hx
    have := ha j hj
    simp only [pfAt, hj, List.getElem?_eq_getElem, Option.getD_some] at this
    simp [this] at h
  · intro h
    by_cases hx : ∃ x ∈ c.pf, ¬ pfOk x
    · obtain ⟨x, h1, h2⟩ := hx; exact ⟨x, h1, by simp [h2]⟩
    · refine absurd (fun i hi => ?_) h
      refine Decidable.byContradiction fun h1 => hx ⟨pfAt c i, ?_, h1⟩
      simp [pfAt, hi]
set_option maxRecDepth 100000 in
set_option maxHeartbeats 4000000 in
theorem cvalid_ac (c : Cas) (hc : CasIn c) : AC Try.prog 118 [casD c] [] [] (dB (casB c)) := by
  refine krecord_valid.ac (n0 := 0) (by simp) ⟨in_cas _ _, trivial⟩ trivial rfl ?_
  unfold crecord_valid casD
  have hmax : maxLen = 9223372036854775807 := rfl
  have m1 := hc.n1
  have m2 := hc.n2
  cases q1 : decide ((c.cl.length : Int) > 16) with
  | true =>
    rw [casB_n fun h => by have := h.n1; have := of_decide_eq_true q1; omega]
    (have hg : (987654321 : Nat) - 987654321 = 0 := rfl; have hr := hg; repeat' (first | refine aw_seq ?_ | (refine aw_skip ?_; try simp only [thenQ, blockQ, if_true, if_false, Nat.reduceEqDiff, reduceCtorEq]) | (refine aw_exit ?_; try simp only [thenQ, blockQ, if_true, if_false, Nat.reduceEqDiff, reduceCtorEq]) | refine aw_ret ?_ | refine aw_block ?_ | refine aw_condT rfl ?_ | refine aw_condF rfl ?_ | ((first | refine aw_region ?_ | refine ago_if (by omega) ?_ | skip); simp (config := {maxSteps := 10000000}) (disch := first | exact okYes (by kernel_rfl) | omega) only [thenQ, List.map, dB, List.length, Nat.zero_add, Nat.reduceAdd, Nat.reduceMul, envOf, ARun_none, AOpRun, aexec, D.isBot, FSt.ev, St.F, ↓eget_h, Bool.false_eq_true, Option.isSome, hget_n, or_self, ↓reduceIte, D.cells, AGo_ok, St.app, putO, eput_c, Nat.reduceBEq, eput_n, cond_false, hups, hput_n, ARun_nil, dropE_c, inL_n, dropE_n, eget_c, Option.map, run1, hget_c, beq_self_eq_true, cond_true, List.getElem?_cons_zero, cls_len, isSh, abin, q1, ARun_some, AG_tf, inL_c])))
    all_goals (refine end_to [] [] (by first | exact .inl rfl | exact .inr rfl) rfl (by kernel_rfl) (by kernel_rfl) (by kernel_rfl) ?_ ?_ <;> repeat' (first | exact trivial | exact vr_val _))
  | false =>
  have n1 := of_decide_eq_false q1
  cases q2 : decide ((c.pf.length : Int) > 12) with
  | true =>
    rw [casB_n fun h => by have := h.n2; have := of_decide_eq_true q2; omega]
    (have hg : (987654321 : Nat) - 987654321 = 0 := rfl; have hr := hg; repeat' (first | refine aw_seq ?_ | (refine aw_skip ?_; try simp only [thenQ, blockQ, if_true, if_false, Nat.reduceEqDiff, reduceCtorEq]) | (refine aw_exit ?_; try simp only [thenQ, blockQ, if_true, if_false, Nat.reduceEqDiff, reduceCtorEq]) | refine aw_ret ?_ | refine aw_block ?_ | refine aw_condT rfl ?_ | refine aw_condF rfl ?_ | ((first | refine aw_region ?_ | refine ago_if (by omega) ?_ | skip); simp (config := {maxSteps := 10000000}) (disch := first | exact okYes (by kernel_rfl) | omega) only [thenQ, List.map, dB, List.length, Nat.zero_add, Nat.reduceAdd, Nat.reduceMul, envOf, ARun_none, AOpRun, aexec, D.isBot, FSt.ev, St.F, ↓eget_h, Bool.false_eq_true, Option.isSome, hget_n, or_self, ↓reduceIte, D.cells, AGo_ok, St.app, putO, eput_c, Nat.reduceBEq, eput_n, cond_false, hups, hput_n, ARun_nil, dropE_c, inL_n, dropE_n, eget_c, Option.map, run1, hget_c, beq_self_eq_true, cond_true, List.getElem?_cons_zero, cls_len, isSh, abin, q1, ARun_some, AG_ff, List.getElem?_cons_succ, sps_len, q2, inL_c])))
    all_goals (refine end_to [] [] (by first | exact .inl rfl | exact .inr rfl) rfl (by kernel_rfl) (by kernel_rfl) (by kernel_rfl) ?_ ?_ <;> repeat' (first | exact trivial | exact vr_val _))
  | false =>
  have n2 := of_decide_eq_false q2
  refine aw_seq (aw_region ?_)
  simp (config := {maxSteps := 10000000}) (disch := first | exact okYes (by kernel_rfl) | omega) only [thenQ, List.map, dB, List.length, Nat.zero_add, Nat.reduceAdd, Nat.reduceMul, envOf, ARun_none, AOpRun, aexec, D.isBot, FSt.ev, St.F, ↓eget_h, Bool.false_eq_true, Option.isSome, hget_n, or_self, ↓reduceIte, D.cells, AGo_ok, St.app, putO, eput_c, Nat.reduceBEq, eput_n, cond_false, hups, hput_n, ARun_nil, dropE_c, inL_n, dropE_n]
  refine aw_seq (aw_seq (aw_region ?_))
  simp (config := {maxSteps := 10000000}) (disch := first | exact okYes (by kernel_rfl) | omega) only [thenQ, List.length, Nat.zero_add, Nat.reduceAdd, Nat.reduceMul, ARun_none, AOpRun, aexec, FSt.ev, St.F, eget_c, Nat.reduceBEq, ↓eget_h, cond_false, AGo_ok, St.app, putO, eput_c, eput_n, hups, List.map, Option.map, run1, hget_c, beq_self_eq_true, hget_n, cond_true, List.getElem?_cons_zero, cls_len, isSh, Bool.false_eq_true, ↓reduceIte, abin, q1, ARun_some, AG_ff, List.getElem?_cons_succ, sps_len, q2, ARun_nil, dropE_c, inL_c, inL_n, dropE_n]
  refine aw_condF rfl (aw_skip ?_)
  refine aw_seq (aw_seq (aw_region ?_))
  simp (config := {maxSteps := 10000000}) (disch := first | exact okYes (by kernel_rfl) | omega) only [thenQ, List.length, Nat.zero_add, Nat.reduceAdd, Nat.reduceMul, ARun_none, AOpRun, aexec, FSt.ev, St.F, eget_c, Nat.reduceBEq, ↓eget_h, cond_false, AGo_ok, St.app, putO, eput_c, eput_n, hups, List.map, Option.map, run1, hget_c, beq_self_eq_true, hget_n, cond_true, List.getElem?_cons_zero, cls_len, ARun_nil, dropE_c, inL_c, inL_n, dropE_n]
  refine aw_block ?_
  refine aw_loop (fun k : Nat => ⟨[(1, .ptr 0 0), (16, .list (cls c.cl)), (17, dI c.cl.length), (18, dI k)], [(0, [.list (cls c.cl), .list (sps c.pf)])], 400⟩) (fun k => k ≤ c.cl.length ∧ ∀ i, i < k → Asc (clAt c i).needs i ∧ Asc (clAt c i).proofs c.pf.length) (fun k => c.cl.length - k) ⟨0, ⟨by omega, fun i hi => by omega⟩, ?_⟩ ?_
  · refine wk_to [] [(0, 0)] (by kernel_rfl) (by kernel_rfl) (by kernel_rfl) (by kernel_rfl) (by kernel_rfl) ?_ ?_ <;> repeat' (first | exact trivial | exact vr_val _ | exact vr_list _ | exact vr_ptr _ _ _ rfl | refine And.intro ⟨_, rfl, .inl ⟨_, rfl, by decide, ?_⟩⟩ ?_ | apply And.intro)
  rintro k ⟨hk, hp⟩
  by_cases hk2 : k < c.cl.length
  case neg =>
    obtain rfl : k = c.cl.length := by omega
    have hf := cfsp_ac 147 (fun x => !decide (pfOk x)) valid1_ac c.pf (by omega)
    have e : casB c = !(c.pf.any fun x => !decide (pfOk x)) := by
      cases h : (c.pf.any fun x => !decide (pfOk x)) with
      | true => exact casB_n fun hh => (pf_any.1 h) hh.pf
      | false => exact casB_y ⟨by omega, by omega, hp, Classical.byContradiction fun hn => by rw [pf_any.2 hn] at h; cases h⟩
    rw [e]
    generalize (c.pf.any fun x => !decide (pfOk x)) = bb at *
    (have hg : (987654321 : Nat) - 987654321 = 0 := rfl; have hr := hg; repeat' (first | refine aw_seq ?_ | (refine aw_skip ?_; try simp only [thenQ, blockQ, if_true, if_false, Nat.reduceEqDiff, reduceCtorEq]) | (refine aw_exit ?_; try simp only [thenQ, blockQ, if_true, if_false, Nat.reduceEqDiff, reduceCtorEq]) | refine aw_ret ?_ | refine aw_block ?_ | refine aw_condT rfl ?_ | refine aw_condF rfl ?_ | (refine aw_cond rfl (fun hg => ?_) (fun hg => ?_) <;> (try (have hq := hg; simp only [Bool.not_eq_true', Bool.not_eq_false', Bool.and_eq_true, Bool.and_eq_false_iff, Bool.or_eq_true, Bool.or_eq_false_iff, decide_eq_true_eq, decide_eq_false_iff_not, bne_iff_ne, beq_iff_eq, beq_eq_false_iff_ne, bne_eq_false_iff_eq, ne_eq, Int.not_lt, Int.not_le, Decidable.not_not] at hq)) <;> (try (have hr := hg; simp only [decide_eq_true_eq, decide_eq_false_iff_not] at hr)) <;> (try (exfalso; omega))) | ((first | refine aw_region ?_ | refine acall0 (hf) ?_ | refine ago_if (by omega) ?_ | skip); simp (config := {maxSteps := 10000000}) (disch := first | exact okYes (by kernel_rfl) | omega) only [thenQ, dI, List.length, Nat.zero_add, Nat.reduceMul, Nat.reduceAdd, ARun_none, AOpRun, aexec, FSt.ev, St.F, eget_c, Nat.reduceBEq, ↓eget_h, cond_false, isSh, Bool.false_eq_true, ↓reduceIte, Option.map, abin, AGo_ok, St.app, putO, eput_c, eput_n, hups, List.map, ARun_nil, dropE_c, inL_n, dropE_n, hr, decide_false, run1, hget_c, beq_self_eq_true, hget_n, cond_true, List.getElem?_cons_succ, List.getElem?_cons_zero, dB, inL_c])))
    all_goals (refine end_to [] [] (by first | exact .inl rfl | exact .inr rfl) rfl (by kernel_rfl) (by kernel_rfl) (by kernel_rfl) ?_ ?_ <;> repeat' (first | exact trivial | exact vr_val _))
  have g1 : (cls c.cl)[k]? = some (clC (clAt c k)) := cls_gd c.cl k hk2
  unfold clC at g1
  have l1 := hc.l1 k
  have l2 := hc.l2 k
  have hyes : Asc (clAt c k).needs k → Asc (clAt c k).proofs c.pf.length → ∀ i, i < k + 1 → Asc (clAt c i).needs i ∧ Asc (clAt c i).proofs c.pf.length := fun h1 h2 i hi => by
    rcases (by omega : i < k ∨ i = k) with h | rfl
    · exact hp i h
    · exact ⟨h1, h2⟩
  have hno : ¬ (Asc (clAt c k).needs k ∧ Asc (clAt c k).proofs c.pf.length) → casB c = false := fun h => casB_n fun hh => h (hh.asc k hk2)
  generalize clAt c k = x at g1 l1 l2 hyes hno
  have a1 := ascends_ac x.needs k l1
  have a2 := ascends_ac x.proofs c.pf.length l2
  by_cases h1 : Asc x.needs k
  case neg =>
    rw [decide_eq_false h1] at a1
    rw [hno fun h => h1 h.1]
    (have hg : (987654321 : Nat) - 987654321 = 0 := rfl; have hr := hg; repeat' (first | refine aw_seq ?_ | (refine aw_skip ?_; try simp only [thenQ, blockQ, if_true, if_false, Nat.reduceEqDiff, reduceCtorEq]) | (refine aw_exit ?_; try simp only [thenQ, blockQ, if_true, if_false, Nat.reduceEqDiff, reduceCtorEq]) | refine aw_ret ?_ | refine aw_block ?_ | refine aw_condT rfl ?_ | refine aw_condF rfl ?_ | (refine aw_cond rfl (fun hg => ?_) (fun hg => ?_) <;> (try (have hq := hg; simp only [Bool.not_eq_true', Bool.not_eq_false', Bool.and_eq_true, Bool.and_eq_false_iff, Bool.or_eq_true, Bool.or_eq_false_iff, decide_eq_true_eq, decide_eq_false_iff_not, bne_iff_ne, beq_iff_eq, beq_eq_false_iff_ne, bne_eq_false_iff_eq, ne_eq, Int.not_lt, Int.not_le, Decidable.not_not] at hq)) <;> (try (have hr := hg; simp only [decide_eq_true_eq, decide_eq_false_iff_not] at hr)) <;> (try (exfalso; omega))) | ((first | refine aw_region ?_ | refine acall0 (a1) ?_ | refine ago_if (by omega) ?_ | skip); simp (config := {maxSteps := 10000000}) (disch := first | exact okYes (by kernel_rfl) | omega) only [thenQ, dI, List.length, Nat.zero_add, Nat.reduceMul, Nat.reduceAdd, ARun_none, AOpRun, aexec, FSt.ev, St.F, eget_c, Nat.reduceBEq, ↓eget_h, cond_false, isSh, Bool.false_eq_true, ↓reduceIte, Option.map, abin, AGo_ok, St.app, putO, eput_c, eput_n, hups, List.map, ARun_nil, dropE_c, inL_n, dropE_n, hr, decide_true, Int.natCast_nonneg, cls_all, and_self, opt1, Int.toNat_natCast, g1, dB, Nat.reduceLeDiff, List.take, Option.isSome, hget_c, hget_n, hput_c, hput_n, ↓hget_h, D.isBot, D.cells, List.all, D.leaf, Bool.and_true, splice, List.nil_append, List.drop, List.append_nil, beq_self_eq_true, cond_true, inL_c, run1, List.getElem?_cons_zero, Bool.not_false, ARun_some, AG_tf, blockQ])))
    all_goals (refine end_to [] [] (by first | exact .inl rfl | exact .inr rfl) rfl (by kernel_rfl) (by kernel_rfl) (by kernel_rfl) ?_ ?_ <;> repeat' (first | exact trivial | exact vr_val _))
  by_cases h2 : Asc x.proofs c.pf.length
  case neg =>
    rw [decide_eq_true h1] at a1
    rw [decide_eq_false h2] at a2
    rw [hno fun h => h2 h.2]
    (have hg : (987654321 : Nat) - 987654321 = 0 := rfl; have hr := hg; repeat' (first | refine aw_seq ?_ | (refine aw_skip ?_; try simp only [thenQ, blockQ, if_true, if_false, Nat.reduceEqDiff, reduceCtorEq]) | (refine aw_exit ?_; try simp only [thenQ, blockQ, if_true, if_false, Nat.reduceEqDiff, reduceCtorEq]) | refine aw_ret ?_ | refine aw_block ?_ | refine aw_condT rfl ?_ | refine aw_condF rfl ?_ | (refine aw_cond rfl (fun hg => ?_) (fun hg => ?_) <;> (try (have hq := hg; simp only [Bool.not_eq_true', Bool.not_eq_false', Bool.and_eq_true, Bool.and_eq_false_iff, Bool.or_eq_true, Bool.or_eq_false_iff, decide_eq_true_eq, decide_eq_false_iff_not, bne_iff_ne, beq_iff_eq, beq_eq_false_iff_ne, bne_eq_false_iff_eq, ne_eq, Int.not_lt, Int.not_le, Decidable.not_not] at hq)) <;> (try (have hr := hg; simp only [decide_eq_true_eq, decide_eq_false_iff_not] at hr)) <;> (try (exfalso; omega))) | ((first | refine aw_region ?_ | refine acall0 (a1) ?_ | refine acall0 (a2) ?_ | refine ago_if (by omega) ?_ | skip); simp (config := {maxSteps := 10000000}) (disch := first | exact okYes (by kernel_rfl) | omega) only [thenQ, dI, List.length, Nat.zero_add, Nat.reduceMul, Nat.reduceAdd, ARun_none, AOpRun, aexec, FSt.ev, St.F, eget_c, Nat.reduceBEq, ↓eget_h, cond_false, isSh, Bool.false_eq_true, ↓reduceIte, Option.map, abin, AGo_ok, St.app, putO, eput_c, eput_n, hups, List.map, ARun_nil, dropE_c, inL_n, dropE_n, hr, decide_true, Int.natCast_nonneg, cls_all, and_self, opt1, Int.toNat_natCast, g1, dB, Nat.reduceLeDiff, List.take, Option.isSome, hget_c, hget_n, hput_c, hput_n, ↓hget_h, D.isBot, D.cells, List.all, D.leaf, Bool.and_true, splice, List.nil_append, List.drop, List.append_nil, beq_self_eq_true, cond_true, inL_c, run1, List.getElem?_cons_zero, Bool.not_true, ARun_some, AG_ff, List.getElem?_cons_succ, sps_len, Bool.not_false, blockQ])))
    all_goals (refine end_to [] [] (by first | exact .inl rfl | exact .inr rfl) rfl (by kernel_rfl) (by kernel_rfl) (by kernel_rfl) ?_ ?_ <;> repeat' (first | exact trivial | exact vr_val _))
  rw [decide_eq_true h1] at a1
  rw [decide_eq_true h2] at a2
  (have hg : (987654321 : Nat) - 987654321 = 0 := rfl; have hr := hg; repeat' (first | refine aw_seq ?_ | (refine aw_skip ?_; try simp only [thenQ, blockQ, if_true, if_false, Nat.reduceEqDiff, reduceCtorEq]) | (refine aw_exit ?_; try simp only [thenQ, blockQ, if_true, if_false, Nat.reduceEqDiff, reduceCtorEq]) | refine aw_ret ?_ | refine aw_block ?_ | refine aw_condT rfl ?_ | refine aw_condF rfl ?_ | (refine aw_cond rfl (fun hg => ?_) (fun hg => ?_) <;> (try (have hq := hg; simp only [Bool.not_eq_true', Bool.not_eq_false', Bool.and_eq_true, Bool.and_eq_false_iff, Bool.or_eq_true, Bool.or_eq_false_iff, decide_eq_true_eq, decide_eq_false_iff_not, bne_iff_ne, beq_iff_eq, beq_eq_false_iff_ne, bne_eq_false_iff_eq, ne_eq, Int.not_lt, Int.not_le, Decidable.not_not] at hq)) <;> (try (have hr := hg; simp only [decide_eq_true_eq, decide_eq_false_iff_not] at hr)) <;> (try (exfalso; omega))) | ((first | refine aw_region ?_ | refine acall0 (a1) ?_ | refine acall0 (a2) ?_ | refine ago_if (by omega) ?_ | skip); simp (config := {maxSteps := 10000000}) (disch := first | exact okYes (by kernel_rfl) | omega) only [thenQ, dI, List.length, Nat.zero_add, Nat.reduceMul, Nat.reduceAdd, ARun_none, AOpRun, aexec, FSt.ev, St.F, eget_c, Nat.reduceBEq, ↓eget_h, cond_false, isSh, Bool.false_eq_true, ↓reduceIte, Option.map, abin, AGo_ok, St.app, putO, eput_c, eput_n, hups, List.map, ARun_nil, dropE_c, inL_n, dropE_n, hr, decide_true, Int.natCast_nonneg, cls_all, and_self, opt1, Int.toNat_natCast, g1, dB, Nat.reduceLeDiff, List.take, Option.isSome, hget_c, hget_n, hput_c, hput_n, ↓hget_h, D.isBot, D.cells, List.all, D.leaf, Bool.and_true, splice, List.nil_append, List.drop, List.append_nil, beq_self_eq_true, cond_true, inL_c, run1, List.getElem?_cons_zero, Bool.not_true, ARun_some, AG_ff, List.getElem?_cons_succ, sps_len, fits])))
  refine ⟨k + 1, ⟨by omega, hyes h1 h2⟩, by omega, ?_⟩
  refine wk_to [] [(0, 0)] (by kernel_rfl) (by kernel_rfl) (by kernel_rfl) (by kernel_rfl) (by kernel_rfl) ?_ ?_ <;> repeat' (first | exact trivial | exact vr_val _ | exact vr_list _ | exact vr_ptr _ _ _ rfl | refine And.intro ⟨_, rfl, .inl ⟨_, rfl, by decide, ?_⟩⟩ ?_ | apply And.intro)
theorem casE_B (c : Cas) (E : Int) : casE c E = if casB c = true then 0 else E := by
  by_cases h : CasOk c
  · rw [casE_ok h, casB_y h, if_pos rfl]
  · rw [casE_no h, casB_n h, if_neg (by simp)]
set_option maxRecDepth 100000 in
set_option maxHeartbeats 4000000 in
theorem ccheck_ac (c : Cas) (hc : CasIn c) (claim tick : Int) : AC Try.prog 82 [casD c, dI claim, dI tick] [] [] (dI (clmE c claim tick 122 1)) := by
  refine krecord_check.ac (n0 := 0) (by simp) ⟨in_cas _ _, .val _, .val _, trivial⟩ trivial rfl ?_
  have cv := cvalid_ac c hc
  unfold crecord_check clmE
  rw [casE_B]
  have hmax : maxLen = 9223372036854775807 := rfl
  have m1 := hc.n1
  unfold casD at *
  cases hb : casB c with
  | false =>
    rw [hb] at cv
    simp only [Bool.false_eq_true, if_false, ne_eq, reduceCtorEq, not_false_eq_true, if_true]
    (have hg : (987654321 : Nat) - 987654321 = 0 := rfl; have hr := hg; repeat' (first | refine aw_seq ?_ | (refine aw_skip ?_; try simp only [thenQ, blockQ, if_true, if_false, Nat.reduceEqDiff, reduceCtorEq]) | (refine aw_exit ?_; try simp only [thenQ, blockQ, if_true, if_false, Nat.reduceEqDiff, reduceCtorEq]) | refine aw_ret ?_ | refine aw_block ?_ | refine aw_condT rfl ?_ | refine aw_condF rfl ?_ | ((first | refine aw_region ?_ | refine acall0 (cv) ?_ | refine ago_if (by omega) ?_ | skip); simp (config := {maxSteps := 10000000}) (disch := first | exact okYes (by kernel_rfl) | omega) only [thenQ, List.map, dI, Int.reduceEq, not_false_eq_true, ↓reduceIte, List.length, Nat.zero_add, Nat.reduceAdd, Nat.reduceMul, envOf, ARun_none, AOpRun, aexec, D.isBot, FSt.ev, St.F, ↓eget_h, Bool.false_eq_true, Option.isSome, hget_n, or_self, D.cells, AGo_ok, St.app, putO, eput_c, Nat.reduceBEq, eput_n, cond_false, hups, hput_n, ARun_nil, dropE_c, inL_n, dropE_n, eget_c, hget_c, beq_self_eq_true, cond_true, Nat.reduceLeDiff, List.drop, List.take, dB, Bool.not_false, inL_c, blockQ])))
    all_goals (refine end_to [] [] (by first | exact .inl rfl | exact .inr rfl) rfl (by kernel_rfl) (by kernel_rfl) (by kernel_rfl) ?_ ?_ <;> repeat' (first | exact trivial | exact vr_val _))
  | true =>
    rw [hb] at cv
    simp only [if_true, ne_eq, not_true_eq_false, if_false]
    have w1 := within_ac claim 0 ((c.cl.length : Int) - 1)
    have w2 := within_ac tick 0 2000
    cases h1 : wI claim 0 ((c.cl.length : Int) - 1) with
    | false =>
      rw [h1] at w1
      rw [if_neg fun h => by have := wI_f h1; omega]
      (have hg : (987654321 : Nat) - 987654321 = 0 := rfl; have hr := hg; repeat' (first | refine aw_seq ?_ | (refine aw_skip ?_; try simp only [thenQ, blockQ, if_true, if_false, Nat.reduceEqDiff, reduceCtorEq]) | (refine aw_exit ?_; try simp only [thenQ, blockQ, if_true, if_false, Nat.reduceEqDiff, reduceCtorEq]) | refine aw_ret ?_ | refine aw_block ?_ | refine aw_condT rfl ?_ | refine aw_condF rfl ?_ | ((first | refine aw_region ?_ | refine acall0 (cv) ?_ | refine acall0 (w1) ?_ | refine ago_if (by omega) ?_ | skip); simp (config := {maxSteps := 10000000}) (disch := first | exact okYes (by kernel_rfl) | omega) only [thenQ, List.map, dI, List.length, Nat.zero_add, Nat.reduceAdd, Nat.reduceMul, envOf, ARun_none, AOpRun, aexec, D.isBot, FSt.ev, St.F, ↓eget_h, Bool.false_eq_true, Option.isSome, hget_n, or_self, ↓reduceIte, D.cells, AGo_ok, St.app, putO, eput_c, Nat.reduceBEq, eput_n, cond_false, hups, hput_n, ARun_nil, dropE_c, inL_n, dropE_n, eget_c, hget_c, beq_self_eq_true, cond_true, Nat.reduceLeDiff, List.drop, List.take, dB, Bool.not_true, inL_c, Option.map, run1, List.getElem?_cons_zero, cls_len, isSh, abin, fits, Bool.not_false, blockQ])))
      all_goals (refine end_to [] [] (by first | exact .inl rfl | exact .inr rfl) rfl (by kernel_rfl) (by kernel_rfl) (by kernel_rfl) ?_ ?_ <;> repeat' (first | exact trivial | exact vr_val _))
    | true =>
      rw [h1] at w1
      cases h2 : wI tick 0 2000 with
      | false =>
        rw [h2] at w2
        rw [if_neg fun h => by have := wI_f h2; omega]
        (have hg : (987654321 : Nat) - 987654321 = 0 := rfl; have hr := hg; repeat' (first | refine aw_seq ?_ | (refine aw_skip ?_; try simp only [thenQ, blockQ, if_true, if_false, Nat.reduceEqDiff, reduceCtorEq]) | (refine aw_exit ?_; try simp only [thenQ, blockQ, if_true, if_false, Nat.reduceEqDiff, reduceCtorEq]) | refine aw_ret ?_ | refine aw_block ?_ | refine aw_condT rfl ?_ | refine aw_condF rfl ?_ | ((first | refine aw_region ?_ | refine acall0 (cv) ?_ | refine acall0 (w1) ?_ | refine acall0 (w2) ?_ | refine ago_if (by omega) ?_ | skip); simp (config := {maxSteps := 10000000}) (disch := first | exact okYes (by kernel_rfl) | omega) only [thenQ, List.map, dI, List.length, Nat.zero_add, Nat.reduceAdd, Nat.reduceMul, envOf, ARun_none, AOpRun, aexec, D.isBot, FSt.ev, St.F, ↓eget_h, Bool.false_eq_true, Option.isSome, hget_n, or_self, ↓reduceIte, D.cells, AGo_ok, St.app, putO, eput_c, Nat.reduceBEq, eput_n, cond_false, hups, hput_n, ARun_nil, dropE_c, inL_n, dropE_n, eget_c, hget_c, beq_self_eq_true, cond_true, Nat.reduceLeDiff, List.drop, List.take, dB, Bool.not_true, inL_c, Option.map, run1, List.getElem?_cons_zero, cls_len, isSh, abin, fits, Bool.not_false, blockQ])))
        all_goals (refine end_to [] [] (by first | exact .inl rfl | exact .inr rfl) rfl (by kernel_rfl) (by kernel_rfl) (by kernel_rfl) ?_ ?_ <;> repeat' (first | exact trivial | exact vr_val _))
      | true =>
        rw [h2] at w2
        rw [if_pos (by have := wI_t h1; have := wI_t h2; omega)]
        (have hg : (987654321 : Nat) - 987654321 = 0 := rfl; have hr := hg; repeat' (first | refine aw_seq ?_ | (refine aw_skip ?_; try simp only [thenQ, blockQ, if_true, if_false, Nat.reduceEqDiff, reduceCtorEq]) | (refine aw_exit ?_; try simp only [thenQ, blockQ, if_true, if_false, Nat.reduceEqDiff, reduceCtorEq]) | refine aw_ret ?_ | refine aw_block ?_ | refine aw_condT rfl ?_ | refine aw_condF rfl ?_ | ((first | refine aw_region ?_ | refine acall0 (cv) ?_ | refine acall0 (w1) ?_ | refine acall0 (w2) ?_ | refine ago_if (by omega) ?_ | skip); simp (config := {maxSteps := 10000000}) (disch := first | exact okYes (by kernel_rfl) | omega) only [thenQ, List.map, dI, List.length, Nat.zero_add, Nat.reduceAdd, Nat.reduceMul, envOf, ARun_none, AOpRun, aexec, D.isBot, FSt.ev, St.F, ↓eget_h, Bool.false_eq_true, Option.isSome, hget_n, or_self, ↓reduceIte, D.cells, AGo_ok, St.app, putO, eput_c, Nat.reduceBEq, eput_n, cond_false, hups, hput_n, ARun_nil, dropE_c, inL_n, dropE_n, eget_c, hget_c, beq_self_eq_true, cond_true, Nat.reduceLeDiff, List.drop, List.take, dB, Bool.not_true, inL_c, Option.map, run1, List.getElem?_cons_zero, cls_len, isSh, abin, fits])))
        all_goals (refine end_to [] [] (by first | exact .inl rfl | exact .inr rfl) rfl (by kernel_rfl) (by kernel_rfl) (by kernel_rfl) ?_ ?_ <;> repeat' (first | exact trivial | exact vr_val _))
end Go.Proofs.Ytdcodicoclecnaa
/- The functions' bodies, translated. Written by a program; no conditions. -/
namespace Go.Proofs.Ytdcodicoclecnaa
open Go.RowKit Lift

/-- ref12_rising -/
def cref12_rising : ACode :=
  (.seq
   (.region false [⟨some 4, .mv (.const (.bool false)), none, []⟩] [])
  (.seq
   (.seq
    (.region false [⟨some 5, .mv (.const (.int .i64 0)), none, []⟩] [])
   (.block 0
     (.loop
       (.seq
        (.seq
         (.region false [⟨some 6, .mv (.tmp 5), none, []⟩,
           ⟨some 7, .mv (.tmp 0), none, []⟩,
           ⟨some 8, .len_ (.tmp 7), none, []⟩,
           ⟨some 9, .bin .lss (.tmp 6) (.tmp 8), none, []⟩] [6, 7, 8])
        (.cond (.tmp 9)
          .skip
          (.exit 0)))
       (.seq
        (.block 1
          (.seq
           (.region true [⟨some 12, .mv (.tmp 0), none, []⟩,
             ⟨some 13, .mv (.tmp 5), none, []⟩,
             ⟨some 14, .iadS 1 (.tmp 12) (.tmp 13), none, [0, 1]⟩,
             ⟨some 15, .load1 (.tmp 14), none, [2, 0, 1]⟩,
             ⟨some 16, .mv (.tmp 1), none, []⟩,
             ⟨some 17, .call (.func 79) [(.tmp 15), (.const (.int .i64 0)), (.tmp 16)], none, [3, 2, 0, 1, 4]⟩,
             ⟨some 18, .un .not (.tmp 17), none, [5, 3, 2, 0, 1, 4]⟩,
             ⟨some 19, .mv (.tmp 18), none, [6, 5, 3, 2, 0, 1, 4]⟩,
             ⟨some 20, .mv (.tmp 5), (some (some 19, false)), [7, 6, 5, 3, 2, 0, 1, 4]⟩,
             ⟨some 21, .bin .gtr (.tmp 20) (.const (.int .i64 0)), (some (some 19, false)), [8, 7, 6, 5, 3, 2, 0, 1, 4]⟩,
             ⟨some 22, .mv (.tmp 21), (some (some 19, false)), [9, 8, 7, 6, 5, 3, 2, 0, 1, 4]⟩,
             ⟨some 23, .mv (.tmp 0), (some (some 22, true)), [10, 9, 8, 7, 6, 5, 3, 2, 0, 1, 4]⟩,
             ⟨some 24, .mv (.tmp 5), (some (some 22, true)), [10, 9, 8, 7, 6, 5, 3, 2, 0, 1, 4]⟩,
             ⟨some 25, .iadS 1 (.tmp 23) (.tmp 24), (some (some 22, true)), [11, 10, 9, 8, 7, 6, 5, 3, 2, 0, 1, 4, 12]⟩,
             ⟨some 26, .load1 (.tmp 25), (some (some 22, true)), [13, 11, 10, 9, 8, 7, 6, 5, 3, 2, 0, 1, 4, 12]⟩,
             ⟨some 27, .mv (.tmp 0), (some (some 22, true)), [10, 9, 8, 7, 6, 5, 3, 2, 0, 1, 4]⟩,
             ⟨some 28, .mv (.tmp 5), (some (some 22, true)), [10, 9, 8, 7, 6, 5, 3, 2, 0, 1, 4]⟩,
             ⟨some 29, .bin .sub (.tmp 28) (.const (.int .i64 1)), (some (some 22, true)), [16, 10, 9, 8, 7, 6, 5, 3, 2, 0, 1, 4]⟩,
             ⟨some 30, .iadS 1 (.tmp 27) (.tmp 29), (some (some 22, true)), [15, 10, 9, 8, 7, 6, 5, 3, 2, 0, 1, 4, 17, 16]⟩,
             ⟨some 31, .load1 (.tmp 30), (some (some 22, true)), [18, 15, 10, 9, 8, 7, 6, 5, 3, 2, 0, 1, 4, 17, 16]⟩,
             ⟨some 32, .bin .leq (.tmp 26) (.tmp 31), (some (some 22, true)), [14, 13, 11, 10, 9, 8, 7, 6, 5, 3, 2, 0, 1, 4, 12, 19, 18, 15, 17, 16]⟩,
             ⟨some 33, .pick (.tmp 22) (.tmp 32) (.const (.bool false)), (some (some 19, false)), [10, 9, 8, 7, 6, 5, 3, 2, 0, 1, 4, 20, 14, 13, 11, 12, 19, 18, 15, 17, 16]⟩,
             ⟨some 34, .pick (.tmp 19) (.const (.bool true)) (.tmp 33), none, [7, 6, 5, 3, 2, 0, 1, 4, 21, 10, 9, 8, 20, 14, 13, 11, 12, 19, 18, 15, 17, 16]⟩] [12, 13, 14, 15, 16, 17, 18, 19, 20, 21, 22, 23, 24, 25, 26, 27, 28, 29, 30, 31, 32, 33])
          (.cond (.tmp 34)
            (.seq
             (.region false [⟨some 4, .mv (.const (.bool false)), none, []⟩] [])
            .ret)
            .skip)))
       (.region false [⟨some 10, .mv (.tmp 5), none, []⟩,
         ⟨some 11, .bin .add (.tmp 10) (.const (.int .i64 1)), none, []⟩,
         ⟨some 5, .mv (.tmp 11), none, []⟩] [10, 11]))))))
  (.seq
   (.region false [⟨some 4, .mv (.const (.bool true)), none, []⟩] [])
  .ret)))
set_option maxRecDepth 100000 in
theorem kref12_rising : IsCode Try.prog 122 35 cref12_rising [.tmp 4] :=
  ⟨Try.f122, _, [34, 9, 5, 0, 1, 4], Try.func122, rfl, by decide, rfl, by kernel_rfl, by kernel_rfl⟩
/-- ref12_CheckCase -/
def cref12_CheckCase : ACode :=
  (.seq
   (.region false [⟨some 1, .box (.tmp 0), none, []⟩,
     ⟨some 2, .mv (.const (.int .i64 0)), none, []⟩] [])
  (.seq
   (.seq
    (.region false [⟨some 5, .fad 0 (.tmp 1), none, []⟩,
      ⟨some 6, .load1 (.tmp 5), none, []⟩,
      ⟨some 7, .len_ (.tmp 6), none, []⟩,
      ⟨some 8, .bin .gtr (.tmp 7) (.const (.int .i64 16)), none, []⟩,
      ⟨some 9, .mv (.tmp 8), none, []⟩,
      ⟨some 10, .fad 1 (.tmp 1), (some (some 9, false)), []⟩,
      ⟨some 11, .load1 (.tmp 10), (some (some 9, false)), []⟩,
      ⟨some 12, .len_ (.tmp 11), (some (some 9, false)), []⟩,
      ⟨some 13, .bin .gtr (.tmp 12) (.const (.int .i64 12)), (some (some 9, false)), []⟩,
      ⟨some 14, .pick (.tmp 9) (.const (.bool true)) (.tmp 13), none, []⟩] [5, 6, 7, 8, 9, 10, 11, 12, 13])
   (.cond (.tmp 14)
     (.seq
      (.region false [⟨some 2, .mv (.const (.int .i64 122)), none, []⟩] [])
     .ret)
     .skip))
  (.seq
   (.seq
    (.region false [⟨some 3, .mv (.const (.int .i64 0)), none, []⟩] [])
   (.block 0
     (.loop
       (.seq
        (.seq
         (.region false [⟨some 15, .mv (.tmp 3), none, []⟩,
           ⟨some 16, .fad 0 (.tmp 1), none, []⟩,
           ⟨some 17, .load1 (.tmp 16), none, []⟩,
           ⟨some 18, .len_ (.tmp 17), none, []⟩,
           ⟨some 19, .bin .lss (.tmp 15) (.tmp 18), none, []⟩] [15, 16, 17, 18])
        (.cond (.tmp 19)
          .skip
          (.exit 0)))
       (.seq
        (.block 1
          (.seq
           (.region true [⟨some 22, .fad 0 (.tmp 1), none, []⟩,
             ⟨some 23, .load1 (.tmp 22), none, [0]⟩,
             ⟨some 24, .mv (.tmp 3), none, []⟩,
             ⟨some 25, .iadS 3 (.tmp 23) (.tmp 24), none, [1, 0, 2]⟩,
             ⟨some 26, .fad 0 (.tmp 25), none, [3, 1, 0, 2]⟩,
             ⟨some 27, .load1 (.tmp 26), none, [4, 3, 1, 0, 2]⟩,
             ⟨some 28, .mv (.tmp 3), none, []⟩,
             ⟨some 29, .bin .sub (.tmp 28) (.const (.int .i64 1)), none, [6]⟩,
             ⟨some 30, .call (.func 122) [(.tmp 27), (.tmp 29)], none, [5, 4, 3, 1, 0, 2, 7, 6]⟩,
             ⟨some 31, .un .not (.tmp 30), none, [8, 5, 4, 3, 1, 0, 2, 7, 6]⟩,
             ⟨some 32, .mv (.tmp 31), none, [9, 8, 5, 4, 3, 1, 0, 2, 7, 6]⟩,
             ⟨some 33, .fad 0 (.tmp 1), (some (some 32, false)), [10, 9, 8, 5, 4, 3, 1, 0, 2, 7, 6]⟩,
             ⟨some 34, .load1 (.tmp 33), (some (some 32, false)), [11, 10, 9, 8, 5, 4, 3, 1, 0, 2, 7, 6]⟩,
             ⟨some 35, .mv (.tmp 3), (some (some 32, false)), [10, 9, 8, 5, 4, 3, 1, 0, 2, 7, 6]⟩,
             ⟨some 36, .iadS 3 (.tmp 34) (.tmp 35), (some (some 32, false)), [12, 11, 10, 9, 8, 5, 4, 3, 1, 0, 2, 7, 6, 13]⟩,
             ⟨some 37, .fad 1 (.tmp 36), (some (some 32, false)), [14, 12, 11, 10, 9, 8, 5, 4, 3, 1, 0, 2, 7, 6, 13]⟩,
             ⟨some 38, .load1 (.tmp 37), (some (some 32, false)), [15, 14, 12, 11, 10, 9, 8, 5, 4, 3, 1, 0, 2, 7, 6, 13]⟩,
             ⟨some 39, .fad 1 (.tmp 1), (some (some 32, false)), [10, 9, 8, 5, 4, 3, 1, 0, 2, 7, 6]⟩,
             ⟨some 40, .load1 (.tmp 39), (some (some 32, false)), [17, 10, 9, 8, 5, 4, 3, 1, 0, 2, 7, 6]⟩,
             ⟨some 41, .len_ (.tmp 40), (some (some 32, false)), [18, 17, 10, 9, 8, 5, 4, 3, 1, 0, 2, 7, 6]⟩,
             ⟨some 42, .bin .sub (.tmp 41) (.const (.int .i64 1)), (some (some 32, false)), [19, 18, 17, 10, 9, 8, 5, 4, 3, 1, 0, 2, 7, 6]⟩,
             ⟨some 43, .call (.func 122) [(.tmp 38), (.tmp 42)], (some (some 32, false)), [16, 15, 14, 12, 11, 10, 9, 8, 5, 4, 3, 1, 0, 2, 7, 6, 13, 20, 19, 18, 17]⟩,
             ⟨some 44, .un .not (.tmp 43), (some (some 32, false)), [21, 16, 15, 14, 12, 11, 10, 9, 8, 5, 4, 3, 1, 0, 2, 7, 6, 13, 20, 19, 18, 17]⟩,
             ⟨some 45, .pick (.tmp 32) (.const (.bool true)) (.tmp 44), none, [10, 9, 8, 5, 4, 3, 1, 0, 2, 7, 6, 22, 21, 16, 15, 14, 12, 11, 13, 20, 19, 18, 17]⟩] [22, 23, 24, 25, 26, 27, 28, 29, 30, 31, 32, 33, 34, 35, 36, 37, 38, 39, 40, 41, 42, 43, 44])
          (.cond (.tmp 45)
            (.seq
             (.region false [⟨some 2, .mv (.const (.int .i64 122)), none, []⟩] [])
            .ret)
            .skip)))
       (.region false [⟨some 20, .mv (.tmp 3), none, []⟩,
         ⟨some 21, .bin .add (.tmp 20) (.const (.int .i64 1)), none, []⟩,
         ⟨some 3, .mv (.tmp 21), none, []⟩] [20, 21]))))))
  (.seq
   (.seq
    (.region false [⟨some 4, .mv (.const (.int .i64 0)), none, []⟩] [])
   (.block 2
     (.loop
       (.seq
        (.seq
         (.region false [⟨some 46, .mv (.tmp 4), none, []⟩,
           ⟨some 47, .fad 1 (.tmp 1), none, []⟩,
           ⟨some 48, .load1 (.tmp 47), none, []⟩,
           ⟨some 49, .len_ (.tmp 48), none, []⟩,
           ⟨some 50, .bin .lss (.tmp 46) (.tmp 49), none, []⟩] [46, 47, 48, 49])
        (.cond (.tmp 50)
          .skip
          (.exit 2)))
       (.seq
        (.block 3
          (.seq
           (.region false [⟨some 53, .fad 1 (.tmp 1), none, []⟩,
             ⟨some 54, .load1 (.tmp 53), none, []⟩,
             ⟨some 55, .mv (.tmp 4), none, []⟩,
             ⟨some 56, .iadS 2 (.tmp 54) (.tmp 55), none, []⟩,
             ⟨some 57, .loadN 2 (.tmp 56), none, []⟩,
             ⟨some 58, .call (.func 123) [(.tmp 57)], none, []⟩,
             ⟨some 59, .un .not (.tmp 58), none, []⟩,
             ⟨some 60, .mv (.tmp 59), none, []⟩,
             ⟨some 61, .fad 1 (.tmp 1), (some (some 60, false)), []⟩,
             ⟨some 62, .load1 (.tmp 61), (some (some 60, false)), []⟩,
             ⟨some 63, .mv (.tmp 4), (some (some 60, false)), []⟩,
             ⟨some 64, .iadS 2 (.tmp 62) (.tmp 63), (some (some 60, false)), []⟩,
             ⟨some 65, .fad 0 (.tmp 64), (some (some 60, false)), []⟩,
             ⟨some 66, .load1 (.tmp 65), (some (some 60, false)), []⟩,
             ⟨some 67, .bin .lss (.tmp 66) (.const (.int .i64 0)), (some (some 60, false)), []⟩,
             ⟨some 68, .pick (.tmp 60) (.const (.bool true)) (.tmp 67), none, []⟩,
             ⟨some 69, .mv (.tmp 68), none, []⟩,
             ⟨some 70, .fad 1 (.tmp 1), (some (some 69, false)), []⟩,
             ⟨some 71, .load1 (.tmp 70), (some (some 69, false)), []⟩,
             ⟨some 72, .mv (.tmp 4), (some (some 69, false)), []⟩,
             ⟨some 73, .iadS 2 (.tmp 71) (.tmp 72), (some (some 69, false)), []⟩,
             ⟨some 74, .fad 1 (.tmp 73), (some (some 69, false)), []⟩,
             ⟨some 75, .load1 (.tmp 74), (some (some 69, false)), []⟩,
             ⟨some 76, .bin .gtr (.tmp 75) (.const (.int .i64 2000)), (some (some 69, false)), []⟩,
             ⟨some 77, .pick (.tmp 69) (.const (.bool true)) (.tmp 76), none, []⟩] [53, 54, 55, 56, 57, 58, 59, 60, 61, 62, 63, 64, 65, 66, 67, 68, 69, 70, 71, 72, 73, 74, 75, 76])
          (.cond (.tmp 77)
            (.seq
             (.region false [⟨some 2, .mv (.const (.int .i64 122)), none, []⟩] [])
            .ret)
            .skip)))
       (.region false [⟨some 51, .mv (.tmp 4), none, []⟩,
         ⟨some 52, .bin .add (.tmp 51) (.const (.int .i64 1)), none, []⟩,
         ⟨some 4, .mv (.tmp 52), none, []⟩] [51, 52]))))))
  (.seq
   (.region false [⟨some 2, .mv (.const (.int .i64 0)), none, []⟩] [])
  .ret)))))
set_option maxRecDepth 100000 in
theorem kref12_CheckCase : IsCode Try.prog 92 78 cref12_CheckCase [.tmp 2] :=
  ⟨Try.f92, _, [77, 50, 45, 19, 14, 0, 1, 3, 4, 2], Try.func92, rfl, by decide, rfl, by kernel_rfl, by kernel_rfl⟩
/-- ref12_CheckClaim -/
def cref12_CheckClaim : ACode :=
  (.seq
   (.region false [⟨some 3, .box (.tmp 0), none, []⟩,
     ⟨some 6, .mv (.const (.int .i64 0)), none, []⟩] [])
  (.seq
   (.region false [⟨some 8, .loadN 2 (.tmp 3), none, []⟩,
     ⟨some 9, .call (.func 92) [(.tmp 8)], none, []⟩,
     ⟨some 7, .mv (.tmp 9), none, []⟩] [8, 9])
  (.seq
   (.seq
    (.region false [⟨some 10, .mv (.tmp 7), none, []⟩,
      ⟨some 11, .bin .neq (.tmp 10) (.const (.int .i64 0)), none, []⟩] [10])
   (.cond (.tmp 11)
     (.seq
      (.region false [⟨some 12, .mv (.tmp 7), none, []⟩,
        ⟨some 6, .mv (.tmp 12), none, []⟩] [12])
     .ret)
     .skip))
  (.seq
   (.seq
    (.region false [⟨some 13, .mv (.tmp 1), none, []⟩,
      ⟨some 14, .fad 0 (.tmp 3), none, []⟩,
      ⟨some 15, .load1 (.tmp 14), none, []⟩,
      ⟨some 16, .len_ (.tmp 15), none, []⟩,
      ⟨some 17, .bin .sub (.tmp 16) (.const (.int .i64 1)), none, []⟩,
      ⟨some 18, .call (.func 79) [(.tmp 13), (.const (.int .i64 0)), (.tmp 17)], none, []⟩,
      ⟨some 19, .un .not (.tmp 18), none, []⟩,
      ⟨some 20, .mv (.tmp 19), none, []⟩,
      ⟨some 21, .mv (.tmp 2), (some (some 20, false)), []⟩,
      ⟨some 22, .call (.func 79) [(.tmp 21), (.const (.int .i64 0)), (.const (.int .i64 2000))], (some (some 20, false)), []⟩,
      ⟨some 23, .un .not (.tmp 22), (some (some 20, false)), []⟩,
      ⟨some 24, .pick (.tmp 20) (.const (.bool true)) (.tmp 23), none, []⟩] [13, 14, 15, 16, 17, 18, 19, 20, 21, 22, 23])
   (.cond (.tmp 24)
     (.seq
      (.region false [⟨some 6, .mv (.const (.int .i64 1)), none, []⟩] [])
     .ret)
     .skip))
  (.seq
   (.region false [⟨some 6, .mv (.const (.int .i64 0)), none, []⟩] [])
  .ret)))))
set_option maxRecDepth 100000 in
theorem kref12_CheckClaim : IsCode Try.prog 43 25 cref12_CheckClaim [.tmp 6] :=
  ⟨Try.f43, _, [24, 11, 0, 3, 7, 1, 2, 6], Try.func43, rfl, by decide, rfl, by kernel_rfl, by kernel_rfl⟩
/-- ref12_Counts -/
def cref12_Counts : ACode :=
  (.seq
   (.region false [⟨some 2, .box (.tmp 0), none, []⟩,
     ⟨some 4, .mv (.const (.slice none 0 0)), none, []⟩] [])
  (.seq
   (.region false [⟨some 7, .fad 1 (.tmp 2), none, []⟩,
     ⟨some 8, .load1 (.tmp 7), none, []⟩,
     ⟨some 9, .len_ (.tmp 8), none, []⟩,
     ⟨some 10, .mksl 1 1 [(.val (.bool false))] (.tmp 9) (.tmp 9), none, []⟩,
     ⟨some 5, .mv (.tmp 10), none, []⟩] [7, 8, 9, 10])
  (.seq
   (.seq
    (.region false [⟨some 6, .mv (.const (.int .i64 0)), none, []⟩] [])
   (.block 0
     (.loop
       (.seq
        (.seq
         (.region false [⟨some 11, .mv (.tmp 6), none, []⟩,
           ⟨some 12, .mv (.tmp 5), none, []⟩,
           ⟨some 13, .len_ (.tmp 12), none, []⟩,
           ⟨some 14, .bin .lss (.tmp 11) (.tmp 13), none, []⟩] [11, 12, 13])
        (.cond (.tmp 14)
          .skip
          (.exit 0)))
       (.seq
        (.block 1
          (.region true [⟨some 17, .mv (.tmp 5), none, []⟩,
            ⟨some 18, .mv (.tmp 6), none, []⟩,
            ⟨some 19, .mv (.tmp 1), none, []⟩,
            ⟨some 20, .fad 1 (.tmp 2), none, []⟩,
            ⟨some 21, .load1 (.tmp 20), none, [3]⟩,
            ⟨some 22, .mv (.tmp 6), none, []⟩,
            ⟨some 23, .iadS 2 (.tmp 21) (.tmp 22), none, [4, 3, 5]⟩,
            ⟨some 24, .fad 0 (.tmp 23), none, [6, 4, 3, 5]⟩,
            ⟨some 25, .load1 (.tmp 24), none, [7, 6, 4, 3, 5]⟩,
            ⟨some 26, .fad 1 (.tmp 2), none, []⟩,
            ⟨some 27, .load1 (.tmp 26), none, [9]⟩,
            ⟨some 28, .mv (.tmp 6), none, []⟩,
            ⟨some 29, .iadS 2 (.tmp 27) (.tmp 28), none, [10, 9, 11]⟩,
            ⟨some 30, .fad 1 (.tmp 29), none, [12, 10, 9, 11]⟩,
            ⟨some 31, .load1 (.tmp 30), none, [13, 12, 10, 9, 11]⟩,
            ⟨some 32, .call (.func 79) [(.tmp 19), (.tmp 25), (.tmp 31)], none, [2, 8, 7, 6, 4, 3, 5, 14, 13, 12, 10, 9, 11]⟩,
            ⟨some 33, .iadS 1 (.tmp 17) (.tmp 18), none, [0, 1, 2, 3, 4, 5, 6, 7, 8, 9, 10, 11, 12, 13, 14, 15]⟩,
            ⟨none, .store 1 (.tmp 33) (.tmp 32), none, [16, 0, 1, 2, 3, 4, 5, 6, 7, 8, 9, 10, 11, 12, 13, 14, 15]⟩] [17, 18, 19, 20, 21, 22, 23, 24, 25, 26, 27, 28, 29, 30, 31, 32, 33]))
       (.region false [⟨some 15, .mv (.tmp 6), none, []⟩,
         ⟨some 16, .bin .add (.tmp 15) (.const (.int .i64 1)), none, []⟩,
         ⟨some 6, .mv (.tmp 16), none, []⟩] [15, 16]))))))
  (.seq
   (.region false [⟨some 34, .mv (.tmp 5), none, []⟩,
     ⟨some 4, .mv (.tmp 34), none, []⟩] [34])
  .ret))))
set_option maxRecDepth 100000 in
theorem kref12_Counts : IsCode Try.prog 86 35 cref12_Counts [.tmp 4] :=
  ⟨Try.f86, _, [14, 0, 2, 6, 5, 1, 4], Try.func86, rfl, by decide, rfl, by kernel_rfl, by kernel_rfl⟩
/-- ref12_holds -/
def cref12_holds : ACode :=
  (.seq
   (.region false [⟨some 3, .box (.tmp 0), none, []⟩,
     ⟨some 6, .mv (.const (.bool false)), none, []⟩] [])
  (.seq
   (.region false [⟨some 14, .mv (.tmp 1), none, []⟩,
     ⟨some 15, .bin .add (.tmp 14) (.const (.int .i64 1)), none, []⟩,
     ⟨some 16, .mksl 1 1 [(.val (.bool false))] (.tmp 15) (.tmp 15), none, []⟩,
     ⟨some 7, .mv (.tmp 16), none, []⟩] [14, 15, 16])
  (.seq
   (.seq
    (.region false [⟨some 8, .mv (.const (.int .i64 0)), none, []⟩] [])
   (.block 0
     (.loop
       (.seq
        (.seq
         (.region false [⟨some 17, .mv (.tmp 8), none, []⟩,
           ⟨some 18, .mv (.tmp 1), none, []⟩,
           ⟨some 19, .bin .leq (.tmp 17) (.tmp 18), none, []⟩] [17, 18])
        (.cond (.tmp 19)
          .skip
          (.exit 0)))
       (.seq
        (.block 1
          (.seq
           (.region false [⟨some 22, .fad 0 (.tmp 3), none, []⟩,
             ⟨some 23, .load1 (.tmp 22), none, []⟩,
             ⟨some 24, .mv (.tmp 8), none, []⟩,
             ⟨some 25, .iadS 3 (.tmp 23) (.tmp 24), none, []⟩,
             ⟨some 26, .loadN 3 (.tmp 25), none, []⟩,
             ⟨some 9, .mem [(.val (.slice none 0 0)), (.val (.slice none 0 0)), (.val (.bool false))], none, []⟩,
             ⟨none, .store 3 (.tmp 9) (.tmp 26), none, []⟩] [22, 23, 24, 25, 26])
          (.seq
           (.region false [⟨some 10, .mv (.const (.bool true)), none, []⟩,
             ⟨some 11, .mv (.const (.bool false)), none, []⟩] [])
          (.seq
           (.seq
            (.region false [⟨some 12, .mv (.const (.int .i64 0)), none, []⟩] [])
           (.block 2
             (.loop
               (.seq
                (.seq
                 (.region false [⟨some 27, .mv (.tmp 12), none, []⟩,
                   ⟨some 28, .fad 0 (.tmp 9), none, []⟩,
                   ⟨some 29, .load1 (.tmp 28), none, []⟩,
                   ⟨some 30, .len_ (.tmp 29), none, []⟩,
                   ⟨some 31, .bin .lss (.tmp 27) (.tmp 30), none, []⟩] [27, 28, 29, 30])
                (.cond (.tmp 31)
                  .skip
                  (.exit 2)))
               (.seq
                (.block 3
                  (.seq
                   (.region false [⟨some 34, .mv (.tmp 10), none, []⟩,
                     ⟨some 35, .mv (.tmp 34), none, []⟩,
                     ⟨some 36, .mv (.tmp 7), (some (some 35, true)), []⟩,
                     ⟨some 37, .fad 0 (.tmp 9), (some (some 35, true)), []⟩,
                     ⟨some 38, .load1 (.tmp 37), (some (some 35, true)), []⟩,
                     ⟨some 39, .mv (.tmp 12), (some (some 35, true)), []⟩,
                     ⟨some 40, .iadS 1 (.tmp 38) (.tmp 39), (some (some 35, true)), []⟩,
                     ⟨some 41, .load1 (.tmp 40), (some (some 35, true)), []⟩,
                     ⟨some 42, .iadS 1 (.tmp 36) (.tmp 41), (some (some 35, true)), []⟩,
                     ⟨some 43, .load1 (.tmp 42), (some (some 35, true)), []⟩,
                     ⟨some 44, .pick (.tmp 35) (.tmp 43) (.const (.bool false)), none, []⟩,
                     ⟨some 10, .mv (.tmp 44), none, []⟩] [34, 35, 36, 37, 38, 39, 40, 41, 42, 43, 44])
                  (.region false [⟨some 45, .mv (.tmp 11), none, []⟩,
                    ⟨some 46, .mv (.tmp 45), none, []⟩,
                    ⟨some 47, .mv (.tmp 7), (some (some 46, false)), []⟩,
                    ⟨some 48, .fad 0 (.tmp 9), (some (some 46, false)), []⟩,
                    ⟨some 49, .load1 (.tmp 48), (some (some 46, false)), []⟩,
                    ⟨some 50, .mv (.tmp 12), (some (some 46, false)), []⟩,
                    ⟨some 51, .iadS 1 (.tmp 49) (.tmp 50), (some (some 46, false)), []⟩,
                    ⟨some 52, .load1 (.tmp 51), (some (some 46, false)), []⟩,
                    ⟨some 53, .iadS 1 (.tmp 47) (.tmp 52), (some (some 46, false)), []⟩,
                    ⟨some 54, .load1 (.tmp 53), (some (some 46, false)), []⟩,
                    ⟨some 55, .pick (.tmp 46) (.const (.bool true)) (.tmp 54), none, []⟩,
                    ⟨some 11, .mv (.tmp 55), none, []⟩] [45, 46, 47, 48, 49, 50, 51, 52, 53, 54, 55])))
               (.region false [⟨some 32, .mv (.tmp 12), none, []⟩,
                 ⟨some 33, .bin .add (.tmp 32) (.const (.int .i64 1)), none, []⟩,
                 ⟨some 12, .mv (.tmp 33), none, []⟩] [32, 33]))))))
          (.seq
           (.seq
            (.region false [⟨some 13, .mv (.const (.int .i64 0)), none, []⟩] [])
           (.block 4
             (.loop
               (.seq
                (.seq
                 (.region false [⟨some 56, .mv (.tmp 13), none, []⟩,
                   ⟨some 57, .fad 1 (.tmp 9), none, []⟩,
                   ⟨some 58, .load1 (.tmp 57), none, []⟩,
                   ⟨some 59, .len_ (.tmp 58), none, []⟩,
                   ⟨some 60, .bin .lss (.tmp 56) (.tmp 59), none, []⟩] [56, 57, 58, 59])
                (.cond (.tmp 60)
                  .skip
                  (.exit 4)))
               (.seq
                (.block 5
                  (.seq
                   (.region false [⟨some 63, .mv (.tmp 10), none, []⟩,
                     ⟨some 64, .mv (.tmp 63), none, []⟩,
                     ⟨some 65, .mv (.tmp 2), (some (some 64, true)), []⟩,
                     ⟨some 66, .fad 1 (.tmp 9), (some (some 64, true)), []⟩,
                     ⟨some 67, .load1 (.tmp 66), (some (some 64, true)), []⟩,
                     ⟨some 68, .mv (.tmp 13), (some (some 64, true)), []⟩,
                     ⟨some 69, .iadS 1 (.tmp 67) (.tmp 68), (some (some 64, true)), []⟩,
                     ⟨some 70, .load1 (.tmp 69), (some (some 64, true)), []⟩,
                     ⟨some 71, .iadS 1 (.tmp 65) (.tmp 70), (some (some 64, true)), []⟩,
                     ⟨some 72, .load1 (.tmp 71), (some (some 64, true)), []⟩,
                     ⟨some 73, .pick (.tmp 64) (.tmp 72) (.const (.bool false)), none, []⟩,
                     ⟨some 10, .mv (.tmp 73), none, []⟩] [63, 64, 65, 66, 67, 68, 69, 70, 71, 72, 73])
                  (.region false [⟨some 74, .mv (.tmp 11), none, []⟩,
                    ⟨some 75, .mv (.tmp 74), none, []⟩,
                    ⟨some 76, .mv (.tmp 2), (some (some 75, false)), []⟩,
                    ⟨some 77, .fad 1 (.tmp 9), (some (some 75, false)), []⟩,
                    ⟨some 78, .load1 (.tmp 77), (some (some 75, false)), []⟩,
                    ⟨some 79, .mv (.tmp 13), (some (some 75, false)), []⟩,
                    ⟨some 80, .iadS 1 (.tmp 78) (.tmp 79), (some (some 75, false)), []⟩,
                    ⟨some 81, .load1 (.tmp 80), (some (some 75, false)), []⟩,
                    ⟨some 82, .iadS 1 (.tmp 76) (.tmp 81), (some (some 75, false)), []⟩,
                    ⟨some 83, .load1 (.tmp 82), (some (some 75, false)), []⟩,
                    ⟨some 84, .pick (.tmp 75) (.const (.bool true)) (.tmp 83), none, []⟩,
                    ⟨some 11, .mv (.tmp 84), none, []⟩] [74, 75, 76, 77, 78, 79, 80, 81, 82, 83, 84])))
               (.region false [⟨some 61, .mv (.tmp 13), none, []⟩,
                 ⟨some 62, .bin .add (.tmp 61) (.const (.int .i64 1)), none, []⟩,
                 ⟨some 13, .mv (.tmp 62), none, []⟩] [61, 62]))))))
          (.seq
           (.region false [⟨some 85, .mv (.tmp 7), none, []⟩,
             ⟨some 86, .mv (.tmp 8), none, []⟩,
             ⟨some 87, .mv (.tmp 10), none, []⟩,
             ⟨some 88, .iadS 1 (.tmp 85) (.tmp 86), none, []⟩,
             ⟨none, .store 1 (.tmp 88) (.tmp 87), none, []⟩] [85, 86, 87, 88])
          (.seq
           (.region false [⟨some 89, .fad 2 (.tmp 9), none, []⟩,
             ⟨some 90, .load1 (.tmp 89), none, []⟩] [89])
          (.cond (.tmp 90)
            (.region false [⟨some 91, .mv (.tmp 7), none, []⟩,
              ⟨some 92, .mv (.tmp 8), none, []⟩,
              ⟨some 93, .mv (.tmp 11), none, []⟩,
              ⟨some 94, .iadS 1 (.tmp 91) (.tmp 92), none, []⟩,
              ⟨none, .store 1 (.tmp 94) (.tmp 93), none, []⟩] [91, 92, 93, 94])
            .skip))))))))
       (.region false [⟨some 20, .mv (.tmp 8), none, []⟩,
         ⟨some 21, .bin .add (.tmp 20) (.const (.int .i64 1)), none, []⟩,
         ⟨some 8, .mv (.tmp 21), none, []⟩] [20, 21]))))))
  (.seq
   (.region false [⟨some 95, .mv (.tmp 7), none, []⟩,
     ⟨some 96, .mv (.tmp 1), none, []⟩,
     ⟨some 97, .iadS 1 (.tmp 95) (.tmp 96), none, []⟩,
     ⟨some 98, .load1 (.tmp 97), none, []⟩,
     ⟨some 6, .mv (.tmp 98), none, []⟩] [95, 96, 97, 98])
  .ret))))
set_option maxRecDepth 100000 in
theorem kref12_holds : IsCode Try.prog 85 99 cref12_holds [.tmp 6] :=
  ⟨Try.f85, _, [90, 60, 31, 19, 0, 1, 8, 3, 12, 9, 10, 7, 11, 13, 2, 6], Try.func85, rfl, by decide, rfl, by kernel_rfl, by kernel_rfl⟩
/-- ref12_Holds -/
def cref12_Holds : ACode :=
  (.seq
   (.region false [⟨some 3, .box (.tmp 0), none, []⟩,
     ⟨some 6, .mv (.const (.bool false)), none, []⟩,
     ⟨some 7, .mv (.const (.int .i64 0)), none, []⟩] [])
  (.seq
   (.region false [⟨some 9, .loadN 2 (.tmp 3), none, []⟩,
     ⟨some 10, .mv (.tmp 1), none, []⟩,
     ⟨some 11, .mv (.tmp 2), none, []⟩,
     ⟨some 12, .call (.func 43) [(.tmp 9), (.tmp 10), (.tmp 11)], none, []⟩,
     ⟨some 8, .mv (.tmp 12), none, []⟩] [9, 10, 11, 12])
  (.seq
   (.seq
    (.region false [⟨some 13, .mv (.tmp 8), none, []⟩,
      ⟨some 14, .bin .neq (.tmp 13) (.const (.int .i64 0)), none, []⟩] [13])
   (.cond (.tmp 14)
     (.seq
      (.region false [⟨some 15, .mv (.tmp 8), none, []⟩,
        ⟨some 6, .mv (.const (.bool false)), none, []⟩,
        ⟨some 7, .mv (.tmp 15), none, []⟩] [15])
     .ret)
     .skip))
  (.seq
   (.region true [⟨some 16, .loadN 2 (.tmp 3), none, []⟩,
     ⟨some 17, .mv (.tmp 1), none, []⟩,
     ⟨some 18, .loadN 2 (.tmp 3), none, []⟩,
     ⟨some 19, .mv (.tmp 2), none, []⟩,
     ⟨some 20, .call (.func 86) [(.tmp 18), (.tmp 19)], none, [2, 3]⟩,
     ⟨some 21, .call (.func 85) [(.tmp 16), (.tmp 17), (.tmp 20)], none, [0, 1, 4, 2, 3]⟩,
     ⟨some 6, .mv (.tmp 21), none, [5, 0, 1, 4, 2, 3]⟩,
     ⟨some 7, .mv (.const (.int .i64 0)), none, [6, 5, 0, 1, 4, 2, 3]⟩] [16, 17, 18, 19, 20, 21])
  .ret))))
set_option maxRecDepth 100000 in
theorem kref12_Holds : IsCode Try.prog 36 22 cref12_Holds [.tmp 6, .tmp 7] :=
  ⟨Try.f36, _, [14, 0, 3, 1, 2, 8, 6, 7], Try.func36, rfl, by decide, rfl, by kernel_rfl, by kernel_rfl⟩
/-- ref12_Until -/
def cref12_Until : ACode :=
  (.seq
   (.region false [⟨some 3, .box (.tmp 0), none, []⟩,
     ⟨some 6, .mv (.const (.int .i64 0)), none, []⟩,
     ⟨some 7, .mv (.const (.int .i64 0)), none, []⟩] [])
  (.seq
   (.region false [⟨some 10, .loadN 2 (.tmp 3), none, []⟩,
     ⟨some 11, .mv (.tmp 1), none, []⟩,
     ⟨some 12, .mv (.tmp 2), none, []⟩,
     ⟨some 13, .call (.func 43) [(.tmp 10), (.tmp 11), (.tmp 12)], none, []⟩,
     ⟨some 8, .mv (.tmp 13), none, []⟩] [10, 11, 12, 13])
  (.seq
   (.seq
    (.region false [⟨some 14, .mv (.tmp 8), none, []⟩,
      ⟨some 15, .bin .neq (.tmp 14) (.const (.int .i64 0)), none, []⟩] [14])
   (.cond (.tmp 15)
     (.seq
      (.region false [⟨some 16, .mv (.tmp 8), none, []⟩,
        ⟨some 6, .mv (.const (.int .i64 0)), none, []⟩,
        ⟨some 7, .mv (.tmp 16), none, []⟩] [16])
     .ret)
     .skip))
  (.seq
   (.region false [⟨some 17, .mv (.tmp 2), none, []⟩,
     ⟨some 9, .mv (.tmp 17), none, []⟩] [17])
  (.seq
   (.block 0
     (.loop
       (.seq
        (.seq
         (.region true [⟨some 18, .mv (.tmp 9), none, []⟩,
           ⟨some 19, .bin .leq (.tmp 18) (.const (.int .i64 2000)), none, [0]⟩,
           ⟨some 20, .mv (.tmp 19), none, [1, 0]⟩,
           ⟨some 21, .loadN 2 (.tmp 3), (some (some 20, true)), [2, 1, 0]⟩,
           ⟨some 22, .mv (.tmp 1), (some (some 20, true)), [2, 1, 0]⟩,
           ⟨some 23, .loadN 2 (.tmp 3), (some (some 20, true)), [2, 1, 0]⟩,
           ⟨some 24, .mv (.tmp 9), (some (some 20, true)), [2, 1, 0]⟩,
           ⟨some 25, .call (.func 86) [(.tmp 23), (.tmp 24)], (some (some 20, true)), [5, 2, 1, 0, 6]⟩,
           ⟨some 26, .call (.func 85) [(.tmp 21), (.tmp 22), (.tmp 25)], (some (some 20, true)), [3, 2, 1, 0, 4, 7, 5, 6]⟩,
           ⟨some 27, .pick (.tmp 20) (.tmp 26) (.const (.bool false)), none, [2, 1, 0, 8, 3, 4, 7, 5, 6]⟩] [18, 19, 20, 21, 22, 23, 24, 25, 26])
        (.cond (.tmp 27)
          .skip
          (.exit 0)))
       (.block 1
         (.region false [⟨some 28, .mv (.tmp 9), none, []⟩,
           ⟨some 29, .bin .add (.tmp 28) (.const (.int .i64 1)), none, []⟩,
           ⟨some 9, .mv (.tmp 29), none, []⟩] [28, 29])))))
  (.seq
   (.seq
    (.region false [⟨some 30, .mv (.tmp 9), none, []⟩,
      ⟨some 31, .mv (.tmp 2), none, []⟩,
      ⟨some 32, .bin .eql (.tmp 30) (.tmp 31), none, []⟩] [30, 31])
   (.cond (.tmp 32)
     (.seq
      (.region false [⟨some 6, .mv (.const (.int .i64 0)), none, []⟩,
        ⟨some 7, .mv (.const (.int .i64 3)), none, []⟩] [])
     .ret)
     .skip))
  (.seq
   (.region false [⟨some 33, .mv (.tmp 9), none, []⟩,
     ⟨some 34, .bin .sub (.tmp 33) (.const (.int .i64 1)), none, []⟩,
     ⟨some 6, .mv (.tmp 34), none, []⟩,
     ⟨some 7, .mv (.const (.int .i64 0)), none, []⟩] [33, 34])
  .ret)))))))
set_option maxRecDepth 100000 in
theorem kref12_Until : IsCode Try.prog 38 35 cref12_Until [.tmp 6, .tmp 7] :=
  ⟨Try.f38, _, [32, 27, 15, 0, 3, 1, 2, 8, 9, 6, 7], Try.func38, rfl, by decide, rfl, by kernel_rfl, by kernel_rfl⟩
/-- ref12_Weak -/
def cref12_Weak : ACode :=
  (.seq
   (.region false [⟨some 3, .box (.tmp 0), none, []⟩,
     ⟨some 6, .mv (.const (.slice none 0 0)), none, []⟩,
     ⟨some 7, .mv (.const (.int .i64 0)), none, []⟩] [])
  (.seq
   (.region false [⟨some 14, .loadN 2 (.tmp 3), none, []⟩,
     ⟨some 15, .mv (.tmp 1), none, []⟩,
     ⟨some 16, .mv (.tmp 2), none, []⟩,
     ⟨some 17, .call (.func 36) [(.tmp 14), (.tmp 15), (.tmp 16)], none, []⟩,
     ⟨some 13, .mv (.tmp 17), none, []⟩,
     ⟨some 18, .ext (.tmp 13) 0, none, []⟩,
     ⟨some 19, .ext (.tmp 13) 1, none, []⟩,
     ⟨some 8, .mv (.tmp 18), none, []⟩,
     ⟨some 9, .mv (.tmp 19), none, []⟩] [14, 15, 16, 17, 13, 18, 19])
  (.seq
   (.seq
    (.region false [⟨some 20, .mv (.tmp 9), none, []⟩,
      ⟨some 21, .bin .neq (.tmp 20) (.const (.int .i64 0)), none, []⟩] [20])
   (.cond (.tmp 21)
     (.seq
      (.region false [⟨some 22, .mv (.tmp 9), none, []⟩,
        ⟨some 6, .mv (.const (.slice none 0 0)), none, []⟩,
        ⟨some 7, .mv (.tmp 22), none, []⟩] [22])
     .ret)
     .skip))
  (.seq
   (.seq
    (.region false [⟨some 23, .mv (.tmp 8), none, []⟩,
      ⟨some 24, .un .not (.tmp 23), none, []⟩] [23])
   (.cond (.tmp 24)
     (.seq
      (.region false [⟨some 6, .mv (.const (.slice none 0 0)), none, []⟩,
        ⟨some 7, .mv (.const (.int .i64 3)), none, []⟩] [])
     .ret)
     .skip))
  (.seq
   (.region false [⟨some 10, .mv (.const (.slice none 0 0)), none, []⟩] [])
  (.seq
   (.seq
    (.region false [⟨some 11, .mv (.const (.int .i64 0)), none, []⟩] [])
   (.block 0
     (.loop
       (.seq
        (.seq
         (.region false [⟨some 25, .mv (.tmp 11), none, []⟩,
           ⟨some 26, .fad 1 (.tmp 3), none, []⟩,
           ⟨some 27, .load1 (.tmp 26), none, []⟩,
           ⟨some 28, .len_ (.tmp 27), none, []⟩,
           ⟨some 29, .bin .lss (.tmp 25) (.tmp 28), none, []⟩] [25, 26, 27, 28])
        (.cond (.tmp 29)
          .skip
          (.exit 0)))
       (.seq
        (.block 1
          (.seq
           (.region false [⟨some 32, .loadN 2 (.tmp 3), none, []⟩,
             ⟨some 33, .mv (.tmp 2), none, []⟩,
             ⟨some 34, .call (.func 86) [(.tmp 32), (.tmp 33)], none, []⟩,
             ⟨some 12, .mv (.tmp 34), none, []⟩] [32, 33, 34])
          (.seq
           (.region false [⟨some 35, .mv (.tmp 12), none, []⟩,
             ⟨some 36, .mv (.tmp 11), none, []⟩,
             ⟨some 37, .iadS 1 (.tmp 35) (.tmp 36), none, []⟩,
             ⟨none, .store 1 (.tmp 37) (.const (.bool false)), none, []⟩] [35, 36, 37])
          (.seq
           (.region false [⟨some 38, .loadN 2 (.tmp 3), none, []⟩,
             ⟨some 39, .mv (.tmp 1), none, []⟩,
             ⟨some 40, .mv (.tmp 12), none, []⟩,
             ⟨some 41, .call (.func 85) [(.tmp 38), (.tmp 39), (.tmp 40)], none, []⟩,
             ⟨some 42, .un .not (.tmp 41), none, []⟩] [38, 39, 40, 41])
          (.cond (.tmp 42)
            (.region false [⟨some 43, .mv (.tmp 10), none, []⟩,
              ⟨some 44, .mv (.tmp 11), none, []⟩,
              ⟨some 45, .buildSl 1 1 [(.val (.int .i64 0))] [(0, 1, (.tmp 44))], none, []⟩,
              ⟨some 46, .app 1 8 (.tmp 43) (.tmp 45), none, []⟩,
              ⟨some 10, .mv (.tmp 46), none, []⟩] [43, 44, 45, 46])
            .skip)))))
       (.region false [⟨some 30, .mv (.tmp 11), none, []⟩,
         ⟨some 31, .bin .add (.tmp 30) (.const (.int .i64 1)), none, []⟩,
         ⟨some 11, .mv (.tmp 31), none, []⟩] [30, 31]))))))
  (.seq
   (.region false [⟨some 47, .mv (.tmp 10), none, []⟩,
     ⟨some 6, .mv (.tmp 47), none, []⟩,
     ⟨some 7, .mv (.const (.int .i64 0)), none, []⟩] [47])
  .ret)))))))
set_option maxRecDepth 100000 in
theorem kref12_Weak : IsCode Try.prog 40 48 cref12_Weak [.tmp 6, .tmp 7] :=
  ⟨Try.f40, _, [42, 29, 24, 21, 0, 3, 1, 2, 9, 8, 11, 12, 10, 6, 7], Try.func40, rfl, by decide, rfl, by kernel_rfl, by kernel_rfl⟩
/-- ref12_before -/
def cref12_before : ACode :=
  (.seq
   (.region false [⟨some 4, .mv (.const (.bool false)), none, []⟩] [])
  (.seq
   (.seq
    (.region false [⟨some 6, .mv (.tmp 0), none, []⟩,
      ⟨some 7, .len_ (.tmp 6), none, []⟩,
      ⟨some 8, .mv (.tmp 1), none, []⟩,
      ⟨some 9, .len_ (.tmp 8), none, []⟩,
      ⟨some 10, .bin .neq (.tmp 7) (.tmp 9), none, []⟩] [6, 7, 8, 9])
   (.cond (.tmp 10)
     (.seq
      (.region false [⟨some 11, .mv (.tmp 0), none, []⟩,
        ⟨some 12, .len_ (.tmp 11), none, []⟩,
        ⟨some 13, .mv (.tmp 1), none, []⟩,
        ⟨some 14, .len_ (.tmp 13), none, []⟩,
        ⟨some 15, .bin .lss (.tmp 12) (.tmp 14), none, []⟩,
        ⟨some 4, .mv (.tmp 15), none, []⟩] [11, 12, 13, 14, 15])
     .ret)
     .skip))
  (.seq
   (.seq
    (.region false [⟨some 5, .mv (.const (.int .i64 0)), none, []⟩] [])
   (.block 0
     (.loop
       (.seq
        (.seq
         (.region false [⟨some 16, .mv (.tmp 5), none, []⟩,
           ⟨some 17, .mv (.tmp 0), none, []⟩,
           ⟨some 18, .len_ (.tmp 17), none, []⟩,
           ⟨some 19, .bin .lss (.tmp 16) (.tmp 18), none, []⟩] [16, 17, 18])
        (.cond (.tmp 19)
          .skip
          (.exit 0)))
       (.seq
        (.block 1
          (.seq
           (.region true [⟨some 22, .mv (.tmp 0), none, []⟩,
             ⟨some 23, .mv (.tmp 5), none, []⟩,
             ⟨some 24, .iadS 1 (.tmp 22) (.tmp 23), none, [0, 1]⟩,
             ⟨some 25, .load1 (.tmp 24), none, [2, 0, 1]⟩,
             ⟨some 26, .mv (.tmp 1), none, []⟩,
             ⟨some 27, .mv (.tmp 5), none, []⟩,
             ⟨some 28, .iadS 1 (.tmp 26) (.tmp 27), none, [4, 5]⟩,
             ⟨some 29, .load1 (.tmp 28), none, [6, 4, 5]⟩,
             ⟨some 30, .bin .neq (.tmp 25) (.tmp 29), none, [3, 2, 0, 1, 7, 6, 4, 5]⟩] [22, 23, 24, 25, 26, 27, 28, 29])
          (.cond (.tmp 30)
            (.seq
             (.region true [⟨some 31, .mv (.tmp 0), none, []⟩,
               ⟨some 32, .mv (.tmp 5), none, []⟩,
               ⟨some 33, .iadS 1 (.tmp 31) (.tmp 32), none, [0, 1]⟩,
               ⟨some 34, .load1 (.tmp 33), none, [2, 0, 1]⟩,
               ⟨some 35, .mv (.tmp 1), none, []⟩,
               ⟨some 36, .mv (.tmp 5), none, []⟩,
               ⟨some 37, .iadS 1 (.tmp 35) (.tmp 36), none, [4, 5]⟩,
               ⟨some 38, .load1 (.tmp 37), none, [6, 4, 5]⟩,
               ⟨some 39, .bin .lss (.tmp 34) (.tmp 38), none, [3, 2, 0, 1, 7, 6, 4, 5]⟩,
               ⟨some 4, .mv (.tmp 39), none, [8, 3, 2, 0, 1, 7, 6, 4, 5]⟩] [31, 32, 33, 34, 35, 36, 37, 38, 39])
            .ret)
            .skip)))
       (.region false [⟨some 20, .mv (.tmp 5), none, []⟩,
         ⟨some 21, .bin .add (.tmp 20) (.const (.int .i64 1)), none, []⟩,
         ⟨some 5, .mv (.tmp 21), none, []⟩] [20, 21]))))))
  (.seq
   (.region false [⟨some 4, .mv (.const (.bool false)), none, []⟩] [])
  .ret))))
set_option maxRecDepth 100000 in
theorem kref12_before : IsCode Try.prog 91 40 cref12_before [.tmp 4] :=
  ⟨Try.f91, _, [30, 19, 10, 0, 1, 5, 4], Try.func91, rfl, by decide, rfl, by kernel_rfl, by kernel_rfl⟩
/-- ref12_Renew -/
def cref12_Renew : ACode :=
  (.seq
   (.region false [⟨some 3, .box (.tmp 0), none, []⟩,
     ⟨some 6, .mv (.const (.slice none 0 0)), none, []⟩,
     ⟨some 7, .mv (.const (.int .i64 0)), none, []⟩] [])
  (.seq
   (.region false [⟨some 15, .loadN 2 (.tmp 3), none, []⟩,
     ⟨some 16, .mv (.tmp 1), none, []⟩,
     ⟨some 17, .mv (.tmp 2), none, []⟩,
     ⟨some 18, .call (.func 43) [(.tmp 15), (.tmp 16), (.tmp 17)], none, []⟩,
     ⟨some 8, .mv (.tmp 18), none, []⟩] [15, 16, 17, 18])
  (.seq
   (.seq
    (.region false [⟨some 19, .mv (.tmp 8), none, []⟩,
      ⟨some 20, .bin .neq (.tmp 19) (.const (.int .i64 0)), none, []⟩] [19])
   (.cond (.tmp 20)
     (.seq
      (.region false [⟨some 21, .mv (.tmp 8), none, []⟩,
        ⟨some 6, .mv (.const (.slice none 0 0)), none, []⟩,
        ⟨some 7, .mv (.tmp 21), none, []⟩] [21])
     .ret)
     .skip))
  (.seq
   (.region false [⟨some 9, .mv (.const (.slice none 0 0)), none, []⟩] [])
  (.seq
   (.region false [⟨some 10, .mv (.const (.bool false)), none, []⟩] [])
  (.seq
   (.seq
    (.region false [⟨some 11, .mv (.const (.int .i64 0)), none, []⟩] [])
   (.block 0
     (.loop
       (.seq
        (.seq
         (.region false [⟨some 22, .mv (.tmp 11), none, []⟩,
           ⟨some 23, .fad 1 (.tmp 3), none, []⟩,
           ⟨some 24, .load1 (.tmp 23), none, []⟩,
           ⟨some 25, .len_ (.tmp 24), none, []⟩,
           ⟨some 26, .conv .u64 (.tmp 25), none, []⟩,
           ⟨some 27, .bin .shl (.const (.int .i64 1)) (.tmp 26), none, []⟩,
           ⟨some 28, .bin .lss (.tmp 22) (.tmp 27), none, []⟩] [22, 23, 24, 25, 26, 27])
        (.cond (.tmp 28)
          .skip
          (.exit 0)))
       (.seq
        (.block 1
          (.seq
           (.region false [⟨some 31, .loadN 2 (.tmp 3), none, []⟩,
             ⟨some 32, .mv (.tmp 2), none, []⟩,
             ⟨some 33, .call (.func 86) [(.tmp 31), (.tmp 32)], none, []⟩,
             ⟨some 12, .mv (.tmp 33), none, []⟩] [31, 32, 33])
          (.seq
           (.region false [⟨some 13, .mv (.const (.slice none 0 0)), none, []⟩] [])
          (.seq
           (.seq
            (.region false [⟨some 14, .mv (.const (.int .i64 0)), none, []⟩] [])
           (.block 2
             (.loop
               (.seq
                (.seq
                 (.region false [⟨some 34, .mv (.tmp 14), none, []⟩,
                   ⟨some 35, .mv (.tmp 12), none, []⟩,
                   ⟨some 36, .len_ (.tmp 35), none, []⟩,
                   ⟨some 37, .bin .lss (.tmp 34) (.tmp 36), none, []⟩] [34, 35, 36])
                (.cond (.tmp 37)
                  .skip
                  (.exit 2)))
               (.seq
                (.block 3
                  (.seq
                   (.region false [⟨some 40, .mv (.tmp 11), none, []⟩,
                     ⟨some 41, .mv (.tmp 14), none, []⟩,
                     ⟨some 42, .conv .u64 (.tmp 41), none, []⟩,
                     ⟨some 43, .bin .shr (.tmp 40) (.tmp 42), none, []⟩,
                     ⟨some 44, .bin .and (.tmp 43) (.const (.int .i64 1)), none, []⟩,
                     ⟨some 45, .bin .eql (.tmp 44) (.const (.int .i64 1)), none, []⟩,
                     ⟨some 46, .mv (.tmp 45), none, []⟩,
                     ⟨some 47, .mv (.tmp 12), (some (some 46, true)), []⟩,
                     ⟨some 48, .mv (.tmp 14), (some (some 46, true)), []⟩,
                     ⟨some 49, .iadS 1 (.tmp 47) (.tmp 48), (some (some 46, true)), []⟩,
                     ⟨some 50, .load1 (.tmp 49), (some (some 46, true)), []⟩,
                     ⟨some 51, .un .not (.tmp 50), (some (some 46, true)), []⟩,
                     ⟨some 52, .pick (.tmp 46) (.tmp 51) (.const (.bool false)), none, []⟩] [40, 41, 42, 43, 44, 45, 46, 47, 48, 49, 50, 51])
                  (.cond (.tmp 52)
                    (.seq
                     (.region false [⟨some 53, .mv (.tmp 13), none, []⟩,
                       ⟨some 54, .mv (.tmp 14), none, []⟩,
                       ⟨some 55, .buildSl 1 1 [(.val (.int .i64 0))] [(0, 1, (.tmp 54))], none, []⟩,
                       ⟨some 56, .app 1 8 (.tmp 53) (.tmp 55), none, []⟩,
                       ⟨some 13, .mv (.tmp 56), none, []⟩] [53, 54, 55, 56])
                    (.region false [⟨some 57, .mv (.tmp 12), none, []⟩,
                      ⟨some 58, .mv (.tmp 14), none, []⟩,
                      ⟨some 59, .iadS 1 (.tmp 57) (.tmp 58), none, []⟩,
                      ⟨none, .store 1 (.tmp 59) (.const (.bool true)), none, []⟩] [57, 58, 59]))
                    .skip)))
               (.region false [⟨some 38, .mv (.tmp 14), none, []⟩,
                 ⟨some 39, .bin .add (.tmp 38) (.const (.int .i64 1)), none, []⟩,
                 ⟨some 14, .mv (.tmp 39), none, []⟩] [38, 39]))))))
          (.seq
           (.region false [⟨some 60, .loadN 2 (.tmp 3), none, []⟩,
             ⟨some 61, .mv (.tmp 1), none, []⟩,
             ⟨some 62, .mv (.tmp 12), none, []⟩,
             ⟨some 63, .call (.func 85) [(.tmp 60), (.tmp 61), (.tmp 62)], none, []⟩,
             ⟨some 64, .mv (.tmp 63), none, []⟩,
             ⟨some 65, .mv (.tmp 10), (some (some 64, true)), []⟩,
             ⟨some 66, .un .not (.tmp 65), (some (some 64, true)), []⟩,
             ⟨some 67, .mv (.tmp 66), (some (some 64, true)), []⟩,
             ⟨some 68, .mv (.tmp 13), (some (some 67, false)), []⟩,
             ⟨some 69, .mv (.tmp 9), (some (some 67, false)), []⟩,
             ⟨some 70, .call (.func 91) [(.tmp 68), (.tmp 69)], (some (some 67, false)), []⟩,
             ⟨some 71, .pick (.tmp 67) (.const (.bool true)) (.tmp 70), (some (some 64, true)), []⟩,
             ⟨some 72, .pick (.tmp 64) (.tmp 71) (.const (.bool false)), none, []⟩] [60, 61, 62, 63, 64, 65, 66, 67, 68, 69, 70, 71])
          (.cond (.tmp 72)
            (.seq
             (.region false [⟨some 73, .mv (.tmp 13), none, []⟩,
               ⟨some 9, .mv (.tmp 73), none, []⟩] [73])
            (.region false [⟨some 10, .mv (.const (.bool true)), none, []⟩] []))
            .skip))))))
       (.region false [⟨some 29, .mv (.tmp 11), none, []⟩,
         ⟨some 30, .bin .add (.tmp 29) (.const (.int .i64 1)), none, []⟩,
         ⟨some 11, .mv (.tmp 30), none, []⟩] [29, 30]))))))
  (.seq
   (.seq
    (.region false [⟨some 74, .mv (.tmp 10), none, []⟩,
      ⟨some 75, .un .not (.tmp 74), none, []⟩] [74])
   (.cond (.tmp 75)
     (.seq
      (.region false [⟨some 6, .mv (.const (.slice none 0 0)), none, []⟩,
        ⟨some 7, .mv (.const (.int .i64 3)), none, []⟩] [])
     .ret)
     .skip))
  (.seq
   (.region false [⟨some 76, .mv (.tmp 9), none, []⟩,
     ⟨some 6, .mv (.tmp 76), none, []⟩,
     ⟨some 7, .mv (.const (.int .i64 0)), none, []⟩] [76])
  .ret))))))))
set_option maxRecDepth 100000 in
theorem kref12_Renew : IsCode Try.prog 42 77 cref12_Renew [.tmp 6, .tmp 7] :=
  ⟨Try.f42, _, [75, 72, 52, 37, 28, 20, 0, 3, 1, 2, 8, 11, 14, 12, 13, 10, 9, 6, 7], Try.func42, rfl, by decide, rfl, by kernel_rfl, by kernel_rfl⟩
/-- ref12_CopyCase -/
def cref12_CopyCase : ACode :=
  (.seq
   (.region false [⟨some 1, .box (.tmp 0), none, []⟩,
     ⟨some 2, .mem [(.val (.slice none 0 0)), (.val (.slice none 0 0))], none, []⟩] [])
  (.seq
   (.region false [⟨some 6, .buildSl 2 0 [] [], none, []⟩,
     ⟨some 7, .fad 1 (.tmp 1), none, []⟩,
     ⟨some 8, .load1 (.tmp 7), none, []⟩,
     ⟨some 9, .app 2 16 (.tmp 6) (.tmp 8), none, []⟩,
     ⟨some 10, .build [(.val (.slice none 0 0)), (.val (.slice none 0 0))] [(1, 1, (.tmp 9))], none, []⟩,
     ⟨some 3, .mem [(.val (.slice none 0 0)), (.val (.slice none 0 0))], none, []⟩,
     ⟨none, .store 2 (.tmp 3) (.tmp 10), none, []⟩] [6, 7, 8, 9, 10])
  (.seq
   (.seq
    (.region false [⟨some 4, .mv (.const (.int .i64 0)), none, []⟩] [])
   (.block 0
     (.loop
       (.seq
        (.seq
         (.region false [⟨some 11, .mv (.tmp 4), none, []⟩,
           ⟨some 12, .fad 0 (.tmp 1), none, []⟩,
           ⟨some 13, .load1 (.tmp 12), none, []⟩,
           ⟨some 14, .len_ (.tmp 13), none, []⟩,
           ⟨some 15, .bin .lss (.tmp 11) (.tmp 14), none, []⟩] [11, 12, 13, 14])
        (.cond (.tmp 15)
          .skip
          (.exit 0)))
       (.seq
        (.block 1
          (.seq
           (.region false [⟨some 18, .fad 0 (.tmp 1), none, []⟩,
             ⟨some 19, .load1 (.tmp 18), none, []⟩,
             ⟨some 20, .mv (.tmp 4), none, []⟩,
             ⟨some 21, .iadS 3 (.tmp 19) (.tmp 20), none, []⟩,
             ⟨some 22, .loadN 3 (.tmp 21), none, []⟩,
             ⟨some 5, .mem [(.val (.slice none 0 0)), (.val (.slice none 0 0)), (.val (.bool false))], none, []⟩,
             ⟨none, .store 3 (.tmp 5) (.tmp 22), none, []⟩] [18, 19, 20, 21, 22])
          (.region true [⟨some 23, .fad 0 (.tmp 3), none, []⟩,
            ⟨some 24, .load1 (.tmp 23), none, [0]⟩,
            ⟨some 25, .buildSl 1 0 [] [], none, []⟩,
            ⟨some 26, .fad 0 (.tmp 5), none, []⟩,
            ⟨some 27, .load1 (.tmp 26), none, [3]⟩,
            ⟨some 28, .app 1 8 (.tmp 25) (.tmp 27), none, [2, 4, 3]⟩,
            ⟨some 29, .buildSl 1 0 [] [], none, []⟩,
            ⟨some 30, .fad 1 (.tmp 5), none, []⟩,
            ⟨some 31, .load1 (.tmp 30), none, [7]⟩,
            ⟨some 32, .app 1 8 (.tmp 29) (.tmp 31), none, [6, 8, 7, 5, 2, 4, 3]⟩,
            ⟨some 33, .fad 2 (.tmp 5), none, []⟩,
            ⟨some 34, .load1 (.tmp 33), none, [10]⟩,
            ⟨some 35, .build [(.val (.slice none 0 0)), (.val (.slice none 0 0)), (.val (.bool false))] [(0, 1, (.tmp 28)), (1, 1, (.tmp 32)), (2, 1, (.tmp 34))], none, [5, 2, 4, 3, 9, 6, 8, 7, 11, 10]⟩,
            ⟨some 36, .buildSl 3 1 [(.val (.slice none 0 0)), (.val (.slice none 0 0)), (.val (.bool false))] [(0, 3, (.tmp 35))], none, [12, 5, 2, 4, 3, 9, 6, 8, 7, 11, 10]⟩,
            ⟨some 37, .app 3 56 (.tmp 24) (.tmp 36), none, [1, 0, 13, 12, 5, 2, 4, 3, 9, 6, 8, 7, 11, 10]⟩,
            ⟨some 38, .fad 0 (.tmp 3), none, [0, 1, 2, 3, 4, 5, 6, 7, 8, 9, 10, 11, 12, 13, 14]⟩,
            ⟨none, .store 1 (.tmp 38) (.tmp 37), none, [15, 0, 1, 2, 3, 4, 5, 6, 7, 8, 9, 10, 11, 12, 13, 14]⟩] [23, 24, 25, 26, 27, 28, 29, 30, 31, 32, 33, 34, 35, 36, 37, 38])))
       (.region false [⟨some 16, .mv (.tmp 4), none, []⟩,
         ⟨some 17, .bin .add (.tmp 16) (.const (.int .i64 1)), none, []⟩,
         ⟨some 4, .mv (.tmp 17), none, []⟩] [16, 17]))))))
  (.seq
   (.region false [⟨some 39, .loadN 2 (.tmp 3), none, []⟩,
     ⟨none, .store 2 (.tmp 2) (.tmp 39), none, []⟩] [39])
  .ret))))
set_option maxRecDepth 100000 in
theorem kref12_CopyCase : IsCode Try.prog 34 40 cref12_CopyCase [.cellN 2 2] :=
  ⟨Try.f34, _, [15, 0, 1, 4, 3, 5, 2], Try.func34, rfl, by decide, rfl, by kernel_rfl, by kernel_rfl⟩
/-- law12_FarCase -/
def claw12_FarCase : ACode :=
  (.seq
   (.region false [⟨some 1, .box (.tmp 0), none, []⟩,
     ⟨some 2, .mv (.const (.bool false)), none, []⟩] [])
  (.seq
   (.seq
    (.region false [⟨some 4, .fad 0 (.tmp 1), none, []⟩,
      ⟨some 5, .load1 (.tmp 4), none, []⟩,
      ⟨some 6, .len_ (.tmp 5), none, []⟩,
      ⟨some 7, .bin .gtr (.tmp 6) (.const (.int .i64 20)), none, []⟩,
      ⟨some 8, .mv (.tmp 7), none, []⟩,
      ⟨some 9, .fad 1 (.tmp 1), (some (some 8, false)), []⟩,
      ⟨some 10, .load1 (.tmp 9), (some (some 8, false)), []⟩,
      ⟨some 11, .len_ (.tmp 10), (some (some 8, false)), []⟩,
      ⟨some 12, .bin .gtr (.tmp 11) (.const (.int .i64 16)), (some (some 8, false)), []⟩,
      ⟨some 13, .pick (.tmp 8) (.const (.bool true)) (.tmp 12), none, []⟩] [4, 5, 6, 7, 8, 9, 10, 11, 12])
   (.cond (.tmp 13)
     (.seq
      (.region false [⟨some 2, .mv (.const (.bool true)), none, []⟩] [])
     .ret)
     .skip))
  (.seq
   (.seq
    (.region false [⟨some 3, .mv (.const (.int .i64 0)), none, []⟩] [])
   (.block 0
     (.loop
       (.seq
        (.seq
         (.region false [⟨some 14, .mv (.tmp 3), none, []⟩,
           ⟨some 15, .fad 0 (.tmp 1), none, []⟩,
           ⟨some 16, .load1 (.tmp 15), none, []⟩,
           ⟨some 17, .len_ (.tmp 16), none, []⟩,
           ⟨some 18, .bin .lss (.tmp 14) (.tmp 17), none, []⟩] [14, 15, 16, 17])
        (.cond (.tmp 18)
          .skip
          (.exit 0)))
       (.seq
        (.block 1
          (.seq
           (.region false [⟨some 21, .fad 0 (.tmp 1), none, []⟩,
             ⟨some 22, .load1 (.tmp 21), none, []⟩,
             ⟨some 23, .mv (.tmp 3), none, []⟩,
             ⟨some 24, .iadS 3 (.tmp 22) (.tmp 23), none, []⟩,
             ⟨some 25, .fad 0 (.tmp 24), none, []⟩,
             ⟨some 26, .load1 (.tmp 25), none, []⟩,
             ⟨some 27, .len_ (.tmp 26), none, []⟩,
             ⟨some 28, .bin .gtr (.tmp 27) (.const (.int .i64 30)), none, []⟩,
             ⟨some 29, .mv (.tmp 28), none, []⟩,
             ⟨some 30, .fad 0 (.tmp 1), (some (some 29, false)), []⟩,
             ⟨some 31, .load1 (.tmp 30), (some (some 29, false)), []⟩,
             ⟨some 32, .mv (.tmp 3), (some (some 29, false)), []⟩,
             ⟨some 33, .iadS 3 (.tmp 31) (.tmp 32), (some (some 29, false)), []⟩,
             ⟨some 34, .fad 1 (.tmp 33), (some (some 29, false)), []⟩,
             ⟨some 35, .load1 (.tmp 34), (some (some 29, false)), []⟩,
             ⟨some 36, .len_ (.tmp 35), (some (some 29, false)), []⟩,
             ⟨some 37, .bin .gtr (.tmp 36) (.const (.int .i64 30)), (some (some 29, false)), []⟩,
             ⟨some 38, .pick (.tmp 29) (.const (.bool true)) (.tmp 37), none, []⟩] [21, 22, 23, 24, 25, 26, 27, 28, 29, 30, 31, 32, 33, 34, 35, 36, 37])
          (.cond (.tmp 38)
            (.seq
             (.region false [⟨some 2, .mv (.const (.bool true)), none, []⟩] [])
            .ret)
            .skip)))
       (.region false [⟨some 19, .mv (.tmp 3), none, []⟩,
         ⟨some 20, .bin .add (.tmp 19) (.const (.int .i64 1)), none, []⟩,
         ⟨some 3, .mv (.tmp 20), none, []⟩] [19, 20]))))))
  (.seq
   (.region false [⟨some 2, .mv (.const (.bool false)), none, []⟩] [])
  .ret))))
set_option maxRecDepth 100000 in
theorem klaw12_FarCase : IsCode Try.prog 33 39 claw12_FarCase [.tmp 2] :=
  ⟨Try.f33, _, [38, 18, 13, 0, 1, 3, 2], Try.func33, rfl, by decide, rfl, by kernel_rfl, by kernel_rfl⟩
/-- law12_RecordHolds -/
def claw12_RecordHolds : ACode :=
  (.seq
   (.region false [⟨some 2, .box (.tmp 0), none, []⟩,
     ⟨some 3, .box (.tmp 1), none, []⟩,
     ⟨some 4, .mv (.const (.bool false)), none, []⟩] [])
  (.seq
   (.seq
    (.region false [⟨some 22, .loadN 2 (.tmp 2), none, []⟩,
      ⟨some 23, .call (.func 33) [(.tmp 22)], none, []⟩] [22])
   (.cond (.tmp 23)
     (.seq
      (.region false [⟨some 24, .call (.func 16) [], none, []⟩,
        ⟨some 4, .mv (.tmp 24), none, []⟩] [24])
     .ret)
     .skip))
  (.seq
   (.region false [⟨some 25, .loadN 2 (.tmp 2), none, []⟩,
     ⟨some 26, .call (.func 34) [(.tmp 25)], none, []⟩,
     ⟨some 5, .mem [(.val (.slice none 0 0)), (.val (.slice none 0 0))], none, []⟩,
     ⟨none, .store 2 (.tmp 5) (.tmp 26), none, []⟩] [25, 26])
  (.seq
   (.region false [⟨some 28, .loadN 2 (.tmp 5), none, []⟩,
     ⟨some 29, .fad 0 (.tmp 3), none, []⟩,
     ⟨some 30, .load1 (.tmp 29), none, []⟩,
     ⟨some 31, .fad 1 (.tmp 3), none, []⟩,
     ⟨some 32, .load1 (.tmp 31), none, []⟩,
     ⟨some 33, .call (.func 35) [(.tmp 28), (.tmp 30), (.tmp 32)], none, []⟩,
     ⟨some 27, .mv (.tmp 33), none, []⟩,
     ⟨some 34, .ext (.tmp 27) 0, none, []⟩,
     ⟨some 35, .ext (.tmp 27) 1, none, []⟩,
     ⟨some 6, .mv (.tmp 34), none, []⟩,
     ⟨some 7, .mv (.tmp 35), none, []⟩] [28, 29, 30, 31, 32, 33, 27, 34, 35])
  (.seq
   (.region false [⟨some 37, .loadN 2 (.tmp 2), none, []⟩,
     ⟨some 38, .fad 0 (.tmp 3), none, []⟩,
     ⟨some 39, .load1 (.tmp 38), none, []⟩,
     ⟨some 40, .fad 1 (.tmp 3), none, []⟩,
     ⟨some 41, .load1 (.tmp 40), none, []⟩,
     ⟨some 42, .call (.func 36) [(.tmp 37), (.tmp 39), (.tmp 41)], none, []⟩,
     ⟨some 36, .mv (.tmp 42), none, []⟩,
     ⟨some 43, .ext (.tmp 36) 0, none, []⟩,
     ⟨some 44, .ext (.tmp 36) 1, none, []⟩,
     ⟨some 8, .mv (.tmp 43), none, []⟩,
     ⟨some 9, .mv (.tmp 44), none, []⟩] [37, 38, 39, 40, 41, 42, 36, 43, 44])
  (.seq
   (.region false [⟨some 46, .loadN 2 (.tmp 5), none, []⟩,
     ⟨some 47, .fad 0 (.tmp 3), none, []⟩,
     ⟨some 48, .load1 (.tmp 47), none, []⟩,
     ⟨some 49, .fad 1 (.tmp 3), none, []⟩,
     ⟨some 50, .load1 (.tmp 49), none, []⟩,
     ⟨some 51, .call (.func 37) [(.tmp 46), (.tmp 48), (.tmp 50)], none, []⟩,
     ⟨some 45, .mv (.tmp 51), none, []⟩,
     ⟨some 52, .ext (.tmp 45) 0, none, []⟩,
     ⟨some 53, .ext (.tmp 45) 1, none, []⟩,
     ⟨some 10, .mv (.tmp 52), none, []⟩,
     ⟨some 11, .mv (.tmp 53), none, []⟩] [46, 47, 48, 49, 50, 51, 45, 52, 53])
  (.seq
   (.region false [⟨some 55, .loadN 2 (.tmp 2), none, []⟩,
     ⟨some 56, .fad 0 (.tmp 3), none, []⟩,
     ⟨some 57, .load1 (.tmp 56), none, []⟩,
     ⟨some 58, .fad 1 (.tmp 3), none, []⟩,
     ⟨some 59, .load1 (.tmp 58), none, []⟩,
     ⟨some 60, .call (.func 38) [(.tmp 55), (.tmp 57), (.tmp 59)], none, []⟩,
     ⟨some 54, .mv (.tmp 60), none, []⟩,
     ⟨some 61, .ext (.tmp 54) 0, none, []⟩,
     ⟨some 62, .ext (.tmp 54) 1, none, []⟩,
     ⟨some 12, .mv (.tmp 61), none, []⟩,
     ⟨some 13, .mv (.tmp 62), none, []⟩] [55, 56, 57, 58, 59, 60, 54, 61, 62])
  (.seq
   (.region false [⟨some 64, .loadN 2 (.tmp 5), none, []⟩,
     ⟨some 65, .fad 0 (.tmp 3), none, []⟩,
     ⟨some 66, .load1 (.tmp 65), none, []⟩,
     ⟨some 67, .fad 1 (.tmp 3), none, []⟩,
     ⟨some 68, .load1 (.tmp 67), none, []⟩,
     ⟨some 69, .call (.func 39) [(.tmp 64), (.tmp 66), (.tmp 68)], none, []⟩,
     ⟨some 63, .mv (.tmp 69), none, []⟩,
     ⟨some 70, .ext (.tmp 63) 0, none, []⟩,
     ⟨some 71, .ext (.tmp 63) 1, none, []⟩,
     ⟨some 14, .mv (.tmp 70), none, []⟩,
     ⟨some 15, .mv (.tmp 71), none, []⟩] [64, 65, 66, 67, 68, 69, 63, 70, 71])
  (.seq
   (.region false [⟨some 73, .loadN 2 (.tmp 2), none, []⟩,
     ⟨some 74, .fad 0 (.tmp 3), none, []⟩,
     ⟨some 75, .load1 (.tmp 74), none, []⟩,
     ⟨some 76, .fad 1 (.tmp 3), none, []⟩,
     ⟨some 77, .load1 (.tmp 76), none, []⟩,
     ⟨some 78, .call (.func 40) [(.tmp 73), (.tmp 75), (.tmp 77)], none, []⟩,
     ⟨some 72, .mv (.tmp 78), none, []⟩,
     ⟨some 79, .ext (.tmp 72) 0, none, []⟩,
     ⟨some 80, .ext (.tmp 72) 1, none, []⟩,
     ⟨some 16, .mv (.tmp 79), none, []⟩,
     ⟨some 17, .mv (.tmp 80), none, []⟩] [73, 74, 75, 76, 77, 78, 72, 79, 80])
  (.seq
   (.region false [⟨some 82, .loadN 2 (.tmp 5), none, []⟩,
     ⟨some 83, .fad 0 (.tmp 3), none, []⟩,
     ⟨some 84, .load1 (.tmp 83), none, []⟩,
     ⟨some 85, .fad 1 (.tmp 3), none, []⟩,
     ⟨some 86, .load1 (.tmp 85), none, []⟩,
     ⟨some 87, .call (.func 41) [(.tmp 82), (.tmp 84), (.tmp 86)], none, []⟩,
     ⟨some 81, .mv (.tmp 87), none, []⟩,
     ⟨some 88, .ext (.tmp 81) 0, none, []⟩,
     ⟨some 89, .ext (.tmp 81) 1, none, []⟩,
     ⟨some 18, .mv (.tmp 88), none, []⟩,
     ⟨some 19, .mv (.tmp 89), none, []⟩] [82, 83, 84, 85, 86, 87, 81, 88, 89])
  (.seq
   (.region false [⟨some 91, .loadN 2 (.tmp 2), none, []⟩,
     ⟨some 92, .fad 0 (.tmp 3), none, []⟩,
     ⟨some 93, .load1 (.tmp 92), none, []⟩,
     ⟨some 94, .fad 1 (.tmp 3), none, []⟩,
     ⟨some 95, .load1 (.tmp 94), none, []⟩,
     ⟨some 96, .call (.func 42) [(.tmp 91), (.tmp 93), (.tmp 95)], none, []⟩,
     ⟨some 90, .mv (.tmp 96), none, []⟩,
     ⟨some 97, .ext (.tmp 90) 0, none, []⟩,
     ⟨some 98, .ext (.tmp 90) 1, none, []⟩,
     ⟨some 20, .mv (.tmp 97), none, []⟩,
     ⟨some 21, .mv (.tmp 98), none, []⟩] [91, 92, 93, 94, 95, 96, 90, 97, 98])
  (.seq
   (.region false [⟨some 99, .mv (.tmp 6), none, []⟩,
     ⟨some 100, .mv (.tmp 8), none, []⟩,
     ⟨some 101, .eqb false (.tmp 99) (.tmp 100), none, []⟩,
     ⟨some 102, .mv (.tmp 101), none, []⟩,
     ⟨some 103, .mv (.tmp 7), (some (some 102, true)), []⟩,
     ⟨some 104, .mv (.tmp 9), (some (some 102, true)), []⟩,
     ⟨some 105, .bin .eql (.tmp 103) (.tmp 104), (some (some 102, true)), []⟩,
     ⟨some 106, .pick (.tmp 102) (.tmp 105) (.const (.bool false)), none, []⟩,
     ⟨some 107, .mv (.tmp 106), none, []⟩,
     ⟨some 108, .mv (.tmp 10), (some (some 107, true)), []⟩,
     ⟨some 109, .mv (.tmp 12), (some (some 107, true)), []⟩,
     ⟨some 110, .bin .eql (.tmp 108) (.tmp 109), (some (some 107, true)), []⟩,
     ⟨some 111, .pick (.tmp 107) (.tmp 110) (.const (.bool false)), none, []⟩,
     ⟨some 112, .mv (.tmp 111), none, []⟩,
     ⟨some 113, .mv (.tmp 11), (some (some 112, true)), []⟩,
     ⟨some 114, .mv (.tmp 13), (some (some 112, true)), []⟩,
     ⟨some 115, .bin .eql (.tmp 113) (.tmp 114), (some (some 112, true)), []⟩,
     ⟨some 116, .pick (.tmp 112) (.tmp 115) (.const (.bool false)), none, []⟩,
     ⟨some 117, .mv (.tmp 116), none, []⟩,
     ⟨some 118, .mv (.tmp 14), (some (some 117, true)), []⟩,
     ⟨some 119, .mv (.tmp 16), (some (some 117, true)), []⟩,
     ⟨some 120, .call (.func 29) [(.tmp 118), (.tmp 119)], (some (some 117, true)), []⟩,
     ⟨some 121, .pick (.tmp 117) (.tmp 120) (.const (.bool false)), none, []⟩,
     ⟨some 122, .mv (.tmp 121), none, []⟩,
     ⟨some 123, .mv (.tmp 15), (some (some 122, true)), []⟩,
     ⟨some 124, .mv (.tmp 17), (some (some 122, true)), []⟩,
     ⟨some 125, .bin .eql (.tmp 123) (.tmp 124), (some (some 122, true)), []⟩,
     ⟨some 126, .pick (.tmp 122) (.tmp 125) (.const (.bool false)), none, []⟩,
     ⟨some 127, .mv (.tmp 126), none, []⟩,
     ⟨some 128, .mv (.tmp 18), (some (some 127, true)), []⟩,
     ⟨some 129, .mv (.tmp 20), (some (some 127, true)), []⟩,
     ⟨some 130, .call (.func 29) [(.tmp 128), (.tmp 129)], (some (some 127, true)), []⟩,
     ⟨some 131, .pick (.tmp 127) (.tmp 130) (.const (.bool false)), none, []⟩,
     ⟨some 132, .mv (.tmp 131), none, []⟩,
     ⟨some 133, .mv (.tmp 19), (some (some 132, true)), []⟩,
     ⟨some 134, .mv (.tmp 21), (some (some 132, true)), []⟩,
     ⟨some 135, .bin .eql (.tmp 133) (.tmp 134), (some (some 132, true)), []⟩,
     ⟨some 136, .pick (.tmp 132) (.tmp 135) (.const (.bool false)), none, []⟩,
     ⟨some 137, .mv (.tmp 136), none, []⟩,
     ⟨some 138, .call (.func 16) [], (some (some 137, true)), []⟩,
     ⟨some 139, .pick (.tmp 137) (.tmp 138) (.const (.bool false)), none, []⟩,
     ⟨some 4, .mv (.tmp 139), none, []⟩] [99, 100, 101, 102, 103, 104, 105, 106, 107, 108, 109, 110, 111, 112, 113, 114, 115, 116, 117, 118, 119, 120, 121, 122, 123, 124, 125, 126, 127, 128, 129, 130, 131, 132, 133, 134, 135, 136, 137, 138, 139])
  .ret))))))))))))
set_option maxRecDepth 100000 in
theorem klaw12_RecordHolds : IsCode Try.prog 7 140 claw12_RecordHolds [.tmp 4] :=
  ⟨Try.f7, _, [23, 0, 1, 2, 5, 3, 6, 8, 7, 9, 10, 12, 11, 13, 14, 16, 15, 17, 18, 20, 19, 21, 4], Try.func7, rfl, by decide, rfl, by kernel_rfl, by kernel_rfl⟩
/-- ref01_Valid -/
def cref01_Valid : ACode :=
  (.seq
   (.region false [⟨some 1, .box (.tmp 0), none, []⟩,
     ⟨some 2, .mv (.const (.bool false)), none, []⟩] [])
  (.seq
   (.region false [⟨some 3, .fad 0 (.tmp 1), none, []⟩,
     ⟨some 4, .load1 (.tmp 3), none, []⟩,
     ⟨some 5, .call (.func 150) [(.tmp 4), (.const (.int .i64 (-1000000))), (.const (.int .i64 1000000))], none, []⟩,
     ⟨some 6, .mv (.tmp 5), none, []⟩,
     ⟨some 7, .fad 1 (.tmp 1), (some (some 6, true)), []⟩,
     ⟨some 8, .load1 (.tmp 7), (some (some 6, true)), []⟩,
     ⟨some 9, .fad 0 (.tmp 1), (some (some 6, true)), []⟩,
     ⟨some 10, .load1 (.tmp 9), (some (some 6, true)), []⟩,
     ⟨some 11, .call (.func 150) [(.tmp 8), (.tmp 10), (.const (.int .i64 1000000))], (some (some 6, true)), []⟩,
     ⟨some 12, .pick (.tmp 6) (.tmp 11) (.const (.bool false)), none, []⟩,
     ⟨some 2, .mv (.tmp 12), none, []⟩] [3, 4, 5, 6, 7, 8, 9, 10, 11, 12])
  .ret))
set_option maxRecDepth 100000 in
theorem kref01_Valid : IsCode Try.prog 123 13 cref01_Valid [.tmp 2] :=
  ⟨Try.f123, _, [0, 1, 2], Try.func123, rfl, by decide, rfl, by kernel_rfl, by kernel_rfl⟩
/-- ref01_From -/
def cref01_From : ACode :=
  (.seq
   (.region false [⟨some 6, .mv (.const (.bool false)), none, []⟩] [])
  (.seq
   (.region false [⟨some 7, .mv (.tmp 0), none, []⟩,
     ⟨some 8, .mv (.tmp 1), none, []⟩,
     ⟨some 9, .bin .geq (.tmp 7) (.tmp 8), none, []⟩,
     ⟨some 10, .mv (.tmp 9), none, []⟩,
     ⟨some 11, .mv (.tmp 0), (some (some 10, true)), []⟩,
     ⟨some 12, .mv (.tmp 2), (some (some 10, true)), []⟩,
     ⟨some 13, .bin .leq (.tmp 11) (.tmp 12), (some (some 10, true)), []⟩,
     ⟨some 14, .pick (.tmp 10) (.tmp 13) (.const (.bool false)), none, []⟩,
     ⟨some 6, .mv (.tmp 14), none, []⟩] [7, 8, 9, 10, 11, 12, 13, 14])
  .ret))
set_option maxRecDepth 100000 in
theorem kref01_From : IsCode Try.prog 150 15 cref01_From [.tmp 6] :=
  ⟨Try.f150, _, [0, 1, 2, 6], Try.func150, rfl, by decide, rfl, by kernel_rfl, by kernel_rfl⟩
end Go.Proofs.Ytdcodicoclecnaa
