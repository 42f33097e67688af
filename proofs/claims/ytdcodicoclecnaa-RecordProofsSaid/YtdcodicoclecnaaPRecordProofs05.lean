/- Texts of the law RecordProofs, part 5. No conditions. -/
import Derived.Test.YtdcodicoclecnaaPRecordProofs04
import Derived.Test.YtdcodicoclecnaaRows
/- record: what a case must be, in all. No conditions. -/
set_option linter.unusedSimpArgs false
set_option linter.unusedVariables false
namespace Go.Proofs.Ytdcodicoclecnaa
open Go Go.RowKit Lift

instance (l : List Int) (b : Int) : Decidable (Asc l b) := inferInstanceAs (Decidable (∀ i, i < l.length → _))
def AscK (l : List Int) (b : Int) (k : Nat) : Prop := ∀ i, i < k → 0 ≤ l[i]?.getD 0 ∧ l[i]?.getD 0 < b ∧ (0 < i → l[i - 1]?.getD 0 < l[i]?.getD 0)
def lastA (l : List Int) (k : Nat) : Int := if k = 0 then -1 else l[k - 1]?.getD 0
theorem asc_no {l : List Int} {b : Int} {k : Nat} (hk : k < l.length) (hp : AscK l b k) (h : ¬ (lastA l k < l[k]?.getD 0 ∧ l[k]?.getD 0 < b)) : ¬ Asc l b := fun ha => by
  obtain ⟨h1, h2, h3⟩ := ha k hk
  refine h ⟨?_, h2⟩
  unfold lastA
  split
  · omega
  · exact h3 (by omega)
theorem asc_yes {l : List Int} {b : Int} {k : Nat} (hp : AscK l b k) (h1 : lastA l k < l[k]?.getD 0) (h2 : l[k]?.getD 0 < b) : AscK l b (k + 1) := fun i hi => by
  rcases (by omega : i < k ∨ i = k) with h | rfl
  · exact hp i h
  · refine ⟨?_, h2, fun h0 => ?_⟩
    · unfold lastA at h1
      split at h1
      · omega
      · have := (hp (i - 1) (by omega)).1; omega
    · unfold lastA at h1
      rw [if_neg (by omega)] at h1
      exact h1
set_option maxHeartbeats 2000000 in
theorem ascends_ac (l : List Int) (b : Int) (hl : l.length ≤ 1000000) : AC Try.prog 145 [.list (ints l), dI b] [] [] (dB (decide (Asc l b))) := by
  refine krecord_ascends.ac (n0 := 0) (by simp) ⟨.list _, .val _, trivial⟩ trivial rfl ?_
  unfold crecord_ascends
  (have hg : (987654321 : Nat) - 987654321 = 0 := rfl; have hr := hg; repeat' (first | refine aw_seq ?_ | (refine aw_skip ?_; try simp only [thenQ, blockQ, if_true, if_false, Nat.reduceEqDiff, reduceCtorEq]) | (refine aw_exit ?_; try simp only [thenQ, blockQ, if_true, if_false, Nat.reduceEqDiff, reduceCtorEq]) | refine aw_ret ?_ | refine aw_block ?_ | refine aw_condT rfl ?_ | refine aw_condF rfl ?_ | ((first | refine aw_region ?_ | refine ago_if (by omega) ?_ | skip); simp (config := {maxSteps := 10000000}) (disch := first | exact okYes (by kernel_rfl) | omega) only [thenQ, List.map, Int.reduceNeg, dB, List.length, Nat.zero_add, Nat.reduceMul, envOf, dI, ARun_none, AOpRun, aexec, FSt.ev, AGo_ok, St.app, putO, eput_c, Nat.reduceBEq, eput_n, cond_false, hups, ARun_nil, dropE_c, inL_n, dropE_n, Nat.reduceAdd, St.F, ↓eget_h, eget_c, ints_len])))
  refine aw_loop (fun k : Nat => ⟨[(1, dI b), (5, dI (lastA l k)), (8, .list (ints l)), (9, dI l.length), (10, dI k)], [], 400⟩) (fun k => k ≤ l.length ∧ AscK l b k) (fun k => l.length - k) ⟨0, ⟨by omega, fun i hi => by omega⟩, ?_⟩ ?_
  · refine wk_to [] [] (by kernel_rfl) (by kernel_rfl) (by kernel_rfl) (by kernel_rfl) (by kernel_rfl) ?_ ?_ <;> repeat' (first | exact trivial | exact vr_val _ | exact vr_list _ | apply And.intro)
  rintro k ⟨hk, hp⟩
  by_cases hk2 : k < l.length
  case neg =>
    obtain rfl : k = l.length := by omega
    rw [decide_eq_true (show Asc l b from hp)]
    (have hg : (987654321 : Nat) - 987654321 = 0 := rfl; have hr := hg; repeat' (first | refine aw_seq ?_ | (refine aw_skip ?_; try simp only [thenQ, blockQ, if_true, if_false, Nat.reduceEqDiff, reduceCtorEq]) | (refine aw_exit ?_; try simp only [thenQ, blockQ, if_true, if_false, Nat.reduceEqDiff, reduceCtorEq]) | refine aw_ret ?_ | refine aw_block ?_ | refine aw_condT rfl ?_ | refine aw_condF rfl ?_ | (refine aw_cond rfl (fun hg => ?_) (fun hg => ?_) <;> (try (have hq := hg; simp only [Bool.not_eq_true', Bool.not_eq_false', Bool.and_eq_true, Bool.and_eq_false_iff, Bool.or_eq_true, Bool.or_eq_false_iff, decide_eq_true_eq, decide_eq_false_iff_not, bne_iff_ne, beq_iff_eq, beq_eq_false_iff_ne, bne_eq_false_iff_eq, ne_eq, Int.not_lt, Int.not_le, Decidable.not_not] at hq)) <;> (try (have hr := hg; simp only [decide_eq_true_eq, decide_eq_false_iff_not] at hr)) <;> (try (exfalso; omega))) | ((first | refine aw_region ?_ | refine ago_if (by omega) ?_ | skip); simp (config := {maxSteps := 10000000}) (disch := first | exact okYes (by kernel_rfl) | omega) only [thenQ, dI, List.length, Nat.zero_add, Nat.reduceMul, Nat.reduceAdd, ARun_none, AOpRun, aexec, FSt.ev, St.F, eget_c, Nat.reduceBEq, ↓eget_h, cond_false, isSh, Bool.false_eq_true, ↓reduceIte, Option.map, abin, AGo_ok, St.app, putO, eput_c, eput_n, hups, List.map, ARun_nil, dropE_c, inL_n, dropE_n, hr, decide_false])))
    all_goals (refine end_to [] [] (by first | exact .inl rfl | exact .inr rfl) rfl (by kernel_rfl) (by kernel_rfl) (by kernel_rfl) ?_ ?_ <;> repeat' (first | exact trivial | exact vr_val _))
  have g1 := ints_gd l k hk2
  have e1 : lastA l (k + 1) = l[k]?.getD 0 := by unfold lastA; rw [if_neg (by omega)]; rfl
  have hno := asc_no hk2 hp
  have hyes := asc_yes hp
  rw [← e1] at hno hyes g1
  generalize lastA l (k + 1) = x at *
  generalize lastA l k = y at *
  cases q1 : decide (x ≤ y) with
  | true =>
    rw [decide_eq_false (hno fun h => by have := of_decide_eq_true q1; omega)]
    (have hg : (987654321 : Nat) - 987654321 = 0 := rfl; have hr := hg; repeat' (first | refine aw_seq ?_ | (refine aw_skip ?_; try simp only [thenQ, blockQ, if_true, if_false, Nat.reduceEqDiff, reduceCtorEq]) | (refine aw_exit ?_; try simp only [thenQ, blockQ, if_true, if_false, Nat.reduceEqDiff, reduceCtorEq]) | refine aw_ret ?_ | refine aw_block ?_ | refine aw_condT rfl ?_ | refine aw_condF rfl ?_ | (refine aw_cond rfl (fun hg => ?_) (fun hg => ?_) <;> (try (have hq := hg; simp only [Bool.not_eq_true', Bool.not_eq_false', Bool.and_eq_true, Bool.and_eq_false_iff, Bool.or_eq_true, Bool.or_eq_false_iff, decide_eq_true_eq, decide_eq_false_iff_not, bne_iff_ne, beq_iff_eq, beq_eq_false_iff_ne, bne_eq_false_iff_eq, ne_eq, Int.not_lt, Int.not_le, Decidable.not_not] at hq)) <;> (try (have hr := hg; simp only [decide_eq_true_eq, decide_eq_false_iff_not] at hr)) <;> (try (exfalso; omega))) | ((first | refine aw_region ?_ | refine ago_if (by omega) ?_ | skip); simp (config := {maxSteps := 10000000}) (disch := first | exact okYes (by kernel_rfl) | omega) only [thenQ, dI, List.length, Nat.zero_add, Nat.reduceMul, Nat.reduceAdd, ARun_none, AOpRun, aexec, FSt.ev, St.F, eget_c, Nat.reduceBEq, ↓eget_h, cond_false, isSh, Bool.false_eq_true, ↓reduceIte, Option.map, abin, AGo_ok, St.app, putO, eput_c, eput_n, hups, List.map, ARun_nil, dropE_c, inL_n, dropE_n, hr, decide_true, Int.natCast_nonneg, ints_all, and_self, opt1, Int.toNat_natCast, g1, run1, List.getElem?_cons_zero, inL_c, beq_self_eq_true, cond_true, q1, ARun_some, AG_tf, blockQ])))
    all_goals (refine end_to [] [] (by first | exact .inl rfl | exact .inr rfl) rfl (by kernel_rfl) (by kernel_rfl) (by kernel_rfl) ?_ ?_ <;> repeat' (first | exact trivial | exact vr_val _))
  | false =>
    have n1 := of_decide_eq_false q1
    cases q2 : decide (x ≥ b) with
    | true =>
      rw [decide_eq_false (hno fun h => by have := of_decide_eq_true q2; omega)]
      (have hg : (987654321 : Nat) - 987654321 = 0 := rfl; have hr := hg; repeat' (first | refine aw_seq ?_ | (refine aw_skip ?_; try simp only [thenQ, blockQ, if_true, if_false, Nat.reduceEqDiff, reduceCtorEq]) | (refine aw_exit ?_; try simp only [thenQ, blockQ, if_true, if_false, Nat.reduceEqDiff, reduceCtorEq]) | refine aw_ret ?_ | refine aw_block ?_ | refine aw_condT rfl ?_ | refine aw_condF rfl ?_ | (refine aw_cond rfl (fun hg => ?_) (fun hg => ?_) <;> (try (have hq := hg; simp only [Bool.not_eq_true', Bool.not_eq_false', Bool.and_eq_true, Bool.and_eq_false_iff, Bool.or_eq_true, Bool.or_eq_false_iff, decide_eq_true_eq, decide_eq_false_iff_not, bne_iff_ne, beq_iff_eq, beq_eq_false_iff_ne, bne_eq_false_iff_eq, ne_eq, Int.not_lt, Int.not_le, Decidable.not_not] at hq)) <;> (try (have hr := hg; simp only [decide_eq_true_eq, decide_eq_false_iff_not] at hr)) <;> (try (exfalso; omega))) | ((first | refine aw_region ?_ | refine ago_if (by omega) ?_ | skip); simp (config := {maxSteps := 10000000}) (disch := first | exact okYes (by kernel_rfl) | omega) only [thenQ, dI, List.length, Nat.zero_add, Nat.reduceMul, Nat.reduceAdd, ARun_none, AOpRun, aexec, FSt.ev, St.F, eget_c, Nat.reduceBEq, ↓eget_h, cond_false, isSh, Bool.false_eq_true, ↓reduceIte, Option.map, abin, AGo_ok, St.app, putO, eput_c, eput_n, hups, List.map, ARun_nil, dropE_c, inL_n, dropE_n, hr, decide_true, Int.natCast_nonneg, ints_all, and_self, opt1, Int.toNat_natCast, g1, run1, List.getElem?_cons_zero, inL_c, beq_self_eq_true, cond_true, q1, ARun_some, AG_ff, q2, blockQ])))
      all_goals (refine end_to [] [] (by first | exact .inl rfl | exact .inr rfl) rfl (by kernel_rfl) (by kernel_rfl) (by kernel_rfl) ?_ ?_ <;> repeat' (first | exact trivial | exact vr_val _))
    | false =>
      have n2 := of_decide_eq_false q2
      (have hg : (987654321 : Nat) - 987654321 = 0 := rfl; have hr := hg; repeat' (first | refine aw_seq ?_ | (refine aw_skip ?_; try simp only [thenQ, blockQ, if_true, if_false, Nat.reduceEqDiff, reduceCtorEq]) | (refine aw_exit ?_; try simp only [thenQ, blockQ, if_true, if_false, Nat.reduceEqDiff, reduceCtorEq]) | refine aw_ret ?_ | refine aw_block ?_ | refine aw_condT rfl ?_ | refine aw_condF rfl ?_ | (refine aw_cond rfl (fun hg => ?_) (fun hg => ?_) <;> (try (have hq := hg; simp only [Bool.not_eq_true', Bool.not_eq_false', Bool.and_eq_true, Bool.and_eq_false_iff, Bool.or_eq_true, Bool.or_eq_false_iff, decide_eq_true_eq, decide_eq_false_iff_not, bne_iff_ne, beq_iff_eq, beq_eq_false_iff_ne, bne_eq_false_iff_eq, ne_eq, Int.not_lt, Int.not_le, Decidable.not_not] at hq)) <;> (try (have hr := hg; simp only [decide_eq_true_eq, decide_eq_false_iff_not] at hr)) <;> (try (exfalso; omega))) | ((first | refine aw_region ?_ | refine ago_if (by omega) ?_ | skip); simp (config := {maxSteps := 10000000}) (disch := first | exact okYes (by kernel_rfl) | omega) only [thenQ, dI, List.length, Nat.zero_add, Nat.reduceMul, Nat.reduceAdd, ARun_none, AOpRun, aexec, FSt.ev, St.F, eget_c, Nat.reduceBEq, ↓eget_h, cond_false, isSh, Bool.false_eq_true, ↓reduceIte, Option.map, abin, AGo_ok, St.app, putO, eput_c, eput_n, hups, List.map, ARun_nil, dropE_c, inL_n, dropE_n, hr, decide_true, Int.natCast_nonneg, ints_all, and_self, opt1, Int.toNat_natCast, g1, run1, List.getElem?_cons_zero, inL_c, beq_self_eq_true, cond_true, q1, ARun_some, AG_ff, q2, blockQ, fits])))
      refine ⟨k + 1, ⟨by omega, hyes (by omega) (by omega)⟩, by omega, ?_⟩
      rw [e1]
      refine wk_to [] [] (by kernel_rfl) (by kernel_rfl) (by kernel_rfl) (by kernel_rfl) (by kernel_rfl) ?_ ?_ <;> repeat' (first | exact trivial | exact vr_val _ | exact vr_list _ | apply And.intro)
/-- a case -/
def casD (c : Cas) : D := .agg [.list (cls c.cl), .list (sps c.pf)]
theorem in_cas (S : Nat → Prop) (c : Cas) : In S (casD c) := .agg _ (by intro d hd; simp at hd; rcases hd with rfl | rfl <;> exact .list _)
open Classical in
noncomputable def casB (c : Cas) : Bool := decide (CasOk c)
open Classical in
theorem casB_y {c : Cas} (h : CasOk c) : casB c = true := by unfold casB; exact decide_eq_true h
open Classical in
theorem casB_n {c : Cas} (h : ¬ CasOk c) : casB c = false := by unfold casB; exact decide_eq_false h
/-- what came in -/
structure CasIn (c : Cas) : Prop where
  n1 : c.cl.length ≤ maxLen
  n2 : c.pf.length ≤ maxLen
  l1 : ∀ i, (clAt c i).needs.length ≤ 1000000
  l2 : ∀ i, (clAt c i).proofs.length ≤ 1000000
theorem pf_any {c : Cas} : (c.pf.any fun x => !decide (pfOk x)) = true ↔ ¬ ∀ i, i < c.pf.length → pfOk (pfAt c i) := by
  rw [List.any_eq_true]
  constructor
  · rintro ⟨x, hx, h⟩ ha
    obtain ⟨j, hj, rfl⟩ := List.getElem_of_mem hx
    have := ha j hj
    simp only [pfAt, hj, List.getElem?_eq_getElem, Option.getD_some] at this
    simp [this] at h
  · intro h
    by_cases hx : ∃ x ∈ c.pf, ¬ pfOk x
    · obtain ⟨x, h1, h2⟩ := hx; exact ⟨x, h1, by simp [h2]⟩
    · refine absurd (fun i hi => ?_) h
      refine Decidable.byContradiction fun h1 => hx ⟨pfAt c i, ?_, h1⟩
      simp [pfAt, hi]
set_option maxRecDepth 100000 in
set_option maxHeartbeats 4000000 in
theorem cvalid_ac (c : Cas) (hc : CasIn c) : AC Try.prog 118 [casD c] [] [] (dB (casB c)) := by
  refine krecord_valid.ac (n0 := 0) (by simp) ⟨in_cas _ _, trivial⟩ trivial rfl ?_
  unfold crecord_valid casD
  have hmax : maxLen = 9223372036854775807 := rfl
  have m1 := hc.n1
  have m2 := hc.n2
  cases q1 : decide ((c.cl.length : Int) > 16) with
  | true =>
    rw [casB_n fun h => by have := h.n1; have := of_decide_eq_true q1; omega]
    (have hg : (987654321 : Nat) - 987654321 = 0 := rfl; have hr := hg; repeat' (first | refine aw_seq ?_ | (refine aw_skip ?_; try simp only [thenQ, blockQ, if_true, if_false, Nat.reduceEqDiff, reduceCtorEq]) | (refine aw_exit ?_; try simp only [thenQ, blockQ, if_true, if_false, Nat.reduceEqDiff, reduceCtorEq]) | refine aw_ret ?_ | refine aw_block ?_ | refine aw_condT rfl ?_ | refine aw_condF rfl ?_ | ((first | refine aw_region ?_ | refine ago_if (by omega) ?_ | skip); simp (config := {maxSteps := 10000000}) (disch := first | exact okYes (by kernel_rfl) | omega) only [thenQ, List.map, dB, List.length, Nat.zero_add, Nat.reduceAdd, Nat.reduceMul, envOf, ARun_none, AOpRun, aexec, D.isBot, FSt.ev, St.F, ↓eget_h, Bool.false_eq_true, Option.isSome, hget_n, or_self, ↓reduceIte, D.cells, AGo_ok, St.app, putO, eput_c, Nat.reduceBEq, eput_n, cond_false, hups, hput_n, ARun_nil, dropE_c, inL_n, dropE_n, eget_c, Option.map, run1, hget_c, beq_self_eq_true, cond_true, List.getElem?_cons_zero, cls_len, isSh, abin, q1, ARun_some, AG_tf, inL_c])))
    all_goals (refine end_to [] [] (by first | exact .inl rfl | exact .inr rfl) rfl (by kernel_rfl) (by kernel_rfl) (by kernel_rfl) ?_ ?_ <;> repeat' (first | exact trivial | exact vr_val _))
  | false =>
  have n1 := of_decide_eq_false q1
  cases q2 : decide ((c.pf.length : Int) > 12) with
  | true =>
    rw [casB_n fun h => by have := h.n2; have := of_decide_eq_true q2; omega]
    (have hg : (987654321 : Nat) - 987654321 = 0 := rfl; have hr := hg; repeat' (first | refine aw_seq ?_ | (refine aw_skip ?_; try simp only [thenQ, blockQ, if_true, if_false, Nat.reduceEqDiff, reduceCtorEq]) | (refine aw_exit ?_; try simp only [thenQ, blockQ, if_true, if_false, Nat.reduceEqDiff, reduceCtorEq]) | refine aw_ret ?_ | refine aw_block ?_ | refine aw_condT rfl ?_ | refine aw_condF rfl ?_ | ((first | refine aw_region ?_ | refine ago_if (by omega) ?_ | skip); simp (config := {maxSteps := 10000000}) (disch := first | exact okYes (by kernel_rfl) | omega) only [thenQ, List.map, dB, List.length, Nat.zero_add, Nat.reduceAdd, Nat.reduceMul, envOf, ARun_none, AOpRun, aexec, D.isBot, FSt.ev, St.F, ↓eget_h, Bool.false_eq_true, Option.isSome, hget_n, or_self, ↓reduceIte, D.cells, AGo_ok, St.app, putO, eput_c, Nat.reduceBEq, eput_n, cond_false, hups, hput_n, ARun_nil, dropE_c, inL_n, dropE_n, eget_c, Option.map, run1, hget_c, beq_self_eq_true, cond_true, List.getElem?_cons_zero, cls_len, isSh, abin, q1, ARun_some, AG_ff, List.getElem?_cons_succ, sps_len, q2, inL_c])))
    all_goals (refine end_to [] [] (by first | exact .inl rfl | exact .inr rfl) rfl (by kernel_rfl) (by kernel_rfl) (by kernel_rfl) ?_ ?_ <;> repeat' (first | exact trivial | exact vr_val _))
  | false =>
  have n2 := of_decide_eq_false q2
  refine aw_seq (aw_region ?_)
  simp (config := {maxSteps := 10000000}) (disch := first | exact okYes (by kernel_rfl) | omega) only [thenQ, List.map, dB, List.length, Nat.zero_add, Nat.reduceAdd, Nat.reduceMul, envOf, ARun_none, AOpRun, aexec, D.isBot, FSt.ev, St.F, ↓eget_h, Bool.false_eq_true, Option.isSome, hget_n, or_self, ↓reduceIte, D.cells, AGo_ok, St.app, putO, eput_c, Nat.reduceBEq, eput_n, cond_false, hups, hput_n, ARun_nil, dropE_c, inL_n, dropE_n]
  refine aw_seq (aw_seq (aw_region ?_))
  simp (config := {maxSteps := 10000000}) (disch := first | exact okYes (by kernel_rfl) | omega) only [thenQ, List.length, Nat.zero_add, Nat.reduceAdd, Nat.reduceMul, ARun_none, AOpRun, aexec, FSt.ev, St.F, eget_c, Nat.reduceBEq, ↓eget_h, cond_false, AGo_ok, St.app, putO, eput_c, eput_n, hups, List.map, Option.map, run1, hget_c, beq_self_eq_true, hget_n, cond_true, List.getElem?_cons_zero, cls_len, isSh, Bool.false_eq_true, ↓reduceIte, abin, q1, ARun_some, AG_ff, List.getElem?_cons_succ, sps_len, q2, ARun_nil, dropE_c, inL_c, inL_n, dropE_n]
  refine aw_condF rfl (aw_skip ?_)
  refine aw_seq (aw_seq (aw_region ?_))
  simp (config := {maxSteps := 10000000}) (disch := first | exact okYes (by kernel_rfl) | omega) only [thenQ, List.length, Nat.zero_add, Nat.reduceAdd, Nat.reduceMul, ARun_none, AOpRun, aexec, FSt.ev, St.F, eget_c, Nat.reduceBEq, ↓eget_h, cond_false, AGo_ok, St.app, putO, eput_c, eput_n, hups, List.map, Option.map, run1, hget_c, beq_self_eq_true, hget_n, cond_true, List.getElem?_cons_zero, cls_len, ARun_nil, dropE_c, inL_c, inL_n, dropE_n]
  refine aw_block ?_
  refine aw_loop (fun k : Nat => ⟨[(1, .ptr 0 0), (16, .list (cls c.cl)), (17, dI c.cl.length), (18, dI k)], [(0, [.list (cls c.cl), .list (sps c.pf)])], 400⟩) (fun k => k ≤ c.cl.length ∧ ∀ i, i < k → Asc (clAt c i).needs i ∧ Asc (clAt c i).proofs c.pf.length) (fun k => c.cl.length - k) ⟨0, ⟨by omega, fun i hi => by omega⟩, ?_⟩ ?_
  · refine wk_to [] [(0, 0)] (by kernel_rfl) (by kernel_rfl) (by kernel_rfl) (by kernel_rfl) (by kernel_rfl) ?_ ?_ <;> repeat' (first | exact trivial | exact vr_val _ | exact vr_list _ | exact vr_ptr _ _ _ rfl | refine And.intro ⟨_, rfl, .inl ⟨_, rfl, by decide, ?_⟩⟩ ?_ | apply And.intro)
  rintro k ⟨hk, hp⟩
  by_cases hk2 : k < c.cl.length
  case neg =>
    obtain rfl : k = c.cl.length := by omega
    have hf := cfsp_ac 147 (fun x => !decide (pfOk x)) valid1_ac c.pf (by omega)
    have e : casB c = !(c.pf.any fun x => !decide (pfOk x)) := by
      cases h : (c.pf.any fun x => !decide (pfOk x)) with
      | true => exact casB_n fun hh => (pf_any.1 h) hh.pf
      | false => exact casB_y ⟨by omega, by omega, hp, Classical.byContradiction fun hn => by rw [pf_any.2 hn] at h; cases h⟩
    rw [e]
    generalize (c.pf.any fun x => !decide (pfOk x)) = bb at *
    (have hg : (987654321 : Nat) - 987654321 = 0 := rfl; have hr := hg; repeat' (first | refine aw_seq ?_ | (refine aw_skip ?_; try simp only [thenQ, blockQ, if_true, if_false, Nat.reduceEqDiff, reduceCtorEq]) | (refine aw_exit ?_; try simp only [thenQ, blockQ, if_true, if_false, Nat.reduceEqDiff, reduceCtorEq]) | refine aw_ret ?_ | refine aw_block ?_ | refine aw_condT rfl ?_ | refine aw_condF rfl ?_ | (refine aw_cond rfl (fun hg => ?_) (fun hg => ?_) <;> (try (have hq := hg; simp only [Bool.not_eq_true', Bool.not_eq_false', Bool.and_eq_true, Bool.and_eq_false_iff, Bool.or_eq_true, Bool.or_eq_false_iff, decide_eq_true_eq, decide_eq_false_iff_not, bne_iff_ne, beq_iff_eq, beq_eq_false_iff_ne, bne_eq_false_iff_eq, ne_eq, Int.not_lt, Int.not_le, Decidable.not_not] at hq)) <;> (try (have hr := hg; simp only [decide_eq_true_eq, decide_eq_false_iff_not] at hr)) <;> (try (exfalso; omega))) | ((first | refine aw_region ?_ | refine acall0 (hf) ?_ | refine ago_if (by omega) ?_ | skip); simp (config := {maxSteps := 10000000}) (disch := first | exact okYes (by kernel_rfl) | omega) only [thenQ, dI, List.length, Nat.zero_add, Nat.reduceMul, Nat.reduceAdd, ARun_none, AOpRun, aexec, FSt.ev, St.F, eget_c, Nat.reduceBEq, ↓eget_h, cond_false, isSh, Bool.false_eq_true, ↓reduceIte, Option.map, abin, AGo_ok, St.app, putO, eput_c, eput_n, hups, List.map, ARun_nil, dropE_c, inL_n, dropE_n, hr, decide_false, run1, hget_c, beq_self_eq_true, hget_n, cond_true, List.getElem?_cons_succ, List.getElem?_cons_zero, dB, inL_c])))
    all_goals (refine end_to [] [] (by first | exact .inl rfl | exact .inr rfl) rfl (by kernel_rfl) (by kernel_rfl) (by kernel_rfl) ?_ ?_ <;> repeat' (first | exact trivial | exact vr_val _))
  have g1 : (cls c.cl)[k]? = some (clC (clAt c k)) := cls_gd c.cl k hk2
  unfold clC at g1
  have l1 := hc.l1 k
  have l2 := hc.l2 k
  have hyes : Asc (clAt c k).needs k → Asc (clAt c k).proofs c.pf.length → ∀ i, i < k + 1 → Asc (clAt c i).needs i ∧ Asc (clAt c i).proofs c.pf.length := fun h1 h2 i hi => by
    rcases (by omega : i < k ∨ i = k) with h | rfl
    · exact hp i h
    · exact ⟨h1, h2⟩
  have hno : ¬ (Asc (clAt c k).needs k ∧ Asc (clAt c k).proofs c.pf.length) → casB c = false := fun h => casB_n fun hh => h (hh.asc k hk2)
  generalize clAt c k = x at g1 l1 l2 hyes hno
  have a1 := ascends_ac x.needs k l1
  have a2 := ascends_ac x.proofs c.pf.length l2
  by_cases h1 : Asc x.needs k
  case neg =>
    rw [decide_eq_false h1] at a1
    rw [hno fun h => h1 h.1]
    (have hg : (987654321 : Nat) - 987654321 = 0 := rfl; have hr := hg; repeat' (first | refine aw_seq ?_ | (refine aw_skip ?_; try simp only [thenQ, blockQ, if_true, if_false, Nat.reduceEqDiff, reduceCtorEq]) | (refine aw_exit ?_; try simp only [thenQ, blockQ, if_true, if_false, Nat.reduceEqDiff, reduceCtorEq]) | refine aw_ret ?_ | refine aw_block ?_ | refine aw_condT rfl ?_ | refine aw_condF rfl ?_ | (refine aw_cond rfl (fun hg => ?_) (fun hg => ?_) <;> (try (have hq := hg; simp only [Bool.not_eq_true', Bool.not_eq_false', Bool.and_eq_true, Bool.and_eq_false_iff, Bool.or_eq_true, Bool.or_eq_false_iff, decide_eq_true_eq, decide_eq_false_iff_not, bne_iff_ne, beq_iff_eq, beq_eq_false_iff_ne, bne_eq_false_iff_eq, ne_eq, Int.not_lt, Int.not_le, Decidable.not_not] at hq)) <;> (try (have hr := hg; simp only [decide_eq_true_eq, decide_eq_false_iff_not] at hr)) <;> (try (exfalso; omega))) | ((first | refine aw_region ?_ | refine acall0 (a1) ?_ | refine ago_if (by omega) ?_ | skip); simp (config := {maxSteps := 10000000}) (disch := first | exact okYes (by kernel_rfl) | omega) only [thenQ, dI, List.length, Nat.zero_add, Nat.reduceMul, Nat.reduceAdd, ARun_none, AOpRun, aexec, FSt.ev, St.F, eget_c, Nat.reduceBEq, ↓eget_h, cond_false, isSh, Bool.false_eq_true, ↓reduceIte, Option.map, abin, AGo_ok, St.app, putO, eput_c, eput_n, hups, List.map, ARun_nil, dropE_c, inL_n, dropE_n, hr, decide_true, Int.natCast_nonneg, cls_all, and_self, opt1, Int.toNat_natCast, g1, dB, Nat.reduceLeDiff, List.take, Option.isSome, hget_c, hget_n, hput_c, hput_n, ↓hget_h, D.isBot, D.cells, List.all, D.leaf, Bool.and_true, splice, List.nil_append, List.drop, List.append_nil, beq_self_eq_true, cond_true, inL_c, run1, List.getElem?_cons_zero, Bool.not_false, ARun_some, AG_tf, blockQ])))
    all_goals (refine end_to [] [] (by first | exact .inl rfl | exact .inr rfl) rfl (by kernel_rfl) (by kernel_rfl) (by kernel_rfl) ?_ ?_ <;> repeat' (first | exact trivial | exact vr_val _))
  by_cases h2 : Asc x.proofs c.pf.length
  case neg =>
    rw [decide_eq_true h1] at a1
    rw [decide_eq_false h2] at a2
    rw [hno fun h => h2 h.2]
    (have hg : (987654321 : Nat) - 987654321 = 0 := rfl; have hr := hg; repeat' (first | refine aw_seq ?_ | (refine aw_skip ?_; try simp only [thenQ, blockQ, if_true, if_false, Nat.reduceEqDiff, reduceCtorEq]) | (refine aw_exit ?_; try simp only [thenQ, blockQ, if_true, if_false, Nat.reduceEqDiff, reduceCtorEq]) | refine aw_ret ?_ | refine aw_block ?_ | refine aw_condT rfl ?_ | refine aw_condF rfl ?_ | (refine aw_cond rfl (fun hg => ?_) (fun hg => ?_) <;> (try (have hq := hg; simp only [Bool.not_eq_true', Bool.not_eq_false', Bool.and_eq_true, Bool.and_eq_false_iff, Bool.or_eq_true, Bool.or_eq_false_iff, decide_eq_true_eq, decide_eq_false_iff_not, bne_iff_ne, beq_iff_eq, beq_eq_false_iff_ne, bne_eq_false_iff_eq, ne_eq, Int.not_lt, Int.not_le, Decidable.not_not] at hq)) <;> (try (have hr := hg; simp only [decide_eq_true_eq, decide_eq_false_iff_not] at hr)) <;> (try (exfalso; omega))) | ((first | refine aw_region ?_ | refine acall0 (a1) ?_ | refine acall0 (a2) ?_ | refine ago_if (by omega) ?_ | skip); simp (config := {maxSteps := 10000000}) (disch := first | exact okYes (by kernel_rfl) | omega) only [thenQ, dI, List.length, Nat.zero_add, Nat.reduceMul, Nat.reduceAdd, ARun_none, AOpRun, aexec, FSt.ev, St.F, eget_c, Nat.reduceBEq, ↓eget_h, cond_false, isSh, Bool.false_eq_true, ↓reduceIte, Option.map, abin, AGo_ok, St.app, putO, eput_c, eput_n, hups, List.map, ARun_nil, dropE_c, inL_n, dropE_n, hr, decide_true, Int.natCast_nonneg, cls_all, and_self, opt1, Int.toNat_natCast, g1, dB, Nat.reduceLeDiff, List.take, Option.isSome, hget_c, hget_n, hput_c, hput_n, ↓hget_h, D.isBot, D.cells, List.all, D.leaf, Bool.and_true, splice, List.nil_append, List.drop, List.append_nil, beq_self_eq_true, cond_true, inL_c, run1, List.getElem?_cons_zero, Bool.not_true, ARun_some, AG_ff, List.getElem?_cons_succ, sps_len, Bool.not_false, blockQ])))
    all_goals (refine end_to [] [] (by first | exact .inl rfl | exact .inr rfl) rfl (by kernel_rfl) (by kernel_rfl) (by kernel_rfl) ?_ ?_ <;> repeat' (first | exact trivial | exact vr_val _))
  rw [decide_eq_true h1] at a1
  rw [decide_eq_true h2] at a2
  (have hg : (987654321 : Nat) - 987654321 = 0 := rfl; have hr := hg; repeat' (first | refine aw_seq ?_ | (refine aw_skip ?_; try simp only [thenQ, blockQ, if_true, if_false, Nat.reduceEqDiff, reduceCtorEq]) | (refine aw_exit ?_; try simp only [thenQ, blockQ, if_true, if_false, Nat.reduceEqDiff, reduceCtorEq]) | refine aw_ret ?_ | refine aw_block ?_ | refine aw_condT rfl ?_ | refine aw_condF rfl ?_ | (refine aw_cond rfl (fun hg => ?_) (fun hg => ?_) <;> (try (have hq := hg; simp only [Bool.not_eq_true', Bool.not_eq_false', Bool.and_eq_true, Bool.and_eq_false_iff, Bool.or_eq_true, Bool.or_eq_false_iff, decide_eq_true_eq, decide_eq_false_iff_not, bne_iff_ne, beq_iff_eq, beq_eq_false_iff_ne, bne_eq_false_iff_eq, ne_eq, Int.not_lt, Int.not_le, Decidable.not_not] at hq)) <;> (try (have hr := hg; simp only [decide_eq_true_eq, decide_eq_false_iff_not] at hr)) <;> (try (exfalso; omega))) | ((first | refine aw_region ?_ | refine acall0 (a1) ?_ | refine acall0 (a2) ?_ | refine ago_if (by omega) ?_ | skip); simp (config := {maxSteps := 10000000}) (disch := first | exact okYes (by kernel_rfl) | omega) only [thenQ, dI, List.length, Nat.zero_add, Nat.reduceMul, Nat.reduceAdd, ARun_none, AOpRun, aexec, FSt.ev, St.F, eget_c, Nat.reduceBEq, ↓eget_h, cond_false, isSh, Bool.false_eq_true, ↓reduceIte, Option.map, abin, AGo_ok, St.app, putO, eput_c, eput_n, hups, List.map, ARun_nil, dropE_c, inL_n, dropE_n, hr, decide_true, Int.natCast_nonneg, cls_all, and_self, opt1, Int.toNat_natCast, g1, dB, Nat.reduceLeDiff, List.take, Option.isSome, hget_c, hget_n, hput_c, hput_n, ↓hget_h, D.isBot, D.cells, List.all, D.leaf, Bool.and_true, splice, List.nil_append, List.drop, List.append_nil, beq_self_eq_true, cond_true, inL_c, run1, List.getElem?_cons_zero, Bool.not_true, ARun_some, AG_ff, List.getElem?_cons_succ, sps_len, fits])))
  refine ⟨k + 1, ⟨by omega, hyes h1 h2⟩, by omega, ?_⟩
  refine wk_to [] [(0, 0)] (by kernel_rfl) (by kernel_rfl) (by kernel_rfl) (by kernel_rfl) (by kernel_rfl) ?_ ?_ <;> repeat' (first | exact trivial | exact vr_val _ | exact vr_list _ | exact vr_ptr _ _ _ rfl | refine And.intro ⟨_, rfl, .inl ⟨_, rfl, by decide, ?_⟩⟩ ?_ | apply And.intro)
theorem casE_B (c : Cas) (E : Int) : casE c E = if casB c = true then 0 else E := by
  by_cases h : CasOk c
  · rw [casE_ok h, casB_y h, if_pos rfl]
  · rw [casE_no h, casB_n h, if_neg (by simp)]
set_option maxRecDepth 100000 in
set_option maxHeartbeats 4000000 in
theorem ccheck_ac (c : Cas) (hc : CasIn c) (claim tick : Int) : AC Try.prog 82 [casD c, dI claim, dI tick] [] [] (dI (clmE c claim tick 122 1)) := by
  refine krecord_check.ac (n0 := 0) (by simp) ⟨in_cas _ _, .val _, .val _, trivial⟩ trivial rfl ?_
  have cv := cvalid_ac c hc
  unfold crecord_check clmE
  rw [casE_B]
  have hmax : maxLen = 9223372036854775807 := rfl
  have m1 := hc.n1
  unfold casD at *
  cases hb : casB c with
  | false =>
    rw [hb] at cv
    simp only [Bool.false_eq_true, if_false, ne_eq, reduceCtorEq, not_false_eq_true, if_true]
    (have hg : (987654321 : Nat) - 987654321 = 0 := rfl; have hr := hg; repeat' (first | refine aw_seq ?_ | (refine aw_skip ?_; try simp only [thenQ, blockQ, if_true, if_false, Nat.reduceEqDiff, reduceCtorEq]) | (refine aw_exit ?_; try simp only [thenQ, blockQ, if_true, if_false, Nat.reduceEqDiff, reduceCtorEq]) | refine aw_ret ?_ | refine aw_block ?_ | refine aw_condT rfl ?_ | refine aw_condF rfl ?_ | ((first | refine aw_region ?_ | refine acall0 (cv) ?_ | refine ago_if (by omega) ?_ | skip); simp (config := {maxSteps := 10000000}) (disch := first | exact okYes (by kernel_rfl) | omega) only [thenQ, List.map, dI, Int.reduceEq, not_false_eq_true, ↓reduceIte, List.length, Nat.zero_add, Nat.reduceAdd, Nat.reduceMul, envOf, ARun_none, AOpRun, aexec, D.isBot, FSt.ev, St.F, ↓eget_h, Bool.false_eq_true, Option.isSome, hget_n, or_self, D.cells, AGo_ok, St.app, putO, eput_c, Nat.reduceBEq, eput_n, cond_false, hups, hput_n, ARun_nil, dropE_c, inL_n, dropE_n, eget_c, hget_c, beq_self_eq_true, cond_true, Nat.reduceLeDiff, List.drop, List.take, dB, Bool.not_false, inL_c, blockQ])))
    all_goals (refine end_to [] [] (by first | exact .inl rfl | exact .inr rfl) rfl (by kernel_rfl) (by kernel_rfl) (by kernel_rfl) ?_ ?_ <;> repeat' (first | exact trivial | exact vr_val _))
  | true =>
    rw [hb] at cv
    simp only [if_true, ne_eq, not_true_eq_false, if_false]
    have w1 := within_ac claim 0 ((c.cl.length : Int) - 1)
    have w2 := within_ac tick 0 2000
    cases h1 : wI claim 0 ((c.cl.length : Int) - 1) with
    | false =>
      rw [h1] at w1
      rw [if_neg fun h => by have := wI_f h1; omega]
      (have hg : (987654321 : Nat) - 987654321 = 0 := rfl; have hr := hg; repeat' (first | refine aw_seq ?_ | (refine aw_skip ?_; try simp only [thenQ, blockQ, if_true, if_false, Nat.reduceEqDiff, reduceCtorEq]) | (refine aw_exit ?_; try simp only [thenQ, blockQ, if_true, if_false, Nat.reduceEqDiff, reduceCtorEq]) | refine aw_ret ?_ | refine aw_block ?_ | refine aw_condT rfl ?_ | refine aw_condF rfl ?_ | ((first | refine aw_region ?_ | refine acall0 (cv) ?_ | refine acall0 (w1) ?_ | refine ago_if (by omega) ?_ | skip); simp (config := {maxSteps := 10000000}) (disch := first | exact okYes (by kernel_rfl) | omega) only [thenQ, List.map, dI, List.length, Nat.zero_add, Nat.reduceAdd, Nat.reduceMul, envOf, ARun_none, AOpRun, aexec, D.isBot, FSt.ev, St.F, ↓eget_h, Bool.false_eq_true, Option.isSome, hget_n, or_self, ↓reduceIte, D.cells, AGo_ok, St.app, putO, eput_c, Nat.reduceBEq, eput_n, cond_false, hups, hput_n, ARun_nil, dropE_c, inL_n, dropE_n, eget_c, hget_c, beq_self_eq_true, cond_true, Nat.reduceLeDiff, List.drop, List.take, dB, Bool.not_true, inL_c, Option.map, run1, List.getElem?_cons_zero, cls_len, isSh, abin, fits, Bool.not_false, blockQ])))
      all_goals (refine end_to [] [] (by first | exact .inl rfl | exact .inr rfl) rfl (by kernel_rfl) (by kernel_rfl) (by kernel_rfl) ?_ ?_ <;> repeat' (first | exact trivial | exact vr_val _))
    | true =>
      rw [h1] at w1
      cases h2 : wI tick 0 2000 with
      | false =>
        rw [h2] at w2
        rw [if_neg fun h => by have := wI_f h2; omega]
        (have hg : (987654321 : Nat) - 987654321 = 0 := rfl; have hr := hg; repeat' (first | refine aw_seq ?_ | (refine aw_skip ?_; try simp only [thenQ, blockQ, if_true, if_false, Nat.reduceEqDiff, reduceCtorEq]) | (refine aw_exit ?_; try simp only [thenQ, blockQ, if_true, if_false, Nat.reduceEqDiff, reduceCtorEq]) | refine aw_ret ?_ | refine aw_block ?_ | refine aw_condT rfl ?_ | refine aw_condF rfl ?_ | ((first | refine aw_region ?_ | refine acall0 (cv) ?_ | refine acall0 (w1) ?_ | refine acall0 (w2) ?_ | refine ago_if (by omega) ?_ | skip); simp (config := {maxSteps := 10000000}) (disch := first | exact okYes (by kernel_rfl) | omega) only [thenQ, List.map, dI, List.length, Nat.zero_add, Nat.reduceAdd, Nat.reduceMul, envOf, ARun_none, AOpRun, aexec, D.isBot, FSt.ev, St.F, ↓eget_h, Bool.false_eq_true, Option.isSome, hget_n, or_self, ↓reduceIte, D.cells, AGo_ok, St.app, putO, eput_c, Nat.reduceBEq, eput_n, cond_false, hups, hput_n, ARun_nil, dropE_c, inL_n, dropE_n, eget_c, hget_c, beq_self_eq_true, cond_true, Nat.reduceLeDiff, List.drop, List.take, dB, Bool.not_true, inL_c, Option.map, run1, List.getElem?_cons_zero, cls_len, isSh, abin, fits, Bool.not_false, blockQ])))
        all_goals (refine end_to [] [] (by first | exact .inl rfl | exact .inr rfl) rfl (by kernel_rfl) (by kernel_rfl) (by kernel_rfl) ?_ ?_ <;> repeat' (first | exact trivial | exact vr_val _))
      | true =>
        rw [h2] at w2
        rw [if_pos (by have := wI_t h1; have := wI_t h2; omega)]
        (have hg : (987654321 : Nat) - 987654321 = 0 := rfl; have hr := hg; repeat' (first | refine aw_seq ?_ | (refine aw_skip ?_; try simp only [thenQ, blockQ, if_true, if_false, Nat.reduceEqDiff, reduceCtorEq]) | (refine aw_exit ?_; try simp only [thenQ, blockQ, if_true, if_false, Nat.reduceEqDiff, reduceCtorEq]) | refine aw_ret ?_ | refine aw_block ?_ | refine aw_condT rfl ?_ | refine aw_condF rfl ?_ | ((first | refine aw_region ?_ | refine acall0 (cv) ?_ | refine acall0 (w1) ?_ | refine acall0 (w2) ?_ | refine ago_if (by omega) ?_ | skip); simp (config := {maxSteps := 10000000}) (disch := first | exact okYes (by kernel_rfl) | omega) only [thenQ, List.map, dI, List.length, Nat.zero_add, Nat.reduceAdd, Nat.reduceMul, envOf, ARun_none, AOpRun, aexec, D.isBot, FSt.ev, St.F, ↓eget_h, Bool.false_eq_true, Option.isSome, hget_n, or_self, ↓reduceIte, D.cells, AGo_ok, St.app, putO, eput_c, Nat.reduceBEq, eput_n, cond_false, hups, hput_n, ARun_nil, dropE_c, inL_n, dropE_n, eget_c, hget_c, beq_self_eq_true, cond_true, Nat.reduceLeDiff, List.drop, List.take, dB, Bool.not_true, inL_c, Option.map, run1, List.getElem?_cons_zero, cls_len, isSh, abin, fits])))
        all_goals (refine end_to [] [] (by first | exact .inl rfl | exact .inr rfl) rfl (by kernel_rfl) (by kernel_rfl) (by kernel_rfl) ?_ ?_ <;> repeat' (first | exact trivial | exact vr_val _))
end Go.Proofs.Ytdcodicoclecnaa
/- The functions' bodies, translated. Written by a program; no conditions. -/
namespace Go.Proofs.Ytdcodicoclecnaa
open Go.RowKit Lift

/-- ref12_rising -/
def cref12_rising : ACode :=
  (.seq
   (.region false [⟨some 4, .mv (.const (.bool false)), none, []⟩] [])
  (.seq
   (.seq
    (.region false [⟨some 5, .mv (.const (.int .i64 0)), none, []⟩] [])
   (.block 0
     (.loop
       (.seq
        (.seq
         (.region false [⟨some 6, .mv (.tmp 5), none, []⟩,
           ⟨some 7, .mv (.tmp 0), none, []⟩,
           ⟨some 8, .len_ (.tmp 7), none, []⟩,
           ⟨some 9, .bin .lss (.tmp 6) (.tmp 8), none, []⟩] [6, 7, 8])
        (.cond (.tmp 9)
          .skip
          (.exit 0)))
       (.seq
        (.block 1
          (.seq
           (.region true [⟨some 12, .mv (.tmp 0), none, []⟩,
             ⟨some 13, .mv (.tmp 5), none, []⟩,
             ⟨some 14, .iadS 1 (.tmp 12) (.tmp 13), none, [0, 1]⟩,
             ⟨some 15, .load1 (.tmp 14), none, [2, 0, 1]⟩,
             ⟨some 16, .mv (.tmp 1), none, []⟩,
             ⟨some 17, .call (.func 79) [(.tmp 15), (.const (.int .i64 0)), (.tmp 16)], none, [3, 2, 0, 1, 4]⟩,
             ⟨some 18, .un .not (.tmp 17), none, [5, 3, 2, 0, 1, 4]⟩,
             ⟨some 19, .mv (.tmp 18), none, [6, 5, 3, 2, 0, 1, 4]⟩,
             ⟨some 20, .mv (.tmp 5), (some (some 19, false)), [7, 6, 5, 3, 2, 0, 1, 4]⟩,
             ⟨some 21, .bin .gtr (.tmp 20) (.const (.int .i64 0)), (some (some 19, false)), [8, 7, 6, 5, 3, 2, 0, 1, 4]⟩,
             ⟨some 22, .mv (.tmp 21), (some (some 19, false)), [9, 8, 7, 6, 5, 3, 2, 0, 1, 4]⟩,
             ⟨some 23, .mv (.tmp 0), (some (some 22, true)), [10, 9, 8, 7, 6, 5, 3, 2, 0, 1, 4]⟩,
             ⟨some 24, .mv (.tmp 5), (some (some 22, true)), [10, 9, 8, 7, 6, 5, 3, 2, 0, 1, 4]⟩,
             ⟨some 25, .iadS 1 (.tmp 23) (.tmp 24), (some (some 22, true)), [11, 10, 9, 8, 7, 6, 5, 3, 2, 0, 1, 4, 12]⟩,
             ⟨some 26, .load1 (.tmp 25), (some (some 22, true)), [13, 11, 10, 9, 8, 7, 6, 5, 3, 2, 0, 1, 4, 12]⟩,
             ⟨some 27, .mv (.tmp 0), (some (some 22, true)), [10, 9, 8, 7, 6, 5, 3, 2, 0, 1, 4]⟩,
             ⟨some 28, .mv (.tmp 5), (some (some 22, true)), [10, 9, 8, 7, 6, 5, 3, 2, 0, 1, 4]⟩,
             ⟨some 29, .bin .sub (.tmp 28) (.const (.int .i64 1)), (some (some 22, true)), [16, 10, 9, 8, 7, 6, 5, 3, 2, 0, 1, 4]⟩,
             ⟨some 30, .iadS 1 (.tmp 27) (.tmp 29), (some (some 22, true)), [15, 10, 9, 8, 7, 6, 5, 3, 2, 0, 1, 4, 17, 16]⟩,
             ⟨some 31, .load1 (.tmp 30), (some (some 22, true)), [18, 15, 10, 9, 8, 7, 6, 5, 3, 2, 0, 1, 4, 17, 16]⟩,
             ⟨some 32, .bin .leq (.tmp 26) (.tmp 31), (some (some 22, true)), [14, 13, 11, 10, 9, 8, 7, 6, 5, 3, 2, 0, 1, 4, 12, 19, 18, 15, 17, 16]⟩,
             ⟨some 33, .pick (.tmp 22) (.tmp 32) (.const (.bool false)), (some (some 19, false)), [10, 9, 8, 7, 6, 5, 3, 2, 0, 1, 4, 20, 14, 13, 11, 12, 19, 18, 15, 17, 16]⟩,
             ⟨some 34, .pick (.tmp 19) (.const (.bool true)) (.tmp 33), none, [7, 6, 5, 3, 2, 0, 1, 4, 21, 10, 9, 8, 20, 14, 13, 11, 12, 19, 18, 15, 17, 16]⟩] [12, 13, 14, 15, 16, 17, 18, 19, 20, 21, 22, 23, 24, 25, 26, 27, 28, 29, 30, 31, 32, 33])
          (.cond (.tmp 34)
            (.seq
             (.region false [⟨some 4, .mv (.const (.bool false)), none, []⟩] [])
            .ret)
            .skip)))
       (.region false [⟨some 10, .mv (.tmp 5), none, []⟩,
         ⟨some 11, .bin .add (.tmp 10) (.const (.int .i64 1)), none, []⟩,
         ⟨some 5, .mv (.tmp 11), none, []⟩] [10, 11]))))))
  (.seq
   (.region false [⟨some 4, .mv (.const (.bool true)), none, []⟩] [])
  .ret)))
set_option maxRecDepth 100000 in
theorem kref12_rising : IsCode Try.prog 122 35 cref12_rising [.tmp 4] :=
  ⟨Try.f122, _, [34, 9, 5, 0, 1, 4], Try.func122, rfl, by decide, rfl, by kernel_rfl, by kernel_rfl⟩
/-- ref12_CheckCase -/
def cref12_CheckCase : ACode :=
  (.seq
   (.region false [⟨some 1, .box (.tmp 0), none, []⟩,
     ⟨some 2, .mv (.const (.int .i64 0)), none, []⟩] [])
  (.seq
   (.seq
    (.region false [⟨some 5, .fad 0 (.tmp 1), none, []⟩,
      ⟨some 6, .load1 (.tmp 5), none, []⟩,
      ⟨some 7, .len_ (.tmp 6), none, []⟩,
      ⟨some 8, .bin .gtr (.tmp 7) (.const (.int .i64 16)), none, []⟩,
      ⟨some 9, .mv (.tmp 8), none, []⟩,
      ⟨some 10, .fad 1 (.tmp 1), (some (some 9, false)), []⟩,
      ⟨some 11, .load1 (.tmp 10), (some (some 9, false)), []⟩,
      ⟨some 12, .len_ (.tmp 11), (some (some 9, false)), []⟩,
      ⟨some 13, .bin .gtr (.tmp 12) (.const (.int .i64 12)), (some (some 9, false)), []⟩,
      ⟨some 14, .pick (.tmp 9) (.const (.bool true)) (.tmp 13), none, []⟩] [5, 6, 7, 8, 9, 10, 11, 12, 13])
   (.cond (.tmp 14)
     (.seq
      (.region false [⟨some 2, .mv (.const (.int .i64 122)), none, []⟩] [])
     .ret)
     .skip))
  (.seq
   (.seq
    (.region false [⟨some 3, .mv (.const (.int .i64 0)), none, []⟩] [])
   (.block 0
     (.loop
       (.seq
        (.seq
         (.region false [⟨some 15, .mv (.tmp 3), none, []⟩,
           ⟨some 16, .fad 0 (.tmp 1), none, []⟩,
           ⟨some 17, .load1 (.tmp 16), none, []⟩,
           ⟨some 18, .len_ (.tmp 17), none, []⟩,
           ⟨some 19, .bin .lss (.tmp 15) (.tmp 18), none, []⟩] [15, 16, 17, 18])
        (.cond (.tmp 19)
          .skip
          (.exit 0)))
       (.seq
        (.block 1
          (.seq
           (.region true [⟨some 22, .fad 0 (.tmp 1), none, []⟩,
             ⟨some 23, .load1 (.tmp 22), none, [0]⟩,
             ⟨some 24, .mv (.tmp 3), none, []⟩,
             ⟨some 25, .iadS 3 (.tmp 23) (.tmp 24), none, [1, 0, 2]⟩,
             ⟨some 26, .fad 0 (.tmp 25), none, [3, 1, 0, 2]⟩,
             ⟨some 27, .load1 (.tmp 26), none, [4, 3, 1, 0, 2]⟩,
             ⟨some 28, .mv (.tmp 3), none, []⟩,
             ⟨some 29, .bin .sub (.tmp 28) (.const (.int .i64 1)), none, [6]⟩,
             ⟨some 30, .call (.func 122) [(.tmp 27), (.tmp 29)], none, [5, 4, 3, 1, 0, 2, 7, 6]⟩,
             ⟨some 31, .un .not (.tmp 30), none, [8, 5, 4, 3, 1, 0, 2, 7, 6]⟩,
             ⟨some 32, .mv (.tmp 31), none, [9, 8, 5, 4, 3, 1, 0, 2, 7, 6]⟩,
             ⟨some 33, .fad 0 (.tmp 1), (some (some 32, false)), [10, 9, 8, 5, 4, 3, 1, 0, 2, 7, 6]⟩,
             ⟨some 34, .load1 (.tmp 33), (some (some 32, false)), [11, 10, 9, 8, 5, 4, 3, 1, 0, 2, 7, 6]⟩,
             ⟨some 35, .mv (.tmp 3), (some (some 32, false)), [10, 9, 8, 5, 4, 3, 1, 0, 2, 7, 6]⟩,
             ⟨some 36, .iadS 3 (.tmp 34) (.tmp 35), (some (some 32, false)), [12, 11, 10, 9, 8, 5, 4, 3, 1, 0, 2, 7, 6, 13]⟩,
             ⟨some 37, .fad 1 (.tmp 36), (some (some 32, false)), [14, 12, 11, 10, 9, 8, 5, 4, 3, 1, 0, 2, 7, 6, 13]⟩,
             ⟨some 38, .load1 (.tmp 37), (some (some 32, false)), [15, 14, 12, 11, 10, 9, 8, 5, 4, 3, 1, 0, 2, 7, 6, 13]⟩,
             ⟨some 39, .fad 1 (.tmp 1), (some (some 32, false)), [10, 9, 8, 5, 4, 3, 1, 0, 2, 7, 6]⟩,
             ⟨some 40, .load1 (.tmp 39), (some (some 32, false)), [17, 10, 9, 8, 5, 4, 3, 1, 0, 2, 7, 6]⟩,
             ⟨some 41, .len_ (.tmp 40), (some (some 32, false)), [18, 17, 10, 9, 8, 5, 4, 3, 1, 0, 2, 7, 6]⟩,
             ⟨some 42, .bin .sub (.tmp 41) (.const (.int .i64 1)), (some (some 32, false)), [19, 18, 17, 10, 9, 8, 5, 4, 3, 1, 0, 2, 7, 6]⟩,
             ⟨some 43, .call (.func 122) [(.tmp 38), (.tmp 42)], (some (some 32, false)), [16, 15, 14, 12, 11, 10, 9, 8, 5, 4, 3, 1, 0, 2, 7, 6, 13, 20, 19, 18, 17]⟩,
             ⟨some 44, .un .not (.tmp 43), (some (some 32, false)), [21, 16, 15, 14, 12, 11, 10, 9, 8, 5, 4, 3, 1, 0, 2, 7, 6, 13, 20, 19, 18, 17]⟩,
             ⟨some 45, .pick (.tmp 32) (.const (.bool true)) (.tmp 44), none, [10, 9, 8, 5, 4, 3, 1, 0, 2, 7, 6, 22, 21, 16, 15, 14, 12, 11, 13, 20, 19, 18, 17]⟩] [22, 23, 24, 25, 26, 27, 28, 29, 30, 31, 32, 33, 34, 35, 36, 37, 38, 39, 40, 41, 42, 43, 44])
          (.cond (.tmp 45)
            (.seq
             (.region false [⟨some 2, .mv (.const (.int .i64 122)), none, []⟩] [])
            .ret)
            .skip)))
       (.region false [⟨some 20, .mv (.tmp 3), none, []⟩,
         ⟨some 21, .bin .add (.tmp 20) (.const (.int .i64 1)), none, []⟩,
         ⟨some 3, .mv (.tmp 21), none, []⟩] [20, 21]))))))
  (.seq
   (.seq
    (.region false [⟨some 4, .mv (.const (.int .i64 0)), none, []⟩] [])
   (.block 2
     (.loop
       (.seq
        (.seq
         (.region false [⟨some 46, .mv (.tmp 4), none, []⟩,
           ⟨some 47, .fad 1 (.tmp 1), none, []⟩,
           ⟨some 48, .load1 (.tmp 47), none, []⟩,
           ⟨some 49, .len_ (.tmp 48), none, []⟩,
           ⟨some 50, .bin .lss (.tmp 46) (.tmp 49), none, []⟩] [46, 47, 48, 49])
        (.cond (.tmp 50)
          .skip
          (.exit 2)))
       (.seq
        (.block 3
          (.seq
           (.region false [⟨some 53, .fad 1 (.tmp 1), none, []⟩,
             ⟨some 54, .load1 (.tmp 53), none, []⟩,
             ⟨some 55, .mv (.tmp 4), none, []⟩,
             ⟨some 56, .iadS 2 (.tmp 54) (.tmp 55), none, []⟩,
             ⟨some 57, .loadN 2 (.tmp 56), none, []⟩,
             ⟨some 58, .call (.func 123) [(.tmp 57)], none, []⟩,
             ⟨some 59, .un .not (.tmp 58), none, []⟩,
             ⟨some 60, .mv (.tmp 59), none, []⟩,
             ⟨some 61, .fad 1 (.tmp 1), (some (some 60, false)), []⟩,
             ⟨some 62, .load1 (.tmp 61), (some (some 60, false)), []⟩,
             ⟨some 63, .mv (.tmp 4), (some (some 60, false)), []⟩,
             ⟨some 64, .iadS 2 (.tmp 62) (.tmp 63), (some (some 60, false)), []⟩,
             ⟨some 65, .fad 0 (.tmp 64), (some (some 60, false)), []⟩,
             ⟨some 66, .load1 (.tmp 65), (some (some 60, false)), []⟩,
             ⟨some 67, .bin .lss (.tmp 66) (.const (.int .i64 0)), (some (some 60, false)), []⟩,
             ⟨some 68, .pick (.tmp 60) (.const (.bool true)) (.tmp 67), none, []⟩,
             ⟨some 69, .mv (.tmp 68), none, []⟩,
             ⟨some 70, .fad 1 (.tmp 1), (some (some 69, false)), []⟩,
             ⟨some 71, .load1 (.tmp 70), (some (some 69, false)), []⟩,
             ⟨some 72, .mv (.tmp 4), (some (some 69, false)), []⟩,
             ⟨some 73, .iadS 2 (.tmp 71) (.tmp 72), (some (some 69, false)), []⟩,
             ⟨some 74, .fad 1 (.tmp 73), (some (some 69, false)), []⟩,
             ⟨some 75, .load1 (.tmp 74), (some (some 69, false)), []⟩,
             ⟨some 76, .bin .gtr (.tmp 75) (.const (.int .i64 2000)), (some (some 69, false)), []⟩,
             ⟨some 77, .pick (.tmp 69) (.const (.bool true)) (.tmp 76), none, []⟩] [53, 54, 55, 56, 57, 58, 59, 60, 61, 62, 63, 64, 65, 66, 67, 68, 69, 70, 71, 72, 73, 74, 75, 76])
          (.cond (.tmp 77)
            (.seq
             (.region false [⟨some 2, .mv (.const (.int .i64 122)), none, []⟩] [])
            .ret)
            .skip)))
       (.region false [⟨some 51, .mv (.tmp 4), none, []⟩,
         ⟨some 52, .bin .add (.tmp 51) (.const (.int .i64 1)), none, []⟩,
         ⟨some 4, .mv (.tmp 52), none, []⟩] [51, 52]))))))
  (.seq
   (.region false [⟨some 2, .mv (.const (.int .i64 0)), none, []⟩] [])
  .ret)))))
set_option maxRecDepth 100000 in
theorem kref12_CheckCase : IsCode Try.prog 92 78 cref12_CheckCase [.tmp 2] :=
  ⟨Try.f92, _, [77, 50, 45, 19, 14, 0, 1, 3, 4, 2], Try.func92, rfl, by decide, rfl, by kernel_rfl, by kernel_rfl⟩
/-- ref12_CheckClaim -/
def cref12_CheckClaim : ACode :=
  (.seq
   (.region false [⟨some 3, .box (.tmp 0), none, []⟩,
     ⟨some 6, .mv (.const (.int .i64 0)), none, []⟩] [])
  (.seq
   (.region false [⟨some 8, .loadN 2 (.tmp 3), none, []⟩,
     ⟨some 9, .call (.func 92) [(.tmp 8)], none, []⟩,
     ⟨some 7, .mv (.tmp 9), none, []⟩] [8, 9])
  (.seq
   (.seq
    (.region false [⟨some 10, .mv (.tmp 7), none, []⟩,
      ⟨some 11, .bin .neq (.tmp 10) (.const (.int .i64 0)), none, []⟩] [10])
   (.cond (.tmp 11)
     (.seq
      (.region false [⟨some 12, .mv (.tmp 7), none, []⟩,
        ⟨some 6, .mv (.tmp 12), none, []⟩] [12])
     .ret)
     .skip))
  (.seq
   (.seq
    (.region false [⟨some 13, .mv (.tmp 1), none, []⟩,
      ⟨some 14, .fad 0 (.tmp 3), none, []⟩,
      ⟨some 15, .load1 (.tmp 14), none, []⟩,
      ⟨some 16, .len_ (.tmp 15), none, []⟩,
      ⟨some 17, .bin .sub (.tmp 16) (.const (.int .i64 1)), none, []⟩,
      ⟨some 18, .call (.func 79) [(.tmp 13), (.const (.int .i64 0)), (.tmp 17)], none, []⟩,
      ⟨some 19, .un .not (.tmp 18), none, []⟩,
      ⟨some 20, .mv (.tmp 19), none, []⟩,
      ⟨some 21, .mv (.tmp 2), (some (some 20, false)), []⟩,
      ⟨some 22, .call (.func 79) [(.tmp 21), (.const (.int .i64 0)), (.const (.int .i64 2000))], (some (some 20, false)), []⟩,
      ⟨some 23, .un .not (.tmp 22), (some (some 20, false)), []⟩,
      ⟨some 24, .pick (.tmp 20) (.const (.bool true)) (.tmp 23), none, []⟩] [13, 14, 15, 16, 17, 18, 19, 20, 21, 22, 23])
   (.cond (.tmp 24)
     (.seq
      (.region false [⟨some 6, .mv (.const (.int .i64 1)), none, []⟩] [])
     .ret)
     .skip))
  (.seq
   (.region false [⟨some 6, .mv (.const (.int .i64 0)), none, []⟩] [])
  .ret)))))
set_option maxRecDepth 100000 in
theorem kref12_CheckClaim : IsCode Try.prog 43 25 cref12_CheckClaim [.tmp 6] :=
  ⟨Try.f43, _, [24, 11, 0, 3, 7, 1, 2, 6], Try.func43, rfl, by decide, rfl, by kernel_rfl, by kernel_rfl⟩
/-- ref12_CopyCase -/
def cref12_CopyCase : ACode :=
  (.seq
   (.region false [⟨some 1, .box (.tmp 0), none, []⟩,
     ⟨some 2, .mem [(.val (.slice none 0 0)), (.val (.slice none 0 0))], none, []⟩] [])
  (.seq
   (.region false [⟨some 6, .buildSl 2 0 [] [], none, []⟩,
     ⟨some 7, .fad 1 (.tmp 1), none, []⟩,
     ⟨some 8, .load1 (.tmp 7), none, []⟩,
     ⟨some 9, .app 2 16 (.tmp 6) (.tmp 8), none, []⟩,
     ⟨some 10, .build [(.val (.slice none 0 0)), (.val (.slice none 0 0))] [(1, 1, (.tmp 9))], none, []⟩,
     ⟨some 3, .mem [(.val (.slice none 0 0)), (.val (.slice none 0 0))], none, []⟩,
     ⟨none, .store 2 (.tmp 3) (.tmp 10), none, []⟩] [6, 7, 8, 9, 10])
  (.seq
   (.seq
    (.region false [⟨some 4, .mv (.const (.int .i64 0)), none, []⟩] [])
   (.block 0
     (.loop
       (.seq
        (.seq
         (.region false [⟨some 11, .mv (.tmp 4), none, []⟩,
           ⟨some 12, .fad 0 (.tmp 1), none, []⟩,
           ⟨some 13, .load1 (.tmp 12), none, []⟩,
           ⟨some 14, .len_ (.tmp 13), none, []⟩,
           ⟨some 15, .bin .lss (.tmp 11) (.tmp 14), none, []⟩] [11, 12, 13, 14])
        (.cond (.tmp 15)
          .skip
          (.exit 0)))
       (.seq
        (.block 1
          (.seq
           (.region false [⟨some 18, .fad 0 (.tmp 1), none, []⟩,
             ⟨some 19, .load1 (.tmp 18), none, []⟩,
             ⟨some 20, .mv (.tmp 4), none, []⟩,
             ⟨some 21, .iadS 3 (.tmp 19) (.tmp 20), none, []⟩,
             ⟨some 22, .loadN 3 (.tmp 21), none, []⟩,
             ⟨some 5, .mem [(.val (.slice none 0 0)), (.val (.slice none 0 0)), (.val (.bool false))], none, []⟩,
             ⟨none, .store 3 (.tmp 5) (.tmp 22), none, []⟩] [18, 19, 20, 21, 22])
          (.region true [⟨some 23, .fad 0 (.tmp 3), none, []⟩,
            ⟨some 24, .load1 (.tmp 23), none, [0]⟩,
            ⟨some 25, .buildSl 1 0 [] [], none, []⟩,
            ⟨some 26, .fad 0 (.tmp 5), none, []⟩,
            ⟨some 27, .load1 (.tmp 26), none, [3]⟩,
            ⟨some 28, .app 1 8 (.tmp 25) (.tmp 27), none, [2, 4, 3]⟩,
            ⟨some 29, .buildSl 1 0 [] [], none, []⟩,
            ⟨some 30, .fad 1 (.tmp 5), none, []⟩,
            ⟨some 31, .load1 (.tmp 30), none, [7]⟩,
            ⟨some 32, .app 1 8 (.tmp 29) (.tmp 31), none, [6, 8, 7, 5, 2, 4, 3]⟩,
            ⟨some 33, .fad 2 (.tmp 5), none, []⟩,
            ⟨some 34, .load1 (.tmp 33), none, [10]⟩,
            ⟨some 35, .build [(.val (.slice none 0 0)), (.val (.slice none 0 0)), (.val (.bool false))] [(0, 1, (.tmp 28)), (1, 1, (.tmp 32)), (2, 1, (.tmp 34))], none, [5, 2, 4, 3, 9, 6, 8, 7, 11, 10]⟩,
            ⟨some 36, .buildSl 3 1 [(.val (.slice none 0 0)), (.val (.slice none 0 0)), (.val (.bool false))] [(0, 3, (.tmp 35))], none, [12, 5, 2, 4, 3, 9, 6, 8, 7, 11, 10]⟩,
            ⟨some 37, .app 3 56 (.tmp 24) (.tmp 36), none, [1, 0, 13, 12, 5, 2, 4, 3, 9, 6, 8, 7, 11, 10]⟩,
            ⟨some 38, .fad 0 (.tmp 3), none, [0, 1, 2, 3, 4, 5, 6, 7, 8, 9, 10, 11, 12, 13, 14]⟩,
            ⟨none, .store 1 (.tmp 38) (.tmp 37), none, [15, 0, 1, 2, 3, 4, 5, 6, 7, 8, 9, 10, 11, 12, 13, 14]⟩] [23, 24, 25, 26, 27, 28, 29, 30, 31, 32, 33, 34, 35, 36, 37, 38])))
       (.region false [⟨some 16, .mv (.tmp 4), none, []⟩,
         ⟨some 17, .bin .add (.tmp 16) (.const (.int .i64 1)), none, []⟩,
         ⟨some 4, .mv (.tmp 17), none, []⟩] [16, 17]))))))
  (.seq
   (.region false [⟨some 39, .loadN 2 (.tmp 3), none, []⟩,
     ⟨none, .store 2 (.tmp 2) (.tmp 39), none, []⟩] [39])
  .ret))))
set_option maxRecDepth 100000 in
theorem kref12_CopyCase : IsCode Try.prog 34 40 cref12_CopyCase [.cellN 2 2] :=
  ⟨Try.f34, _, [15, 0, 1, 4, 3, 5, 2], Try.func34, rfl, by decide, rfl, by kernel_rfl, by kernel_rfl⟩
/-- law12_FarCase -/
def claw12_FarCase : ACode :=
  (.seq
   (.region false [⟨some 1, .box (.tmp 0), none, []⟩,
     ⟨some 2, .mv (.const (.bool false)), none, []⟩] [])
  (.seq
   (.seq
    (.region false [⟨some 4, .fad 0 (.tmp 1), none, []⟩,
      ⟨some 5, .load1 (.tmp 4), none, []⟩,
      ⟨some 6, .len_ (.tmp 5), none, []⟩,
      ⟨some 7, .bin .gtr (.tmp 6) (.const (.int .i64 20)), none, []⟩,
      ⟨some 8, .mv (.tmp 7), none, []⟩,
      ⟨some 9, .fad 1 (.tmp 1), (some (some 8, false)), []⟩,
      ⟨some 10, .load1 (.tmp 9), (some (some 8, false)), []⟩,
      ⟨some 11, .len_ (.tmp 10), (some (some 8, false)), []⟩,
      ⟨some 12, .bin .gtr (.tmp 11) (.const (.int .i64 16)), (some (some 8, false)), []⟩,
      ⟨some 13, .pick (.tmp 8) (.const (.bool true)) (.tmp 12), none, []⟩] [4, 5, 6, 7, 8, 9, 10, 11, 12])
   (.cond (.tmp 13)
     (.seq
      (.region false [⟨some 2, .mv (.const (.bool true)), none, []⟩] [])
     .ret)
     .skip))
  (.seq
   (.seq
    (.region false [⟨some 3, .mv (.const (.int .i64 0)), none, []⟩] [])
   (.block 0
     (.loop
       (.seq
        (.seq
         (.region false [⟨some 14, .mv (.tmp 3), none, []⟩,
           ⟨some 15, .fad 0 (.tmp 1), none, []⟩,
           ⟨some 16, .load1 (.tmp 15), none, []⟩,
           ⟨some 17, .len_ (.tmp 16), none, []⟩,
           ⟨some 18, .bin .lss (.tmp 14) (.tmp 17), none, []⟩] [14, 15, 16, 17])
        (.cond (.tmp 18)
          .skip
          (.exit 0)))
       (.seq
        (.block 1
          (.seq
           (.region false [⟨some 21, .fad 0 (.tmp 1), none, []⟩,
             ⟨some 22, .load1 (.tmp 21), none, []⟩,
             ⟨some 23, .mv (.tmp 3), none, []⟩,
             ⟨some 24, .iadS 3 (.tmp 22) (.tmp 23), none, []⟩,
             ⟨some 25, .fad 0 (.tmp 24), none, []⟩,
             ⟨some 26, .load1 (.tmp 25), none, []⟩,
             ⟨some 27, .len_ (.tmp 26), none, []⟩,
             ⟨some 28, .bin .gtr (.tmp 27) (.const (.int .i64 30)), none, []⟩,
             ⟨some 29, .mv (.tmp 28), none, []⟩,
             ⟨some 30, .fad 0 (.tmp 1), (some (some 29, false)), []⟩,
             ⟨some 31, .load1 (.tmp 30), (some (some 29, false)), []⟩,
             ⟨some 32, .mv (.tmp 3), (some (some 29, false)), []⟩,
             ⟨some 33, .iadS 3 (.tmp 31) (.tmp 32), (some (some 29, false)), []⟩,
             ⟨some 34, .fad 1 (.tmp 33), (some (some 29, false)), []⟩,
             ⟨some 35, .load1 (.tmp 34), (some (some 29, false)), []⟩,
             ⟨some 36, .len_ (.tmp 35), (some (some 29, false)), []⟩,
             ⟨some 37, .bin .gtr (.tmp 36) (.const (.int .i64 30)), (some (some 29, false)), []⟩,
             ⟨some 38, .pick (.tmp 29) (.const (.bool true)) (.tmp 37), none, []⟩] [21, 22, 23, 24, 25, 26, 27, 28, 29, 30, 31, 32, 33, 34, 35, 36, 37])
          (.cond (.tmp 38)
            (.seq
             (.region false [⟨some 2, .mv (.const (.bool true)), none, []⟩] [])
            .ret)
            .skip)))
       (.region false [⟨some 19, .mv (.tmp 3), none, []⟩,
         ⟨some 20, .bin .add (.tmp 19) (.const (.int .i64 1)), none, []⟩,
         ⟨some 3, .mv (.tmp 20), none, []⟩] [19, 20]))))))
  (.seq
   (.region false [⟨some 2, .mv (.const (.bool false)), none, []⟩] [])
  .ret))))
set_option maxRecDepth 100000 in
theorem klaw12_FarCase : IsCode Try.prog 33 39 claw12_FarCase [.tmp 2] :=
  ⟨Try.f33, _, [38, 18, 13, 0, 1, 3, 2], Try.func33, rfl, by decide, rfl, by kernel_rfl, by kernel_rfl⟩
/-- ref01_Valid -/
def cref01_Valid : ACode :=
  (.seq
   (.region false [⟨some 1, .box (.tmp 0), none, []⟩,
     ⟨some 2, .mv (.const (.bool false)), none, []⟩] [])
  (.seq
   (.region false [⟨some 3, .fad 0 (.tmp 1), none, []⟩,
     ⟨some 4, .load1 (.tmp 3), none, []⟩,
     ⟨some 5, .call (.func 150) [(.tmp 4), (.const (.int .i64 (-1000000))), (.const (.int .i64 1000000))], none, []⟩,
     ⟨some 6, .mv (.tmp 5), none, []⟩,
     ⟨some 7, .fad 1 (.tmp 1), (some (some 6, true)), []⟩,
     ⟨some 8, .load1 (.tmp 7), (some (some 6, true)), []⟩,
     ⟨some 9, .fad 0 (.tmp 1), (some (some 6, true)), []⟩,
     ⟨some 10, .load1 (.tmp 9), (some (some 6, true)), []⟩,
     ⟨some 11, .call (.func 150) [(.tmp 8), (.tmp 10), (.const (.int .i64 1000000))], (some (some 6, true)), []⟩,
     ⟨some 12, .pick (.tmp 6) (.tmp 11) (.const (.bool false)), none, []⟩,
     ⟨some 2, .mv (.tmp 12), none, []⟩] [3, 4, 5, 6, 7, 8, 9, 10, 11, 12])
  .ret))
set_option maxRecDepth 100000 in
theorem kref01_Valid : IsCode Try.prog 123 13 cref01_Valid [.tmp 2] :=
  ⟨Try.f123, _, [0, 1, 2], Try.func123, rfl, by decide, rfl, by kernel_rfl, by kernel_rfl⟩
/-- ref01_From -/
def cref01_From : ACode :=
  (.seq
   (.region false [⟨some 6, .mv (.const (.bool false)), none, []⟩] [])
  (.seq
   (.region false [⟨some 7, .mv (.tmp 0), none, []⟩,
     ⟨some 8, .mv (.tmp 1), none, []⟩,
     ⟨some 9, .bin .geq (.tmp 7) (.tmp 8), none, []⟩,
     ⟨some 10, .mv (.tmp 9), none, []⟩,
     ⟨some 11, .mv (.tmp 0), (some (some 10, true)), []⟩,
     ⟨some 12, .mv (.tmp 2), (some (some 10, true)), []⟩,
     ⟨some 13, .bin .leq (.tmp 11) (.tmp 12), (some (some 10, true)), []⟩,
     ⟨some 14, .pick (.tmp 10) (.tmp 13) (.const (.bool false)), none, []⟩,
     ⟨some 6, .mv (.tmp 14), none, []⟩] [7, 8, 9, 10, 11, 12, 13, 14])
  .ret))
set_option maxRecDepth 100000 in
theorem kref01_From : IsCode Try.prog 150 15 cref01_From [.tmp 6] :=
  ⟨Try.f150, _, [0, 1, 2, 6], Try.func150, rfl, by decide, rfl, by kernel_rfl, by kernel_rfl⟩
end Go.Proofs.Ytdcodicoclecnaa
