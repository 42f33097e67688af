/- Texts of the laws, shared part 8. No conditions. -/
import Derived.Test.YthohcimmoobaoaaPHang07
/- The hoist: its checks, the winch, what it carries. No conditions. -/
set_option linter.unusedSimpArgs false
set_option linter.unusedVariables false
namespace Go.Proofs.Ythohcimmoobaoaa
open Go.RowKit Lift

structure Hst where
  cable : Int
  xs : List Int
  ys : List Int
  vs : List (List Int)
  charge : Int
def hoC (h : Hst) : List D := [dI h.cable, .list (ints h.xs), .list (ints h.ys), .list (rows h.vs), dI h.charge]
def hoD (h : Hst) : D := .agg (hoC h)
structure HSm (h : Hst) : Prop where
  m : TSm h.xs h.ys h.vs
  x : ∀ x ∈ h.xs, -9223372036854775808 ≤ x ∧ x ≤ 9223372036854775807
  y : ∀ x ∈ h.ys, -9223372036854775808 ≤ x ∧ x ≤ 9223372036854775807
theorem hoC_in (S : Nat → Prop) (h : Hst) : ∀ d ∈ hoC h, In S d := by
  intro d hd
  simp only [hoC, List.mem_cons, List.not_mem_nil, or_false] at hd
  rcases hd with rfl | rfl | rfl | rfl | rfl <;> first | exact .val _ | exact .list _
theorem hoD_in (S : Nat → Prop) (h : Hst) : In S (hoD h) := .agg _ (hoC_in S h)
def hoB (h : Hst) : Bool := wI h.cable 1 100 && tabB h.xs h.ys h.vs && decide (h.xs[0]?.getD 0 ≤ 0) && decide (h.cable ≤ h.xs[h.xs.length - 1]?.getD 0) && wI h.charge 0 100
def hoE (h : Hst) : Int := if hoB h = true then 0 else 71
theorem Tbl.lens {xs ys : List Int} {vs : List (List Int)} (h : Tbl xs ys vs) : (2 ≤ xs.length ∧ xs.length ≤ 12) ∧ 2 ≤ ys.length ∧ ys.length ≤ 12 := by
  have := h.ax.two; have := h.ax.twelve; have := h.ay.two; have := h.ay.twelve; omega
set_option maxRecDepth 100000 in
set_option maxHeartbeats 1000000 in
theorem checkHoist_ac (h : Hst) (hS : HSm h) : AC Try.prog 30 [hoD h] [] [] (dI (hoE h)) := by
  refine ksling_CheckHoist.ac (n0 := 0) (by simp) ⟨hoD_in _ _, trivial⟩ trivial rfl ?_
  unfold csling_CheckHoist hoD hoC
  have ct := checkTable_ac h.xs h.ys h.vs hS.x hS.y
  cases c1 : wI h.cable 1 100 with
  | false =>
    have e : hoE h = 71 := by unfold hoE hoB; rw [c1]; simp
    rw [e]
    (have hg : (987654321 : Nat) - 987654321 = 0 := rfl; have hr := hg; repeat' (first | refine aw_seq ?_ | (refine aw_skip ?_; try simp only [thenQ, blockQ, if_true, if_false, Nat.reduceEqDiff, reduceCtorEq]) | (refine aw_exit ?_; try simp only [thenQ, blockQ, if_true, if_false, Nat.reduceEqDiff, reduceCtorEq]) | refine aw_ret ?_ | refine aw_block ?_ | refine aw_condT rfl ?_ | refine aw_condF rfl ?_ | ((first | refine aw_region ?_ | refine acall0 (swithin_ac _ _ _) ?_ | refine ago_if (by omega) ?_ | skip); simp (config := {maxSteps := 10000000}) (disch := first | exact okYes (by kernel_rfl) | omega) only [thenQ, List.map, dI, List.length, Nat.zero_add, Nat.reduceAdd, Nat.reduceMul, envOf, ARun_none, AOpRun, aexec, D.isBot, FSt.ev, St.F, ↓eget_h, Bool.false_eq_true, Option.isSome, hget_n, or_self, ↓reduceIte, D.cells, AGo_ok, St.app, putO, eput_c, Nat.reduceBEq, eput_n, cond_false, hups, hput_n, ARun_nil, dropE_c, inL_n, dropE_n, eget_c, Option.map, run1, hget_c, beq_self_eq_true, cond_true, List.getElem?_cons_succ, List.getElem?_cons_zero, inL_c, dB, c1, Bool.not_false, ARun_some, AG_tf])))
    all_goals (refine end_to [] [] (by first | exact .inl rfl | exact .inr rfl) rfl (by kernel_rfl) (by kernel_rfl) (by kernel_rfl) ?_ ?_ <;> repeat' (first | exact trivial | exact vr_val _))
  | true =>
  cases c2 : tabB h.xs h.ys h.vs with
  | false =>
    have e : hoE h = 71 := by unfold hoE hoB; rw [c2]; simp
    have e2 : tabErr h.xs h.ys h.vs = 11 := by unfold tabErr; rw [c2]; rfl
    rw [e]
    (have hg : (987654321 : Nat) - 987654321 = 0 := rfl; have hr := hg; repeat' (first | refine aw_seq ?_ | (refine aw_skip ?_; try simp only [thenQ, blockQ, if_true, if_false, Nat.reduceEqDiff, reduceCtorEq]) | (refine aw_exit ?_; try simp only [thenQ, blockQ, if_true, if_false, Nat.reduceEqDiff, reduceCtorEq]) | refine aw_ret ?_ | refine aw_block ?_ | refine aw_condT rfl ?_ | refine aw_condF rfl ?_ | ((first | refine aw_region ?_ | refine acall0 (swithin_ac _ _ _) ?_ | refine acall0 (ct) ?_ | refine ago_if (by omega) ?_ | skip); simp (config := {maxSteps := 10000000}) (disch := first | exact okYes (by kernel_rfl) | omega) only [thenQ, List.map, dI, List.length, Nat.zero_add, Nat.reduceAdd, Nat.reduceMul, envOf, ARun_none, AOpRun, aexec, D.isBot, FSt.ev, St.F, ↓eget_h, Bool.false_eq_true, Option.isSome, hget_n, or_self, ↓reduceIte, D.cells, AGo_ok, St.app, putO, eput_c, Nat.reduceBEq, eput_n, cond_false, hups, hput_n, ARun_nil, dropE_c, inL_n, dropE_n, eget_c, Option.map, run1, hget_c, beq_self_eq_true, cond_true, List.getElem?_cons_succ, List.getElem?_cons_zero, inL_c, dB, c1, Bool.not_true, ARun_some, AG_ff, Nat.reduceLeDiff, List.drop, List.take, e2, isSh, abin, Int.reduceBNe, AG_tf])))
    all_goals (refine end_to [] [] (by first | exact .inl rfl | exact .inr rfl) rfl (by kernel_rfl) (by kernel_rfl) (by kernel_rfl) ?_ ?_ <;> repeat' (first | exact trivial | exact vr_val _))
  | true =>
  have e2 : tabErr h.xs h.ys h.vs = 0 := by unfold tabErr; rw [c2]; rfl
  have hl := (tbl_of c2).lens
  have g0 := ints_gd h.xs 0 (by omega)
  have gl := ints_gd h.xs (h.xs.length - 1) (by omega)
  have tn : ((h.xs.length : Int) - 1).toNat = h.xs.length - 1 := by omega
  have hlt : h.xs.length - 1 < h.xs.length := by omega
  cases c3 : decide (h.xs[0]?.getD 0 > 0) with
  | true =>
    have e : hoE h = 71 := by
      have := of_decide_eq_true c3
      unfold hoE hoB; rw [decide_eq_false (by omega : ¬ h.xs[0]?.getD 0 ≤ 0)]; simp
    rw [e]
    (have hg : (987654321 : Nat) - 987654321 = 0 := rfl; have hr := hg; repeat' (first | refine aw_seq ?_ | (refine aw_skip ?_; try simp only [thenQ, blockQ, if_true, if_false, Nat.reduceEqDiff, reduceCtorEq]) | (refine aw_exit ?_; try simp only [thenQ, blockQ, if_true, if_false, Nat.reduceEqDiff, reduceCtorEq]) | refine aw_ret ?_ | refine aw_block ?_ | refine aw_condT rfl ?_ | refine aw_condF rfl ?_ | ((first | refine aw_region ?_ | refine acall0 (swithin_ac _ _ _) ?_ | refine acall0 (ct) ?_ | refine ago_if (by omega) ?_ | skip); simp (config := {maxSteps := 10000000}) (disch := first | exact okYes (by kernel_rfl) | omega) only [thenQ, List.map, dI, List.length, Nat.zero_add, Nat.reduceAdd, Nat.reduceMul, envOf, ARun_none, AOpRun, aexec, D.isBot, FSt.ev, St.F, ↓eget_h, Bool.false_eq_true, Option.isSome, hget_n, or_self, ↓reduceIte, D.cells, AGo_ok, St.app, putO, eput_c, Nat.reduceBEq, eput_n, cond_false, hups, hput_n, ARun_nil, dropE_c, inL_n, dropE_n, eget_c, Option.map, run1, hget_c, beq_self_eq_true, cond_true, List.getElem?_cons_succ, List.getElem?_cons_zero, inL_c, dB, c1, Bool.not_true, ARun_some, AG_ff, Nat.reduceLeDiff, List.drop, List.take, e2, isSh, abin, bne_self_eq_false, Int.le_refl, ints_all, and_self, opt1, Int.toNat_zero, g0, c3, AG_tf])))
    all_goals (refine end_to [] [] (by first | exact .inl rfl | exact .inr rfl) rfl (by kernel_rfl) (by kernel_rfl) (by kernel_rfl) ?_ ?_ <;> repeat' (first | exact trivial | exact vr_val _))
  | false =>
  cases c4 : decide (h.xs[h.xs.length - 1]?.getD 0 < h.cable) with
  | true =>
    have e : hoE h = 71 := by
      have := of_decide_eq_true c4
      unfold hoE hoB; rw [decide_eq_false (by omega : ¬ h.cable ≤ h.xs[h.xs.length - 1]?.getD 0)]; simp
    rw [e]
    (have hg : (987654321 : Nat) - 987654321 = 0 := rfl; have hr := hg; repeat' (first | refine aw_seq ?_ | (refine aw_skip ?_; try simp only [thenQ, blockQ, if_true, if_false, Nat.reduceEqDiff, reduceCtorEq]) | (refine aw_exit ?_; try simp only [thenQ, blockQ, if_true, if_false, Nat.reduceEqDiff, reduceCtorEq]) | refine aw_ret ?_ | refine aw_block ?_ | refine aw_condT rfl ?_ | refine aw_condF rfl ?_ | ((first | refine aw_region ?_ | refine acall0 (swithin_ac _ _ _) ?_ | refine acall0 (ct) ?_ | refine ago_if (by omega) ?_ | skip); simp (config := {maxSteps := 10000000}) (disch := first | exact okYes (by kernel_rfl) | omega) only [thenQ, List.map, dI, List.length, Nat.zero_add, Nat.reduceAdd, Nat.reduceMul, envOf, ARun_none, AOpRun, aexec, D.isBot, FSt.ev, St.F, ↓eget_h, Bool.false_eq_true, Option.isSome, hget_n, or_self, ↓reduceIte, D.cells, AGo_ok, St.app, putO, eput_c, Nat.reduceBEq, eput_n, cond_false, hups, hput_n, ARun_nil, dropE_c, inL_n, dropE_n, eget_c, Option.map, run1, hget_c, beq_self_eq_true, cond_true, List.getElem?_cons_succ, List.getElem?_cons_zero, inL_c, dB, c1, Bool.not_true, ARun_some, AG_ff, Nat.reduceLeDiff, List.drop, List.take, e2, isSh, abin, bne_self_eq_false, Int.le_refl, ints_all, and_self, opt1, Int.toNat_zero, g0, c3, ints_len, fits, and_true, tn, gl, c4, AG_tf])))
    all_goals (refine end_to [] [] (by first | exact .inl rfl | exact .inr rfl) rfl (by kernel_rfl) (by kernel_rfl) (by kernel_rfl) ?_ ?_ <;> repeat' (first | exact trivial | exact vr_val _))
  | false =>
  have f3 := of_decide_eq_false c3
  have f4 := of_decide_eq_false c4
  cases c5 : wI h.charge 0 100 with
  | false =>
    have e : hoE h = 71 := by unfold hoE hoB; rw [c5]; simp
    rw [e]
    (have hg : (987654321 : Nat) - 987654321 = 0 := rfl; have hr := hg; repeat' (first | refine aw_seq ?_ | (refine aw_skip ?_; try simp only [thenQ, blockQ, if_true, if_false, Nat.reduceEqDiff, reduceCtorEq]) | (refine aw_exit ?_; try simp only [thenQ, blockQ, if_true, if_false, Nat.reduceEqDiff, reduceCtorEq]) | refine aw_ret ?_ | refine aw_block ?_ | refine aw_condT rfl ?_ | refine aw_condF rfl ?_ | ((first | refine aw_region ?_ | refine acall0 (swithin_ac _ _ _) ?_ | refine acall0 (ct) ?_ | refine ago_if (by omega) ?_ | skip); simp (config := {maxSteps := 10000000}) (disch := first | exact okYes (by kernel_rfl) | omega) only [thenQ, List.map, dI, List.length, Nat.zero_add, Nat.reduceAdd, Nat.reduceMul, envOf, ARun_none, AOpRun, aexec, D.isBot, FSt.ev, St.F, ↓eget_h, Bool.false_eq_true, Option.isSome, hget_n, or_self, ↓reduceIte, D.cells, AGo_ok, St.app, putO, eput_c, Nat.reduceBEq, eput_n, cond_false, hups, hput_n, ARun_nil, dropE_c, inL_n, dropE_n, eget_c, Option.map, run1, hget_c, beq_self_eq_true, cond_true, List.getElem?_cons_succ, List.getElem?_cons_zero, inL_c, dB, c1, Bool.not_true, ARun_some, AG_ff, Nat.reduceLeDiff, List.drop, List.take, e2, isSh, abin, bne_self_eq_false, Int.le_refl, ints_all, and_self, opt1, Int.toNat_zero, g0, c3, ints_len, fits, and_true, tn, gl, c4, c5, Bool.not_false])))
    all_goals (refine end_to [] [] (by first | exact .inl rfl | exact .inr rfl) rfl (by kernel_rfl) (by kernel_rfl) (by kernel_rfl) ?_ ?_ <;> repeat' (first | exact trivial | exact vr_val _))
  | true =>
    have e : hoE h = 0 := by unfold hoE hoB; rw [c1, c2, c5, decide_eq_true (by omega : h.xs[0]?.getD 0 ≤ 0), decide_eq_true (by omega : h.cable ≤ h.xs[h.xs.length - 1]?.getD 0)]; rfl
    rw [e]
    (have hg : (987654321 : Nat) - 987654321 = 0 := rfl; have hr := hg; repeat' (first | refine aw_seq ?_ | (refine aw_skip ?_; try simp only [thenQ, blockQ, if_true, if_false, Nat.reduceEqDiff, reduceCtorEq]) | (refine aw_exit ?_; try simp only [thenQ, blockQ, if_true, if_false, Nat.reduceEqDiff, reduceCtorEq]) | refine aw_ret ?_ | refine aw_block ?_ | refine aw_condT rfl ?_ | refine aw_condF rfl ?_ | ((first | refine aw_region ?_ | refine acall0 (swithin_ac _ _ _) ?_ | refine acall0 (ct) ?_ | refine ago_if (by omega) ?_ | skip); simp (config := {maxSteps := 10000000}) (disch := first | exact okYes (by kernel_rfl) | omega) only [thenQ, List.map, dI, List.length, Nat.zero_add, Nat.reduceAdd, Nat.reduceMul, envOf, ARun_none, AOpRun, aexec, D.isBot, FSt.ev, St.F, ↓eget_h, Bool.false_eq_true, Option.isSome, hget_n, or_self, ↓reduceIte, D.cells, AGo_ok, St.app, putO, eput_c, Nat.reduceBEq, eput_n, cond_false, hups, hput_n, ARun_nil, dropE_c, inL_n, dropE_n, eget_c, Option.map, run1, hget_c, beq_self_eq_true, cond_true, List.getElem?_cons_succ, List.getElem?_cons_zero, inL_c, dB, c1, Bool.not_true, ARun_some, AG_ff, Nat.reduceLeDiff, List.drop, List.take, e2, isSh, abin, bne_self_eq_false, Int.le_refl, ints_all, and_self, opt1, Int.toNat_zero, g0, c3, ints_len, fits, and_true, tn, gl, c4, c5])))
    all_goals (refine end_to [] [] (by first | exact .inl rfl | exact .inr rfl) rfl (by kernel_rfl) (by kernel_rfl) (by kernel_rfl) ?_ ?_ <;> repeat' (first | exact trivial | exact vr_val _))
set_option maxRecDepth 100000 in
set_option maxHeartbeats 1000000 in
theorem rcheckHoist_ac (h : Hst) (hS : HSm h) : AC Try.prog 31 [hoD h] [] [] (dI (hoE h)) := by
  refine kref07_CheckHoist.ac (n0 := 0) (by simp) ⟨hoD_in _ _, trivial⟩ trivial rfl ?_
  unfold cref07_CheckHoist hoD hoC
  have ct := rcheckTable_ac hS.m
  cases c1 : wI h.cable 1 100 with
  | false =>
    have e : hoE h = 71 := by unfold hoE hoB; rw [c1]; simp
    rw [e]
    (have hg : (987654321 : Nat) - 987654321 = 0 := rfl; have hr := hg; repeat' (first | refine aw_seq ?_ | (refine aw_skip ?_; try simp only [thenQ, blockQ, if_true, if_false, Nat.reduceEqDiff, reduceCtorEq]) | (refine aw_exit ?_; try simp only [thenQ, blockQ, if_true, if_false, Nat.reduceEqDiff, reduceCtorEq]) | refine aw_ret ?_ | refine aw_block ?_ | refine aw_condT rfl ?_ | refine aw_condF rfl ?_ | ((first | refine aw_region ?_ | refine acall0 (rwithin_ac _ _ _) ?_ | refine ago_if (by omega) ?_ | skip); simp (config := {maxSteps := 10000000}) (disch := first | exact okYes (by kernel_rfl) | omega) only [thenQ, List.map, dI, List.length, Nat.zero_add, Nat.reduceAdd, Nat.reduceMul, envOf, ARun_none, AOpRun, aexec, D.isBot, FSt.ev, St.F, ↓eget_h, Bool.false_eq_true, Option.isSome, hget_n, or_self, ↓reduceIte, D.cells, AGo_ok, St.app, putO, eput_c, Nat.reduceBEq, eput_n, cond_false, hups, hput_n, ARun_nil, dropE_c, inL_n, dropE_n, eget_c, Option.map, run1, hget_c, beq_self_eq_true, cond_true, List.getElem?_cons_zero, dB, c1, Bool.not_false, ARun_some, AG_tf, inL_c])))
    all_goals (refine end_to [] [] (by first | exact .inl rfl | exact .inr rfl) rfl (by kernel_rfl) (by kernel_rfl) (by kernel_rfl) ?_ ?_ <;> repeat' (first | exact trivial | exact vr_val _))
  | true =>
  cases c5 : wI h.charge 0 100 with
  | false =>
    have e : hoE h = 71 := by unfold hoE hoB; rw [c5]; simp
    rw [e]
    (have hg : (987654321 : Nat) - 987654321 = 0 := rfl; have hr := hg; repeat' (first | refine aw_seq ?_ | (refine aw_skip ?_; try simp only [thenQ, blockQ, if_true, if_false, Nat.reduceEqDiff, reduceCtorEq]) | (refine aw_exit ?_; try simp only [thenQ, blockQ, if_true, if_false, Nat.reduceEqDiff, reduceCtorEq]) | refine aw_ret ?_ | refine aw_block ?_ | refine aw_condT rfl ?_ | refine aw_condF rfl ?_ | ((first | refine aw_region ?_ | refine acall0 (rwithin_ac _ _ _) ?_ | refine ago_if (by omega) ?_ | skip); simp (config := {maxSteps := 10000000}) (disch := first | exact okYes (by kernel_rfl) | omega) only [thenQ, List.map, dI, List.length, Nat.zero_add, Nat.reduceAdd, Nat.reduceMul, envOf, ARun_none, AOpRun, aexec, D.isBot, FSt.ev, St.F, ↓eget_h, Bool.false_eq_true, Option.isSome, hget_n, or_self, ↓reduceIte, D.cells, AGo_ok, St.app, putO, eput_c, Nat.reduceBEq, eput_n, cond_false, hups, hput_n, ARun_nil, dropE_c, inL_n, dropE_n, eget_c, Option.map, run1, hget_c, beq_self_eq_true, cond_true, List.getElem?_cons_zero, dB, c1, Bool.not_true, ARun_some, AG_ff, List.getElem?_cons_succ, c5, Bool.not_false, AG_tf, inL_c])))
    all_goals (refine end_to [] [] (by first | exact .inl rfl | exact .inr rfl) rfl (by kernel_rfl) (by kernel_rfl) (by kernel_rfl) ?_ ?_ <;> repeat' (first | exact trivial | exact vr_val _))
  | true =>
  cases c2 : tabB h.xs h.ys h.vs with
  | false =>
    have e : hoE h = 71 := by unfold hoE hoB; rw [c2]; simp
    have e2 : tabErr h.xs h.ys h.vs = 11 := by unfold tabErr; rw [c2]; rfl
    rw [e]
    (have hg : (987654321 : Nat) - 987654321 = 0 := rfl; have hr := hg; repeat' (first | refine aw_seq ?_ | (refine aw_skip ?_; try simp only [thenQ, blockQ, if_true, if_false, Nat.reduceEqDiff, reduceCtorEq]) | (refine aw_exit ?_; try simp only [thenQ, blockQ, if_true, if_false, Nat.reduceEqDiff, reduceCtorEq]) | refine aw_ret ?_ | refine aw_block ?_ | refine aw_condT rfl ?_ | refine aw_condF rfl ?_ | ((first | refine aw_region ?_ | refine acall0 (rwithin_ac _ _ _) ?_ | refine acall0 (ct) ?_ | refine ago_if (by omega) ?_ | skip); simp (config := {maxSteps := 10000000}) (disch := first | exact okYes (by kernel_rfl) | omega) only [thenQ, List.map, dI, List.length, Nat.zero_add, Nat.reduceAdd, Nat.reduceMul, envOf, ARun_none, AOpRun, aexec, D.isBot, FSt.ev, St.F, ↓eget_h, Bool.false_eq_true, Option.isSome, hget_n, or_self, ↓reduceIte, D.cells, AGo_ok, St.app, putO, eput_c, Nat.reduceBEq, eput_n, cond_false, hups, hput_n, ARun_nil, dropE_c, inL_n, dropE_n, eget_c, Option.map, run1, hget_c, beq_self_eq_true, cond_true, List.getElem?_cons_zero, dB, c1, Bool.not_true, ARun_some, AG_ff, List.getElem?_cons_succ, c5, Nat.reduceLeDiff, List.drop, List.take, e2, isSh, abin, Int.reduceBNe, inL_c])))
    all_goals (refine end_to [] [] (by first | exact .inl rfl | exact .inr rfl) rfl (by kernel_rfl) (by kernel_rfl) (by kernel_rfl) ?_ ?_ <;> repeat' (first | exact trivial | exact vr_val _))
  | true =>
  have e2 : tabErr h.xs h.ys h.vs = 0 := by unfold tabErr; rw [c2]; rfl
  have hl := (tbl_of c2).lens
  have g0 := ints_gd h.xs 0 (by omega)
  have gl := ints_gd h.xs (h.xs.length - 1) (by omega)
  have tn : ((h.xs.length : Int) - 1).toNat = h.xs.length - 1 := by omega
  have hlt : h.xs.length - 1 < h.xs.length := by omega
  cases c3 : decide (h.xs[0]?.getD 0 > 0) with
  | true =>
    have e : hoE h = 71 := by
      have := of_decide_eq_true c3
      unfold hoE hoB; rw [decide_eq_false (by omega : ¬ h.xs[0]?.getD 0 ≤ 0)]; simp
    rw [e]
    (have hg : (987654321 : Nat) - 987654321 = 0 := rfl; have hr := hg; repeat' (first | refine aw_seq ?_ | (refine aw_skip ?_; try simp only [thenQ, blockQ, if_true, if_false, Nat.reduceEqDiff, reduceCtorEq]) | (refine aw_exit ?_; try simp only [thenQ, blockQ, if_true, if_false, Nat.reduceEqDiff, reduceCtorEq]) | refine aw_ret ?_ | refine aw_block ?_ | refine aw_condT rfl ?_ | refine aw_condF rfl ?_ | ((first | refine aw_region ?_ | refine acall0 (rwithin_ac _ _ _) ?_ | refine acall0 (ct) ?_ | refine ago_if (by omega) ?_ | skip); simp (config := {maxSteps := 10000000}) (disch := first | exact okYes (by kernel_rfl) | omega) only [thenQ, List.map, dI, List.length, Nat.zero_add, Nat.reduceAdd, Nat.reduceMul, envOf, ARun_none, AOpRun, aexec, D.isBot, FSt.ev, St.F, ↓eget_h, Bool.false_eq_true, Option.isSome, hget_n, or_self, ↓reduceIte, D.cells, AGo_ok, St.app, putO, eput_c, Nat.reduceBEq, eput_n, cond_false, hups, hput_n, ARun_nil, dropE_c, inL_n, dropE_n, eget_c, Option.map, run1, hget_c, beq_self_eq_true, cond_true, List.getElem?_cons_zero, dB, c1, Bool.not_true, ARun_some, AG_ff, List.getElem?_cons_succ, c5, Nat.reduceLeDiff, List.drop, List.take, e2, isSh, abin, bne_self_eq_false, inL_c, Int.le_refl, ints_all, and_self, opt1, Int.toNat_zero, g0, c3, AG_tf])))
    all_goals (refine end_to [] [] (by first | exact .inl rfl | exact .inr rfl) rfl (by kernel_rfl) (by kernel_rfl) (by kernel_rfl) ?_ ?_ <;> repeat' (first | exact trivial | exact vr_val _))
  | false =>
  cases c4 : decide (h.xs[h.xs.length - 1]?.getD 0 < h.cable) with
  | true =>
    have e : hoE h = 71 := by
      have := of_decide_eq_true c4
      unfold hoE hoB; rw [decide_eq_false (by omega : ¬ h.cable ≤ h.xs[h.xs.length - 1]?.getD 0)]; simp
    rw [e]
    (have hg : (987654321 : Nat) - 987654321 = 0 := rfl; have hr := hg; repeat' (first | refine aw_seq ?_ | (refine aw_skip ?_; try simp only [thenQ, blockQ, if_true, if_false, Nat.reduceEqDiff, reduceCtorEq]) | (refine aw_exit ?_; try simp only [thenQ, blockQ, if_true, if_false, Nat.reduceEqDiff, reduceCtorEq]) | refine aw_ret ?_ | refine aw_block ?_ | refine aw_condT rfl ?_ | refine aw_condF rfl ?_ | ((first | refine aw_region ?_ | refine acall0 (rwithin_ac _ _ _) ?_ | refine acall0 (ct) ?_ | refine ago_if (by omega) ?_ | skip); simp (config := {maxSteps := 10000000}) (disch := first | exact okYes (by kernel_rfl) | omega) only [thenQ, List.map, dI, List.length, Nat.zero_add, Nat.reduceAdd, Nat.reduceMul, envOf, ARun_none, AOpRun, aexec, D.isBot, FSt.ev, St.F, ↓eget_h, Bool.false_eq_true, Option.isSome, hget_n, or_self, ↓reduceIte, D.cells, AGo_ok, St.app, putO, eput_c, Nat.reduceBEq, eput_n, cond_false, hups, hput_n, ARun_nil, dropE_c, inL_n, dropE_n, eget_c, Option.map, run1, hget_c, beq_self_eq_true, cond_true, List.getElem?_cons_zero, dB, c1, Bool.not_true, ARun_some, AG_ff, List.getElem?_cons_succ, c5, Nat.reduceLeDiff, List.drop, List.take, e2, isSh, abin, bne_self_eq_false, inL_c, Int.le_refl, ints_all, and_self, opt1, Int.toNat_zero, g0, c3, ints_len, fits, and_true, tn, gl, c4])))
    all_goals (refine end_to [] [] (by first | exact .inl rfl | exact .inr rfl) rfl (by kernel_rfl) (by kernel_rfl) (by kernel_rfl) ?_ ?_ <;> repeat' (first | exact trivial | exact vr_val _))
  | false =>
  have f3 := of_decide_eq_false c3
  have f4 := of_decide_eq_false c4
  have e : hoE h = 0 := by unfold hoE hoB; rw [c1, c2, c5, decide_eq_true (by omega : h.xs[0]?.getD 0 ≤ 0), decide_eq_true (by omega : h.cable ≤ h.xs[h.xs.length - 1]?.getD 0)]; rfl
  rw [e]
  (have hg : (987654321 : Nat) - 987654321 = 0 := rfl; have hr := hg; repeat' (first | refine aw_seq ?_ | (refine aw_skip ?_; try simp only [thenQ, blockQ, if_true, if_false, Nat.reduceEqDiff, reduceCtorEq]) | (refine aw_exit ?_; try simp only [thenQ, blockQ, if_true, if_false, Nat.reduceEqDiff, reduceCtorEq]) | refine aw_ret ?_ | refine aw_block ?_ | refine aw_condT rfl ?_ | refine aw_condF rfl ?_ | ((first | refine aw_region ?_ | refine acall0 (rwithin_ac _ _ _) ?_ | refine acall0 (ct) ?_ | refine ago_if (by omega) ?_ | skip); simp (config := {maxSteps := 10000000}) (disch := first | exact okYes (by kernel_rfl) | omega) only [thenQ, List.map, dI, List.length, Nat.zero_add, Nat.reduceAdd, Nat.reduceMul, envOf, ARun_none, AOpRun, aexec, D.isBot, FSt.ev, St.F, ↓eget_h, Bool.false_eq_true, Option.isSome, hget_n, or_self, ↓reduceIte, D.cells, AGo_ok, St.app, putO, eput_c, Nat.reduceBEq, eput_n, cond_false, hups, hput_n, ARun_nil, dropE_c, inL_n, dropE_n, eget_c, Option.map, run1, hget_c, beq_self_eq_true, cond_true, List.getElem?_cons_zero, dB, c1, Bool.not_true, ARun_some, AG_ff, List.getElem?_cons_succ, c5, Nat.reduceLeDiff, List.drop, List.take, e2, isSh, abin, bne_self_eq_false, inL_c, Int.le_refl, ints_all, and_self, opt1, Int.toNat_zero, g0, c3, ints_len, fits, and_true, tn, gl, c4])))
  all_goals (refine end_to [] [] (by first | exact .inl rfl | exact .inr rfl) rfl (by kernel_rfl) (by kernel_rfl) (by kernel_rfl) ?_ ?_ <;> repeat' (first | exact trivial | exact vr_val _))
structure HoOk (h : Hst) : Prop where
  c1 : 1 ≤ h.cable
  c2 : h.cable ≤ 100
  t : Tbl h.xs h.ys h.vs
  tb : tabB h.xs h.ys h.vs = true
  x1 : h.xs[0]?.getD 0 ≤ 0
  x2 : h.cable ≤ h.xs[h.xs.length - 1]?.getD 0
  g1 : 0 ≤ h.charge
  g2 : h.charge ≤ 100
theorem hoE_ok {h : Hst} (e : hoE h = 0) : HoOk h := by
  unfold hoE at e
  split at e
  · rename_i hb
    simp only [hoB, Bool.and_eq_true, decide_eq_true_eq] at hb
    obtain ⟨⟨⟨⟨a1, a2⟩, a3⟩, a4⟩, a5⟩ := hb
    have b1 := wI_t a1
    have b5 := wI_t a5
    exact ⟨b1.1, b1.2, tbl_of a2, a2, a3, a4, b5.1, b5.2⟩
  · omega
/-- how a hoist stands -/
structure Hng where
  len : Int
  wt : Int
  since : Int
  cyc : Int
  cut : Bool
def hng0 : Hng := ⟨0, 0, 0, 0, false⟩
def hgC (k : Hng) : List D := [dI k.len, dI k.wt, dI k.since, dI k.cyc, dB k.cut]
def wiC (h : Hst) (wd : Int × Int) (k : Hng) (t : Bool) : List D := [dI h.cable, .list (ints h.xs), .list (ints h.ys), .list (rows h.vs), dI h.charge, dI wd.1, dI wd.2, dI k.len, dI k.wt, dI k.since, dI k.cyc, dB k.cut, dB t]
theorem wiC_in (S : Nat → Prop) (h : Hst) (wd : Int × Int) (k : Hng) (t : Bool) : ∀ d ∈ wiC h wd k t, In S d := by
  intro d hd
  simp only [wiC, List.mem_cons, List.not_mem_nil, or_false] at hd
  rcases hd with rfl | rfl | rfl | rfl | rfl | rfl | rfl | rfl | rfl | rfl | rfl | rfl | rfl <;> first | exact .val _ | exact .list _
def wiE (h : Hst) (wd : Int × Int) : Int := if hoE h = 0 then (if okS wd = true then 0 else 10) else hoE h
set_option maxRecDepth 100000 in
set_option maxHeartbeats 1000000 in
theorem newWinchE_ac (h : Hst) (wd : Int × Int) (hS : HSm h) (he : wiE h wd ≠ 0) : AC Try.prog 57 [hoD h, spD wd] [] [] (.tup [.val (.pointer none), dB false, dI (wiE h wd)]) := by
  refine ksling_newWinch.ac (n0 := 0) (by simp) ⟨hoD_in _ _, in_agg2 _ _ _, trivial⟩ trivial rfl ?_
  unfold csling_newWinch hoD hoC spD
  have hcb : AC Try.prog 72 [.list (sps [wd])] [] [] (dI (boxE [wd])) := check_ac [wd]
  rw [box1] at hcb
  have ch := checkHoist_ac h hS
  unfold hoD hoC at ch
  by_cases h1 : hoE h = 0
  case neg =>
    have e1 : wiE h wd = hoE h := if_neg h1
    rw [e1]
    (have hg : (987654321 : Nat) - 987654321 = 0 := rfl; have hr := hg; repeat' (first | refine aw_seq ?_ | (refine aw_skip ?_; try simp only [thenQ, blockQ, if_true, if_false, Nat.reduceEqDiff, reduceCtorEq]) | (refine aw_exit ?_; try simp only [thenQ, blockQ, if_true, if_false, Nat.reduceEqDiff, reduceCtorEq]) | refine aw_ret ?_ | refine aw_block ?_ | refine aw_condT rfl ?_ | refine aw_condF rfl ?_ | (refine aw_cond rfl (fun hg => ?_) (fun hg => ?_) <;> (try (have hq := hg; simp only [Bool.not_eq_true', Bool.not_eq_false', Bool.and_eq_true, Bool.and_eq_false_iff, Bool.or_eq_true, Bool.or_eq_false_iff, decide_eq_true_eq, decide_eq_false_iff_not, bne_iff_ne, beq_iff_eq, beq_eq_false_iff_ne, bne_eq_false_iff_eq, ne_eq, Int.not_lt, Int.not_le, Decidable.not_not] at hq)) <;> (try (have hr := hg; simp only [decide_eq_true_eq, decide_eq_false_iff_not] at hr)) <;> (try (exfalso; omega))) | ((first | refine aw_region ?_ | refine acall0 (ch) ?_ | refine ago_if (by omega) ?_ | skip); simp (config := {maxSteps := 10000000}) (disch := first | exact okYes (by kernel_rfl) | omega) only [thenQ, List.map, dB, dI, List.length, Nat.zero_add, Nat.reduceAdd, Nat.reduceMul, envOf, ARun_none, AOpRun, aexec, D.isBot, FSt.ev, St.F, ↓eget_h, Bool.false_eq_true, Option.isSome, hget_n, or_self, ↓reduceIte, D.cells, AGo_ok, St.app, putO, eput_c, Nat.reduceBEq, eput_n, cond_false, hups, hput_n, eget_c, hget_c, hput_c, ARun_nil, dropE_c, inL_n, dropE_n, beq_self_eq_true, cond_true, Nat.reduceLeDiff, List.drop, List.take, inL_c, isSh, Option.map, abin, hg])))
    all_goals (refine end_to [] [] (by first | exact .inl rfl | exact .inr rfl) rfl (by kernel_rfl) (by kernel_rfl) (by kernel_rfl) ?_ ?_ <;> repeat' (first | exact trivial | exact vr_val _ | apply vr_tup | apply And.intro))
  have e1 : wiE h wd = if okS wd = true then 0 else 10 := if_pos h1
  cases h2 : okS wd with
  | true => rw [e1, h2] at he; exact absurd rfl he
  | false =>
    rw [e1]
    (have hg : (987654321 : Nat) - 987654321 = 0 := rfl; have hr := hg; iterate 30 (try (first | refine aw_seq ?_ | (refine aw_skip ?_; try simp only [thenQ, blockQ, if_true, if_false, Nat.reduceEqDiff, reduceCtorEq]) | (refine aw_exit ?_; try simp only [thenQ, blockQ, if_true, if_false, Nat.reduceEqDiff, reduceCtorEq]) | refine aw_ret ?_ | refine aw_block ?_ | refine aw_condT rfl ?_ | refine aw_condF rfl ?_ | ((first | refine aw_region ?_ | refine acall0 (ch) ?_ | refine ago_if (by omega) ?_ | skip); simp (config := {maxSteps := 10000000}) (disch := first | exact okYes (by kernel_rfl) | omega) only [thenQ, List.map, dB, dI, List.length, Nat.zero_add, Nat.reduceAdd, Nat.reduceMul, envOf, ARun_none, AOpRun, aexec, D.isBot, FSt.ev, St.F, ↓eget_h, Bool.false_eq_true, Option.isSome, hget_n, or_self, ↓reduceIte, D.cells, AGo_ok, St.app, putO, eput_c, Nat.reduceBEq, eput_n, cond_false, hups, hput_n, eget_c, hget_c, hput_c, ARun_nil, dropE_c, inL_n, dropE_n, beq_self_eq_true, cond_true, Nat.reduceLeDiff, List.drop, List.take, h1, inL_c, isSh, Option.map, abin, bne_self_eq_false, ↓hget_h, fillD, ne_eq, not_true_eq_false, Nat.reduceGT, splice, List.nil_append, List.append_nil]))))
    refine acallV1 hcb (.val _) rfl (sps_two _) rfl rfl (by intro d hd; simp at hd; rcases hd with rfl | rfl <;> exact .val _) (by kernel_rfl) ?_
    (have hg : (987654321 : Nat) - 987654321 = 0 := rfl; have hr := hg; repeat' (first | refine aw_seq ?_ | (refine aw_skip ?_; try simp only [thenQ, blockQ, if_true, if_false, Nat.reduceEqDiff, reduceCtorEq]) | (refine aw_exit ?_; try simp only [thenQ, blockQ, if_true, if_false, Nat.reduceEqDiff, reduceCtorEq]) | refine aw_ret ?_ | refine aw_block ?_ | refine aw_condT rfl ?_ | refine aw_condF rfl ?_ | ((first | refine aw_region ?_ | refine ago_if (by omega) ?_ | skip); simp (config := {maxSteps := 10000000}) (disch := first | exact okYes (by kernel_rfl) | omega) only [h2, Bool.false_eq_true, ↓reduceIte, Nat.reduceAdd, St.app, putO, dI, eput_c, Nat.reduceBEq, eput_n, cond_false, hups, ARun_none, AOpRun, aexec, FSt.ev, St.F, eget_c, ↓eget_h, AGo_ok, List.map, ARun_nil, dropE_c, inL_c, inL_n, beq_self_eq_true, cond_true, dropE_n, thenQ, List.length, Nat.zero_add, Nat.reduceMul, isSh, Option.map, abin, Int.reduceBNe])))
    all_goals (refine end_to [] [] (by first | exact .inl rfl | exact .inr rfl) rfl (by kernel_rfl) (by kernel_rfl) (by kernel_rfl) ?_ ?_ <;> repeat' (first | exact trivial | exact vr_val _ | apply vr_tup | apply And.intro))
set_option maxRecDepth 100000 in
set_option maxHeartbeats 1000000 in
theorem newWinchO_ac (h : Hst) (wd : Int × Int) (hS : HSm h) (he : wiE h wd = 0) : AC Try.prog 57 [hoD h, spD wd] [] [(48, some (wiC h wd hng0 false))] (.tup [.ptr 48 0, dB (liesB h.ys wd), dI 0]) := by
  refine ksling_newWinch.ac (n0 := 0) (by simp) ⟨hoD_in _ _, in_agg2 _ _ _, trivial⟩ trivial rfl ?_
  unfold csling_newWinch hoD hoC spD
  have hcb : AC Try.prog 72 [.list (sps [wd])] [] [] (dI (boxE [wd])) := check_ac [wd]
  rw [box1] at hcb
  have ch := checkHoist_ac h hS
  unfold hoD hoC at ch
  have h1 : hoE h = 0 := by
    by_cases h1 : hoE h = 0
    · exact h1
    · exact absurd ((if_neg h1).symm.trans he) h1
  have h2 : okS wd = true := by
    have e1 : wiE h wd = if okS wd = true then 0 else 10 := if_pos h1
    cases h2 : okS wd with
    | true => rfl
    | false => rw [e1, h2] at he; simp at he
  have hO := hoE_ok h1
  have hl := hO.t.lens
  have g0 := ints_gd h.ys 0 (by omega)
  have gl := ints_gd h.ys (h.ys.length - 1) (by omega)
  have tn : ((h.ys.length : Int) - 1).toNat = h.ys.length - 1 := by omega
  have hlt : h.ys.length - 1 < h.ys.length := by omega
  unfold liesB
  (have hg : (987654321 : Nat) - 987654321 = 0 := rfl; have hr := hg; iterate 30 (try (first | refine aw_seq ?_ | (refine aw_skip ?_; try simp only [thenQ, blockQ, if_true, if_false, Nat.reduceEqDiff, reduceCtorEq]) | (refine aw_exit ?_; try simp only [thenQ, blockQ, if_true, if_false, Nat.reduceEqDiff, reduceCtorEq]) | refine aw_ret ?_ | refine aw_block ?_ | refine aw_condT rfl ?_ | refine aw_condF rfl ?_ | ((first | refine aw_region ?_ | refine acall0 (ch) ?_ | refine ago_if (by omega) ?_ | skip); simp (config := {maxSteps := 10000000}) (disch := first | exact okYes (by kernel_rfl) | omega) only [thenQ, List.map, dB, dI, List.length, Nat.zero_add, Nat.reduceAdd, Nat.reduceMul, envOf, ARun_none, AOpRun, aexec, D.isBot, FSt.ev, St.F, ↓eget_h, Bool.false_eq_true, Option.isSome, hget_n, or_self, ↓reduceIte, D.cells, AGo_ok, St.app, putO, eput_c, Nat.reduceBEq, eput_n, cond_false, hups, hput_n, eget_c, hget_c, hput_c, ARun_nil, dropE_c, inL_n, dropE_n, beq_self_eq_true, cond_true, Nat.reduceLeDiff, List.drop, List.take, h1, inL_c, isSh, Option.map, abin, bne_self_eq_false, ↓hget_h, fillD, ne_eq, not_true_eq_false, Nat.reduceGT, splice, List.nil_append, List.append_nil]))))
  refine acallV1 hcb (.val _) rfl (sps_two _) rfl rfl (by intro d hd; simp at hd; rcases hd with rfl | rfl <;> exact .val _) (by kernel_rfl) ?_
  cases c1 : decide (h.ys[0]?.getD 0 ≤ wd.1) with
  | false =>
    (have hg : (987654321 : Nat) - 987654321 = 0 := rfl; have hr := hg; repeat' (first | refine aw_seq ?_ | (refine aw_skip ?_; try simp only [thenQ, blockQ, if_true, if_false, Nat.reduceEqDiff, reduceCtorEq]) | (refine aw_exit ?_; try simp only [thenQ, blockQ, if_true, if_false, Nat.reduceEqDiff, reduceCtorEq]) | refine aw_ret ?_ | refine aw_block ?_ | refine aw_condT rfl ?_ | refine aw_condF rfl ?_ | ((first | refine aw_region ?_ | refine ago_if (by omega) ?_ | skip); simp (config := {maxSteps := 10000000}) (disch := first | exact okYes (by kernel_rfl) | omega) only [Bool.false_and, Nat.reduceAdd, St.app, putO, dI, h2, ↓reduceIte, eput_c, Nat.reduceBEq, eput_n, cond_false, hups, ARun_none, AOpRun, aexec, FSt.ev, St.F, eget_c, ↓eget_h, AGo_ok, List.map, ARun_nil, dropE_c, inL_c, inL_n, beq_self_eq_true, cond_true, dropE_n, thenQ, List.length, Nat.zero_add, Nat.reduceMul, isSh, Bool.false_eq_true, Option.map, abin, bne_self_eq_false, run1, hget_c, hget_n, List.getElem?_cons_succ, List.getElem?_cons_zero, Nat.reduceLeDiff, List.drop, List.take, ↓hget_h, fillD, D.isBot, D.cells, ne_eq, not_true_eq_false, Nat.reduceGT, or_self, splice, List.nil_append, List.cons_append, Option.isSome, hput_c, hput_n, Int.le_refl, ints_all, and_self, opt1, Int.toNat_zero, g0, ge_iff_le, c1, ARun_some, AG_ft])))
    refine end_to [] [(48, 184)] (by first | exact .inl rfl | exact .inr rfl) rfl (by kernel_rfl) (by kernel_rfl) (by kernel_rfl) ?_ ?_ <;> repeat' (first | exact trivial | exact vr_val _ | exact vr_list _ | exact vr_ptr _ _ _ rfl | apply vr_tup | refine And.intro ⟨_, rfl, _, rfl, by decide, ?_⟩ ?_ | apply And.intro)
  | true =>
    (have hg : (987654321 : Nat) - 987654321 = 0 := rfl; have hr := hg; repeat' (first | refine aw_seq ?_ | (refine aw_skip ?_; try simp only [thenQ, blockQ, if_true, if_false, Nat.reduceEqDiff, reduceCtorEq]) | (refine aw_exit ?_; try simp only [thenQ, blockQ, if_true, if_false, Nat.reduceEqDiff, reduceCtorEq]) | refine aw_ret ?_ | refine aw_block ?_ | refine aw_condT rfl ?_ | refine aw_condF rfl ?_ | ((first | refine aw_region ?_ | refine ago_if (by omega) ?_ | skip); simp (config := {maxSteps := 10000000}) (disch := first | exact okYes (by kernel_rfl) | omega) only [Bool.true_and, Nat.reduceAdd, St.app, putO, dI, h2, ↓reduceIte, eput_c, Nat.reduceBEq, eput_n, cond_false, hups, ARun_none, AOpRun, aexec, FSt.ev, St.F, eget_c, ↓eget_h, AGo_ok, List.map, ARun_nil, dropE_c, inL_c, inL_n, beq_self_eq_true, cond_true, dropE_n, thenQ, List.length, Nat.zero_add, Nat.reduceMul, isSh, Bool.false_eq_true, Option.map, abin, bne_self_eq_false, run1, hget_c, hget_n, List.getElem?_cons_succ, List.getElem?_cons_zero, Nat.reduceLeDiff, List.drop, List.take, ↓hget_h, fillD, D.isBot, D.cells, ne_eq, not_true_eq_false, Nat.reduceGT, or_self, splice, List.nil_append, List.cons_append, Option.isSome, hput_c, hput_n, Int.le_refl, ints_all, and_self, opt1, Int.toNat_zero, g0, ge_iff_le, c1, ARun_some, AG_tt, ints_len, fits, and_true, tn, gl])))
    refine end_to [] [(48, 184)] (by first | exact .inl rfl | exact .inr rfl) rfl (by kernel_rfl) (by kernel_rfl) (by kernel_rfl) ?_ ?_ <;> repeat' (first | exact trivial | exact vr_val _ | exact vr_list _ | exact vr_ptr _ _ _ rfl | apply vr_tup | refine And.intro ⟨_, rfl, _, rfl, by decide, ?_⟩ ?_ | apply And.intro)
set_option maxRecDepth 100000 in
set_option maxHeartbeats 1000000 in
theorem at_ac (n : Int) : AC Try.prog 59 [dI n] [] [] (spD (n, n)) := by
  refine ksling_at.ac (n0 := 0) (by simp) ⟨.val _, trivial⟩ trivial rfl ?_
  unfold csling_at
  (have hg : (987654321 : Nat) - 987654321 = 0 := rfl; have hr := hg; repeat' (first | refine aw_seq ?_ | (refine aw_skip ?_; try simp only [thenQ, blockQ, if_true, if_false, Nat.reduceEqDiff, reduceCtorEq]) | (refine aw_exit ?_; try simp only [thenQ, blockQ, if_true, if_false, Nat.reduceEqDiff, reduceCtorEq]) | refine aw_ret ?_ | refine aw_block ?_ | refine aw_condT rfl ?_ | refine aw_condF rfl ?_ | ((first | refine aw_region ?_ | refine ago_if (by omega) ?_ | skip); simp (config := {maxSteps := 10000000}) (disch := first | exact okYes (by kernel_rfl) | omega) only [thenQ, List.map, List.length, Nat.zero_add, Nat.reduceMul, envOf, dI, ARun_none, AOpRun, aexec, Option.isSome, hget_n, Bool.false_eq_true, ↓reduceIte, AGo_ok, St.app, putO, eput_c, Nat.reduceBEq, eput_n, cond_false, hups, hput_n, ARun_nil, dropE_c, inL_n, dropE_n, Nat.reduceAdd, FSt.ev, St.F, ↓eget_h, Option.map, fillD, D.isBot, eget_c, D.cells, ne_eq, not_true_eq_false, Nat.reduceGT, or_self, splice, List.take, List.nil_append, List.drop, List.cons_append, List.append_nil, hget_c, beq_self_eq_true, cond_true, Nat.reduceLeDiff, List.all, D.leaf, Bool.and_true, and_self, hput_c, inL_c])))
  all_goals (refine end_to [] [] (by first | exact .inl rfl | exact .inr rfl) rfl (by kernel_rfl) (by kernel_rfl) (by kernel_rfl) ?_ ?_ <;> repeat' (first | exact trivial | exact vr_val _ | apply vr_agg | apply And.intro))
def caB (h : Hst) (wd x : Int × Int) (w : Int) : Bool := decide (w = 0) || (decide ((boundR h.xs h.ys h.vs x wd).2 = 0) && decide (w ≤ (boundR h.xs h.ys h.vs x wd).1.1))
set_option maxRecDepth 100000 in
set_option maxHeartbeats 1000000 in
theorem carries_ac (h : Hst) (wd x : Int × Int) (w : Int) (k : Hng) (t : Bool) (hO : HoOk h) : AC Try.prog 58 [.ptr 48 0, spD x, dI w] [(48, wiC h wd k t)] [(48, some (wiC h wd k t))] (dB (caB h wd x w)) := by
  refine kpsling_winch_carries.ac (n0 := 56) (by simp) ⟨.ptr _ _ (by omega), in_agg2 _ _ _, .val _, trivial⟩ ⟨⟨by omega, wiC_in _ _ _ _ _⟩, trivial⟩ rfl ?_
  unfold cpsling_winch_carries wiC spD
  have hb := bound_ac x wd hO.t.sz
  by_cases h1 : w = 0
  · subst h1
    have e : caB h wd x 0 = true := by simp [caB]
    rw [e]
    (have hg : (987654321 : Nat) - 987654321 = 0 := rfl; have hr := hg; repeat' (first | refine aw_seq ?_ | (refine aw_skip ?_; try simp only [thenQ, blockQ, if_true, if_false, Nat.reduceEqDiff, reduceCtorEq]) | (refine aw_exit ?_; try simp only [thenQ, blockQ, if_true, if_false, Nat.reduceEqDiff, reduceCtorEq]) | refine aw_ret ?_ | refine aw_block ?_ | refine aw_condT rfl ?_ | refine aw_condF rfl ?_ | ((first | refine aw_region ?_ | refine ago_if (by omega) ?_ | skip); simp (config := {maxSteps := 10000000}) (disch := first | exact okYes (by kernel_rfl) | omega) only [thenQ, List.map, dI, dB, List.length, Nat.zero_add, Nat.reduceAdd, Nat.reduceMul, envOf, ARun_none, AOpRun, aexec, D.isBot, FSt.ev, St.F, eget_c, Nat.reduceBEq, ↓eget_h, cond_false, Bool.false_eq_true, Option.isSome, hget_c, hget_n, or_self, ↓reduceIte, D.cells, AGo_ok, St.app, putO, eput_c, eput_n, hups, hput_c, hput_n, ARun_nil, dropE_c, inL_n, dropE_n, isSh, Option.map, abin, beq_self_eq_true, inL_c, cond_true])))
    all_goals (refine end_to [] [(48, 48)] (by first | exact .inl rfl | exact .inr rfl) rfl (by kernel_rfl) (by kernel_rfl) (by kernel_rfl) ?_ ?_ <;> repeat' (first | exact trivial | exact vr_val _ | exact vr_list _ | refine And.intro ⟨_, rfl, _, rfl, by decide, ?_⟩ ?_ | apply And.intro))
  have e0 : ((w == 0) : Bool) = false := by simpa using h1
  have e1 : decide (w = 0) = false := decide_eq_false h1
  cases c1 : decide ((boundR h.xs h.ys h.vs x wd).2 = 0) with
  | true =>
    have e : caB h wd x w = decide (w ≤ (boundR h.xs h.ys h.vs x wd).1.1) := by unfold caB; rw [e1, c1]; rfl
    have c2 := of_decide_eq_true c1
    rw [e]
    (have hg : (987654321 : Nat) - 987654321 = 0 := rfl; have hr := hg; repeat' (first | refine aw_seq ?_ | (refine aw_skip ?_; try simp only [thenQ, blockQ, if_true, if_false, Nat.reduceEqDiff, reduceCtorEq]) | (refine aw_exit ?_; try simp only [thenQ, blockQ, if_true, if_false, Nat.reduceEqDiff, reduceCtorEq]) | refine aw_ret ?_ | refine aw_block ?_ | refine aw_condT rfl ?_ | refine aw_condF rfl ?_ | ((first | refine aw_region ?_ | refine acall0 (hb) ?_ | refine ago_if (by omega) ?_ | skip); simp (config := {maxSteps := 10000000}) (disch := first | exact okYes (by kernel_rfl) | omega) only [thenQ, List.map, dI, dB, List.length, Nat.zero_add, Nat.reduceAdd, Nat.reduceMul, envOf, ARun_none, AOpRun, aexec, D.isBot, FSt.ev, St.F, eget_c, Nat.reduceBEq, ↓eget_h, cond_false, Bool.false_eq_true, Option.isSome, hget_c, hget_n, or_self, ↓reduceIte, D.cells, AGo_ok, St.app, putO, eput_c, eput_n, hups, hput_c, hput_n, ARun_nil, dropE_c, inL_n, dropE_n, isSh, Option.map, abin, e0, inL_c, beq_self_eq_true, cond_true, Nat.reduceLeDiff, List.drop, List.take, ↓hget_h, spD, c2, opt1, List.getElem?_cons_zero, List.getElem?_cons_succ, List.all, D.leaf, Bool.and_true, and_self, splice, List.nil_append, List.append_nil, ARun_some, AG_tt, run1, ge_iff_le])))
    all_goals (refine end_to [] [(48, 48)] (by first | exact .inl rfl | exact .inr rfl) rfl (by kernel_rfl) (by kernel_rfl) (by kernel_rfl) ?_ ?_ <;> repeat' (first | exact trivial | exact vr_val _ | exact vr_list _ | refine And.intro ⟨_, rfl, _, rfl, by decide, ?_⟩ ?_ | apply And.intro))
  | false =>
    have e : caB h wd x w = false := by unfold caB; rw [e1, c1]; rfl
    have c2 := of_decide_eq_false c1
    have c3 : ((boundR h.xs h.ys h.vs x wd).2 == 0) = false := by simpa using c2
    rw [e]
    (have hg : (987654321 : Nat) - 987654321 = 0 := rfl; have hr := hg; repeat' (first | refine aw_seq ?_ | (refine aw_skip ?_; try simp only [thenQ, blockQ, if_true, if_false, Nat.reduceEqDiff, reduceCtorEq]) | (refine aw_exit ?_; try simp only [thenQ, blockQ, if_true, if_false, Nat.reduceEqDiff, reduceCtorEq]) | refine aw_ret ?_ | refine aw_block ?_ | refine aw_condT rfl ?_ | refine aw_condF rfl ?_ | ((first | refine aw_region ?_ | refine acall0 (hb) ?_ | refine ago_if (by omega) ?_ | skip); simp (config := {maxSteps := 10000000}) (disch := first | exact okYes (by kernel_rfl) | omega) only [thenQ, List.map, dI, dB, List.length, Nat.zero_add, Nat.reduceAdd, Nat.reduceMul, envOf, ARun_none, AOpRun, aexec, D.isBot, FSt.ev, St.F, eget_c, Nat.reduceBEq, ↓eget_h, cond_false, Bool.false_eq_true, Option.isSome, hget_c, hget_n, or_self, ↓reduceIte, D.cells, AGo_ok, St.app, putO, eput_c, eput_n, hups, hput_c, hput_n, ARun_nil, dropE_c, inL_n, dropE_n, isSh, Option.map, abin, e0, inL_c, beq_self_eq_true, cond_true, Nat.reduceLeDiff, List.drop, List.take, ↓hget_h, spD, opt1, List.getElem?_cons_zero, List.getElem?_cons_succ, List.all, D.leaf, Bool.and_true, and_self, splice, List.nil_append, List.append_nil, c3, ARun_some, AG_ft])))
    all_goals (refine end_to [] [(48, 48)] (by first | exact .inl rfl | exact .inr rfl) rfl (by kernel_rfl) (by kernel_rfl) (by kernel_rfl) ?_ ?_ <;> repeat' (first | exact trivial | exact vr_val _ | exact vr_list _ | refine And.intro ⟨_, rfl, _, rfl, by decide, ?_⟩ ?_ | apply And.intro))
end Go.Proofs.Ythohcimmoobaoaa
/- The laws' arguments. No conditions. -/
namespace Go.Proofs.Ythohcimmoobaoaa
open Go.RowKit Lift

structure Swg where
  st : Int × Int
  gs : List Int
  n : Int
  band : Int × Int
structure Sts where
  b : Bx
  g : Int × Int
  l : Int × Int
  n : Int
def I64 (n : Int) : Prop := -9223372036854775808 ≤ n ∧ n ≤ 9223372036854775807
structure SwgOk (x : Swg) : Prop where
  a : I64 x.st.1
  b : I64 x.st.2
  l : x.gs.length ≤ maxLen
  g : ∀ y ∈ x.gs, I64 y
  n : I64 x.n
  c : I64 x.band.1
  d : I64 x.band.2
structure StsOk (x : Sts) : Prop where
  l : x.b.length ≤ maxLen
  b : ∀ y ∈ x.b, I64 y.1 ∧ I64 y.2
  g1 : I64 x.g.1
  g2 : I64 x.g.2
  l1 : I64 x.l.1
  l2 : I64 x.l.2
  n : I64 x.n
theorem in_hst {ds : List D} (h : CfL [.int, .sl [.int], .sl [.int], .sl [.sl [.int]], .int] ds) : ∃ x : Hst, ds = hoC x ∧ HSm x := by
  cases h with
  | int a ss ds h1 h2 h =>
    cases h with
    | sl e l ss ds h3 h4 h =>
      obtain ⟨xs, rfl, hx⟩ := in_ints h4
      cases h with
      | sl e l' ss ds h5 h6 h =>
        obtain ⟨ys, rfl, hy⟩ := in_ints h6
        cases h with
        | sl e l'' ss ds h7 h8 h =>
          obtain ⟨vs, rfl, hr⟩ := in_rows h8
          cases h with
          | int c ss ds h9 h10 h =>
            cases h
            exact ⟨⟨a, xs, ys, vs, c⟩, rfl, ⟨by simpa [ints] using h3, by simpa [ints] using h5, by simpa [rows] using h7, hr⟩, hx, hy⟩
theorem bne_tf : (true != false) = true := rfl
end Go.Proofs.Ythohcimmoobaoaa
/- The hoist: Carries and Deepest, both sides. No conditions. -/
set_option linter.unusedSimpArgs false
set_option linter.unusedVariables false
namespace Go.Proofs.Ythohcimmoobaoaa
open Go.RowKit Lift

def wndE (h : Hst) (wd : Int × Int) : Int := if hoE h = 0 then (if okS wd = true then (if liesB h.ys wd = true then 0 else 1) else 10) else hoE h
def beB (h : Hst) (wd : Int × Int) (L w : Int) : Bool := decide (w ≤ (boundR h.xs h.ys h.vs (L, L) wd).1.1)
theorem okS_vB (x : Int × Int) : okS x = vB x := rfl
/-- winds that lie on the table of a right hoist -/
structure WdOk (h : Hst) (wd : Int × Int) : Prop where
  o : HoOk h
  s : okS wd = true
  l : liesB h.ys wd = true
theorem wndE_ok {h : Hst} {wd : Int × Int} (e : wndE h wd = 0) : WdOk h wd := by
  by_cases h1 : hoE h = 0
  · have e1 : wndE h wd = if okS wd = true then (if liesB h.ys wd = true then 0 else 1) else 10 := if_pos h1
    rw [e1] at e
    by_cases h2 : okS wd = true
    · rw [if_pos h2] at e
      by_cases h3 : liesB h.ys wd = true
      · exact ⟨hoE_ok h1, h2, h3⟩
      · rw [if_neg h3] at e; omega
    · rw [if_neg h2] at e; omega
  · exact absurd ((if_neg h1).symm.trans e) h1
theorem WdOk.on {h : Hst} {wd : Int × Int} (W : WdOk h wd) {a b : Int} (h1 : 0 ≤ a) (h2 : a ≤ b) (h3 : b ≤ h.cable) : OnT h.xs h.ys h.vs (a, b) wd ∧ boundR h.xs h.ys h.vs (a, b) wd = (bnd h.xs h.ys h.vs (a, b) wd, 0) := by
  have x1 := W.o.x1
  have x2 := W.o.x2
  have hw := okS_t W.s
  have hl := liesB_iff.1 W.l
  refine ⟨⟨W.o.t, by simp only; omega, by simp only; omega, h2, hl.1, hl.2, hw.2.1⟩, ?_⟩
  have hc : h.cable ≤ 100 := W.o.c2
  have e : cpErr h.xs h.ys h.vs (a, b) wd = 0 := by
    unfold cpErr
    have v1 : vB (a, b) = true := by rw [← okS_vB]; simp only [okS, Bool.and_eq_true, decide_eq_true_eq]; omega
    have v2 : vB wd = true := by rw [← okS_vB]; exact W.s
    have s2 : spErr [(a, b), wd] = 0 := by unfold spErr; simp [v1, v2]
    have l1 : liesB h.xs (a, b) = true := liesB_iff.2 ⟨by simp only; omega, by simp only; omega⟩
    rw [if_pos W.o.tb, s2, l1, W.l]
    rfl
  unfold boundR
  rw [e]
  rfl
theorem WdOk.ca {h : Hst} {wd : Int × Int} (W : WdOk h wd) {a b w : Int} (h1 : 0 ≤ a) (h2 : a ≤ b) (h3 : b ≤ h.cable) (hw : 1 ≤ w) : caB h wd (a, b) w = decide (w ≤ (bnd h.xs h.ys h.vs (a, b) wd).1) := by
  unfold caB
  rw [(W.on h1 h2 h3).2, decide_eq_false (by omega : ¬ w = 0)]
  rfl
theorem WdOk.be {h : Hst} {wd : Int × Int} (W : WdOk h wd) {L w : Int} (h1 : 0 ≤ L) (h3 : L ≤ h.cable) : beB h wd L w = decide (w ≤ (bnd h.xs h.ys h.vs (L, L) wd).1) := by
  unfold beB
  rw [(W.on h1 (Int.le_refl _) h3).2]
theorem WdOk.ca_be {h : Hst} {wd : Int × Int} (W : WdOk h wd) {L w : Int} (h1 : 0 ≤ L) (h3 : L ≤ h.cable) (hw : 1 ≤ w) : caB h wd (L, L) w = beB h wd L w := by
  rw [W.ca h1 (Int.le_refl _) h3 hw, W.be h1 h3]
/-- carried over a span: at each length of it -/
theorem WdOk.all {h : Hst} {wd : Int × Int} (W : WdOk h wd) {a b w : Int} (h1 : 0 ≤ a) (h2 : a ≤ b) (h3 : b ≤ h.cable) (hw : 1 ≤ w) : caB h wd (a, b) w = true ↔ ∀ l : Int, a ≤ l → l ≤ b → beB h wd l w = true := by
  rw [W.ca h1 h2 h3 hw, decide_eq_true_eq]
  have hO := (W.on h1 h2 h3).1
  constructor
  · intro hb l l1 l2
    rw [W.be (by omega) (by omega), decide_eq_true_eq]
    have := (bnd_part (x' := (l, l)) (y' := wd) hO l1 l2 (Int.le_refl _) (Int.le_refl _) (Int.le_refl _) hO.y3).1
    omega
  · intro hall
    obtain ⟨u, v, u1, u2, v1, v2, e⟩ := (bnd_is hO).low
    have u1' : a ≤ u := u1
    have u2' : u ≤ b := u2
    have hb := hall u u1' u2'
    rw [W.be (by omega) (by omega), decide_eq_true_eq] at hb
    have hO' := (W.on (a := u) (b := u) (by omega) (Int.le_refl _) (by omega)).1
    have := ((bnd_is hO').all u v (Int.le_refl _) (Int.le_refl _) v1 v2).1
    omega
set_option maxRecDepth 100000 in
set_option maxHeartbeats 1000000 in
theorem rcheckWinds_ac (h : Hst) (wd : Int × Int) (hS : HSm h) : AC Try.prog 23 [hoD h, spD wd] [] [] (dI (wndE h wd)) := by
  refine kref07_CheckWinds.ac (n0 := 0) (by simp) ⟨hoD_in _ _, in_agg2 _ _ _, trivial⟩ trivial rfl ?_
  unfold cref07_CheckWinds hoD hoC spD
  have ch := rcheckHoist_ac h hS
  have hv := rvalid2_ac wd
  by_cases h1 : hoE h = 0
  case neg =>
    have e1 : wndE h wd = hoE h := if_neg h1
    rw [e1]
    (have hg : (987654321 : Nat) - 987654321 = 0 := rfl; have hr := hg; repeat' (first | refine aw_seq ?_ | (refine aw_skip ?_; try simp only [thenQ, blockQ, if_true, if_false, Nat.reduceEqDiff, reduceCtorEq]) | (refine aw_exit ?_; try simp only [thenQ, blockQ, if_true, if_false, Nat.reduceEqDiff, reduceCtorEq]) | refine aw_ret ?_ | refine aw_block ?_ | refine aw_condT rfl ?_ | refine aw_condF rfl ?_ | (refine aw_cond rfl (fun hg => ?_) (fun hg => ?_) <;> (try (have hq := hg; simp only [Bool.not_eq_true', Bool.not_eq_false', Bool.and_eq_true, Bool.and_eq_false_iff, Bool.or_eq_true, Bool.or_eq_false_iff, decide_eq_true_eq, decide_eq_false_iff_not, bne_iff_ne, beq_iff_eq, beq_eq_false_iff_ne, bne_eq_false_iff_eq, ne_eq, Int.not_lt, Int.not_le, Decidable.not_not] at hq)) <;> (try (have hr := hg; simp only [decide_eq_true_eq, decide_eq_false_iff_not] at hr)) <;> (try (exfalso; omega))) | ((first | refine aw_region ?_ | refine acall0 (ch) ?_ | refine ago_if (by omega) ?_ | skip); simp (config := {maxSteps := 10000000}) (disch := first | exact okYes (by kernel_rfl) | omega) only [thenQ, List.map, dI, List.length, Nat.zero_add, Nat.reduceAdd, Nat.reduceMul, envOf, ARun_none, AOpRun, aexec, D.isBot, FSt.ev, St.F, ↓eget_h, Bool.false_eq_true, Option.isSome, hget_n, or_self, ↓reduceIte, D.cells, AGo_ok, St.app, putO, eput_c, Nat.reduceBEq, eput_n, cond_false, hups, hput_n, eget_c, hget_c, hput_c, ARun_nil, dropE_c, inL_n, dropE_n, beq_self_eq_true, cond_true, Nat.reduceLeDiff, List.drop, List.take, inL_c, isSh, Option.map, abin, hg])))
    all_goals (refine end_to [] [] (by first | exact .inl rfl | exact .inr rfl) rfl (by kernel_rfl) (by kernel_rfl) (by kernel_rfl) ?_ ?_ <;> repeat' (first | exact trivial | exact vr_val _ | exact vr_list _ | exact vr_at _ | exact vr_nil | exact vr_cap0 | exact vr_vec _ _ _ _ rfl | exact vr_own _ _ _ _ _ rfl | exact vr_ptr _ _ _ rfl | exact vr_nilv _ _ _ rfl | exact vr_bot _ | exact vr_cap0v _ _ _ rfl | exact vr_cap0l | apply vr_agg | apply vr_tup | apply vr_fn | refine vr_yld _ _ _ rfl ?_ | exact Ren.bot _ | exact Ren.val _ | exact Ren.list _ | exact Ren.at_ _ | exact Ren.ptr _ _ _ rfl | refine Ren.yld _ _ _ _ _ rfl rfl (RenL.get ?_).2 (fun _ _ _ h => h) | refine vr_fl _ _ _ _ _ (by decide) rfl ?_ ?_ ?_ ?_ | refine And.intro ⟨_, rfl, .inl ⟨_, rfl, by decide, ?_⟩⟩ ?_ | refine And.intro ⟨_, rfl, _, rfl, by decide, ?_⟩ ?_ | refine And.intro ⟨_, rfl, .inr ⟨rfl, rfl, of_decide_eq_true (by kernel_rfl)⟩⟩ ?_ | apply And.intro | refine vr_valq ?_ | refine vr_listq ?_ | exact vrl_flat _ (by first | exact icells_in _ | exact rcells_in _ | exact scells_in _ | exact bcells_in _ | assumption)))
  have e1 : wndE h wd = if okS wd = true then (if liesB h.ys wd = true then 0 else 1) else 10 := if_pos h1
  rw [e1]
  have hl := (hoE_ok h1).t.lens
  have hbt := between_ac h.ys wd (by omega) (by omega)
  cases h2 : okS wd with
  | false =>
    (have hg : (987654321 : Nat) - 987654321 = 0 := rfl; have hr := hg; repeat' (first | refine aw_seq ?_ | (refine aw_skip ?_; try simp only [thenQ, blockQ, if_true, if_false, Nat.reduceEqDiff, reduceCtorEq]) | (refine aw_exit ?_; try simp only [thenQ, blockQ, if_true, if_false, Nat.reduceEqDiff, reduceCtorEq]) | refine aw_ret ?_ | refine aw_block ?_ | refine aw_condT rfl ?_ | refine aw_condF rfl ?_ | (refine aw_cond rfl (fun hg => ?_) (fun hg => ?_) <;> (try (have hq := hg; simp only [Bool.not_eq_true', Bool.not_eq_false', Bool.and_eq_true, Bool.and_eq_false_iff, Bool.or_eq_true, Bool.or_eq_false_iff, decide_eq_true_eq, decide_eq_false_iff_not, bne_iff_ne, beq_iff_eq, beq_eq_false_iff_ne, bne_eq_false_iff_eq, ne_eq, Int.not_lt, Int.not_le, Decidable.not_not] at hq)) <;> (try (have hr := hg; simp only [decide_eq_true_eq, decide_eq_false_iff_not] at hr)) <;> (try (exfalso; omega))) | ((first | refine aw_region ?_ | refine acall0 (ch) ?_ | refine acall0 (hv) ?_ | refine ago_if (by omega) ?_ | skip); simp (config := {maxSteps := 10000000}) (disch := first | exact okYes (by kernel_rfl) | omega) only [thenQ, List.map, dI, Bool.false_eq_true, ↓reduceIte, List.length, Nat.zero_add, Nat.reduceAdd, Nat.reduceMul, envOf, ARun_none, AOpRun, aexec, D.isBot, FSt.ev, St.F, ↓eget_h, Option.isSome, hget_n, or_self, D.cells, AGo_ok, St.app, putO, eput_c, Nat.reduceBEq, eput_n, cond_false, hups, hput_n, eget_c, hget_c, hput_c, ARun_nil, dropE_c, inL_n, dropE_n, beq_self_eq_true, cond_true, Nat.reduceLeDiff, List.drop, List.take, h1, inL_c, isSh, Option.map, abin, bne_self_eq_false, ↓hget_h, dB, h2, Bool.not_false])))
    all_goals (refine end_to [] [] (by first | exact .inl rfl | exact .inr rfl) rfl (by kernel_rfl) (by kernel_rfl) (by kernel_rfl) ?_ ?_ <;> repeat' (first | exact trivial | exact vr_val _ | exact vr_list _ | exact vr_at _ | exact vr_nil | exact vr_cap0 | exact vr_vec _ _ _ _ rfl | exact vr_own _ _ _ _ _ rfl | exact vr_ptr _ _ _ rfl | exact vr_nilv _ _ _ rfl | exact vr_bot _ | exact vr_cap0v _ _ _ rfl | exact vr_cap0l | apply vr_agg | apply vr_tup | apply vr_fn | refine vr_yld _ _ _ rfl ?_ | exact Ren.bot _ | exact Ren.val _ | exact Ren.list _ | exact Ren.at_ _ | exact Ren.ptr _ _ _ rfl | refine Ren.yld _ _ _ _ _ rfl rfl (RenL.get ?_).2 (fun _ _ _ h => h) | refine vr_fl _ _ _ _ _ (by decide) rfl ?_ ?_ ?_ ?_ | refine And.intro ⟨_, rfl, .inl ⟨_, rfl, by decide, ?_⟩⟩ ?_ | refine And.intro ⟨_, rfl, _, rfl, by decide, ?_⟩ ?_ | refine And.intro ⟨_, rfl, .inr ⟨rfl, rfl, of_decide_eq_true (by kernel_rfl)⟩⟩ ?_ | apply And.intro | refine vr_valq ?_ | refine vr_listq ?_ | exact vrl_flat _ (by first | exact icells_in _ | exact rcells_in _ | exact scells_in _ | exact bcells_in _ | assumption)))
  | true =>
  cases h3 : liesB h.ys wd with
  | false =>
    (have hg : (987654321 : Nat) - 987654321 = 0 := rfl; have hr := hg; repeat' (first | refine aw_seq ?_ | (refine aw_skip ?_; try simp only [thenQ, blockQ, if_true, if_false, Nat.reduceEqDiff, reduceCtorEq]) | (refine aw_exit ?_; try simp only [thenQ, blockQ, if_true, if_false, Nat.reduceEqDiff, reduceCtorEq]) | refine aw_ret ?_ | refine aw_block ?_ | refine aw_condT rfl ?_ | refine aw_condF rfl ?_ | (refine aw_cond rfl (fun hg => ?_) (fun hg => ?_) <;> (try (have hq := hg; simp only [Bool.not_eq_true', Bool.not_eq_false', Bool.and_eq_true, Bool.and_eq_false_iff, Bool.or_eq_true, Bool.or_eq_false_iff, decide_eq_true_eq, decide_eq_false_iff_not, bne_iff_ne, beq_iff_eq, beq_eq_false_iff_ne, bne_eq_false_iff_eq, ne_eq, Int.not_lt, Int.not_le, Decidable.not_not] at hq)) <;> (try (have hr := hg; simp only [decide_eq_true_eq, decide_eq_false_iff_not] at hr)) <;> (try (exfalso; omega))) | ((first | refine aw_region ?_ | refine acall0 (ch) ?_ | refine acall0 (hv) ?_ | refine acall0 (hbt) ?_ | refine ago_if (by omega) ?_ | skip); simp (config := {maxSteps := 10000000}) (disch := first | exact okYes (by kernel_rfl) | omega) only [thenQ, List.map, dI, ↓reduceIte, Bool.false_eq_true, List.length, Nat.zero_add, Nat.reduceAdd, Nat.reduceMul, envOf, ARun_none, AOpRun, aexec, D.isBot, FSt.ev, St.F, ↓eget_h, Option.isSome, hget_n, or_self, D.cells, AGo_ok, St.app, putO, eput_c, Nat.reduceBEq, eput_n, cond_false, hups, hput_n, eget_c, hget_c, hput_c, ARun_nil, dropE_c, inL_n, dropE_n, beq_self_eq_true, cond_true, Nat.reduceLeDiff, List.drop, List.take, h1, inL_c, isSh, Option.map, abin, bne_self_eq_false, ↓hget_h, dB, h2, Bool.not_true, run1, List.getElem?_cons_succ, List.getElem?_cons_zero, h3, Bool.not_false])))
    all_goals (refine end_to [] [] (by first | exact .inl rfl | exact .inr rfl) rfl (by kernel_rfl) (by kernel_rfl) (by kernel_rfl) ?_ ?_ <;> repeat' (first | exact trivial | exact vr_val _ | exact vr_list _ | exact vr_at _ | exact vr_nil | exact vr_cap0 | exact vr_vec _ _ _ _ rfl | exact vr_own _ _ _ _ _ rfl | exact vr_ptr _ _ _ rfl | exact vr_nilv _ _ _ rfl | exact vr_bot _ | exact vr_cap0v _ _ _ rfl | exact vr_cap0l | apply vr_agg | apply vr_tup | apply vr_fn | refine vr_yld _ _ _ rfl ?_ | exact Ren.bot _ | exact Ren.val _ | exact Ren.list _ | exact Ren.at_ _ | exact Ren.ptr _ _ _ rfl | refine Ren.yld _ _ _ _ _ rfl rfl (RenL.get ?_).2 (fun _ _ _ h => h) | refine vr_fl _ _ _ _ _ (by decide) rfl ?_ ?_ ?_ ?_ | refine And.intro ⟨_, rfl, .inl ⟨_, rfl, by decide, ?_⟩⟩ ?_ | refine And.intro ⟨_, rfl, _, rfl, by decide, ?_⟩ ?_ | refine And.intro ⟨_, rfl, .inr ⟨rfl, rfl, of_decide_eq_true (by kernel_rfl)⟩⟩ ?_ | apply And.intro | refine vr_valq ?_ | refine vr_listq ?_ | exact vrl_flat _ (by first | exact icells_in _ | exact rcells_in _ | exact scells_in _ | exact bcells_in _ | assumption)))
  | true =>
    (have hg : (987654321 : Nat) - 987654321 = 0 := rfl; have hr := hg; repeat' (first | refine aw_seq ?_ | (refine aw_skip ?_; try simp only [thenQ, blockQ, if_true, if_false, Nat.reduceEqDiff, reduceCtorEq]) | (refine aw_exit ?_; try simp only [thenQ, blockQ, if_true, if_false, Nat.reduceEqDiff, reduceCtorEq]) | refine aw_ret ?_ | refine aw_block ?_ | refine aw_condT rfl ?_ | refine aw_condF rfl ?_ | (refine aw_cond rfl (fun hg => ?_) (fun hg => ?_) <;> (try (have hq := hg; simp only [Bool.not_eq_true', Bool.not_eq_false', Bool.and_eq_true, Bool.and_eq_false_iff, Bool.or_eq_true, Bool.or_eq_false_iff, decide_eq_true_eq, decide_eq_false_iff_not, bne_iff_ne, beq_iff_eq, beq_eq_false_iff_ne, bne_eq_false_iff_eq, ne_eq, Int.not_lt, Int.not_le, Decidable.not_not] at hq)) <;> (try (have hr := hg; simp only [decide_eq_true_eq, decide_eq_false_iff_not] at hr)) <;> (try (exfalso; omega))) | ((first | refine aw_region ?_ | refine acall0 (ch) ?_ | refine acall0 (hv) ?_ | refine acall0 (hbt) ?_ | refine ago_if (by omega) ?_ | skip); simp (config := {maxSteps := 10000000}) (disch := first | exact okYes (by kernel_rfl) | omega) only [thenQ, List.map, dI, ↓reduceIte, List.length, Nat.zero_add, Nat.reduceAdd, Nat.reduceMul, envOf, ARun_none, AOpRun, aexec, D.isBot, FSt.ev, St.F, ↓eget_h, Bool.false_eq_true, Option.isSome, hget_n, or_self, D.cells, AGo_ok, St.app, putO, eput_c, Nat.reduceBEq, eput_n, cond_false, hups, hput_n, eget_c, hget_c, hput_c, ARun_nil, dropE_c, inL_n, dropE_n, beq_self_eq_true, cond_true, Nat.reduceLeDiff, List.drop, List.take, h1, inL_c, isSh, Option.map, abin, bne_self_eq_false, ↓hget_h, dB, h2, Bool.not_true, run1, List.getElem?_cons_succ, List.getElem?_cons_zero, h3])))
    all_goals (refine end_to [] [] (by first | exact .inl rfl | exact .inr rfl) rfl (by kernel_rfl) (by kernel_rfl) (by kernel_rfl) ?_ ?_ <;> repeat' (first | exact trivial | exact vr_val _ | exact vr_list _ | exact vr_at _ | exact vr_nil | exact vr_cap0 | exact vr_vec _ _ _ _ rfl | exact vr_own _ _ _ _ _ rfl | exact vr_ptr _ _ _ rfl | exact vr_nilv _ _ _ rfl | exact vr_bot _ | exact vr_cap0v _ _ _ rfl | exact vr_cap0l | apply vr_agg | apply vr_tup | apply vr_fn | refine vr_yld _ _ _ rfl ?_ | exact Ren.bot _ | exact Ren.val _ | exact Ren.list _ | exact Ren.at_ _ | exact Ren.ptr _ _ _ rfl | refine Ren.yld _ _ _ _ _ rfl rfl (RenL.get ?_).2 (fun _ _ _ h => h) | refine vr_fl _ _ _ _ _ (by decide) rfl ?_ ?_ ?_ ?_ | refine And.intro ⟨_, rfl, .inl ⟨_, rfl, by decide, ?_⟩⟩ ?_ | refine And.intro ⟨_, rfl, _, rfl, by decide, ?_⟩ ?_ | refine And.intro ⟨_, rfl, .inr ⟨rfl, rfl, of_decide_eq_true (by kernel_rfl)⟩⟩ ?_ | apply And.intro | refine vr_valq ?_ | refine vr_listq ?_ | exact vrl_flat _ (by first | exact icells_in _ | exact rcells_in _ | exact scells_in _ | exact bcells_in _ | assumption)))
def crE (h : Hst) (wd : Int × Int) (L w : Int) : Int := if wndE h wd = 0 then (if wI L 0 h.cable = true ∧ wI w 1 100000 = true then 0 else 1) else wndE h wd
def crB (h : Hst) (wd : Int × Int) (L w : Int) : Bool := if crE h wd L w = 0 then beB h wd L w else false
theorem wi_wnd {h : Hst} {wd : Int × Int} (e : wiE h wd = 0) : wndE h wd = if liesB h.ys wd = true then 0 else 1 := by
  by_cases h1 : hoE h = 0
  · have e1 : wiE h wd = if okS wd = true then 0 else 10 := if_pos h1
    by_cases h2 : okS wd = true
    · unfold wndE; rw [if_pos h1, if_pos h2]
    · rw [e1, if_neg h2] at e; omega
  · exact absurd ((if_neg h1).symm.trans e) h1
theorem wi_wnd' {h : Hst} {wd : Int × Int} (e : wiE h wd ≠ 0) : wndE h wd = wiE h wd := by
  by_cases h1 : hoE h = 0
  · have e1 : wiE h wd = if okS wd = true then 0 else 10 := if_pos h1
    by_cases h2 : okS wd = true
    · rw [e1, if_pos h2] at e; omega
    · unfold wndE; rw [e1, if_pos h1, if_neg h2, if_neg h2]
  · unfold wndE wiE; rw [if_neg h1, if_neg h1]
set_option maxRecDepth 100000 in
set_option maxHeartbeats 1000000 in
theorem scarries_ac (h : Hst) (wd : Int × Int) (L w : Int) (hS : HSm h) : AC Try.prog 19 [hoD h, spD wd, dI L, dI w] [] [] (.tup [dB (crB h wd L w), dI (crE h wd L w)]) := by
  refine ksling_Carries.ac (n0 := 0) (by simp) ⟨hoD_in _ _, in_agg2 _ _ _, .val _, .val _, trivial⟩ trivial rfl ?_
  unfold csling_Carries hoD hoC spD
  by_cases h1 : wiE h wd = 0
  case neg =>
    have e0 := wi_wnd' h1
    have e1 : crE h wd L w = wiE h wd := by unfold crE; rw [e0, if_neg h1]
    have e2 : crB h wd L w = false := if_neg (by rw [e1]; exact h1)
    rw [e1, e2]
    (have hg : (987654321 : Nat) - 987654321 = 0 := rfl; have hr := hg; repeat' (first | refine aw_seq ?_ | (refine aw_skip ?_; try simp only [thenQ, blockQ, if_true, if_false, Nat.reduceEqDiff, reduceCtorEq]) | (refine aw_exit ?_; try simp only [thenQ, blockQ, if_true, if_false, Nat.reduceEqDiff, reduceCtorEq]) | refine aw_ret ?_ | refine aw_block ?_ | refine aw_condT rfl ?_ | refine aw_condF rfl ?_ | (refine aw_cond rfl (fun hg => ?_) (fun hg => ?_) <;> (try (have hq := hg; simp only [Bool.not_eq_true', Bool.not_eq_false', Bool.and_eq_true, Bool.and_eq_false_iff, Bool.or_eq_true, Bool.or_eq_false_iff, decide_eq_true_eq, decide_eq_false_iff_not, bne_iff_ne, beq_iff_eq, beq_eq_false_iff_ne, bne_eq_false_iff_eq, ne_eq, Int.not_lt, Int.not_le, Decidable.not_not] at hq)) <;> (try (have hr := hg; simp only [decide_eq_true_eq, decide_eq_false_iff_not] at hr)) <;> (try (exfalso; omega))) | ((first | refine aw_region ?_ | refine acall0 (newWinchE_ac h wd hS h1) ?_ | refine ago_if (by omega) ?_ | skip); simp (config := {maxSteps := 10000000}) (disch := first | exact okYes (by kernel_rfl) | omega) only [thenQ, List.map, dB, dI, List.length, Nat.zero_add, Nat.reduceAdd, Nat.reduceMul, envOf, ARun_none, AOpRun, aexec, D.isBot, FSt.ev, St.F, ↓eget_h, Bool.false_eq_true, Option.isSome, hget_n, or_self, ↓reduceIte, D.cells, AGo_ok, St.app, putO, eput_c, Nat.reduceBEq, eput_n, cond_false, hups, hput_n, eget_c, hget_c, hput_c, ARun_nil, dropE_c, inL_n, dropE_n, beq_self_eq_true, cond_true, Nat.reduceLeDiff, List.drop, List.take, ↓hget_h, opt1, Option.map, List.getElem?_cons_zero, List.getElem?_cons_succ, inL_c, isSh, abin, hg, blockQ])))
    all_goals (refine end_to [] [] (by first | exact .inl rfl | exact .inr rfl) rfl (by kernel_rfl) (by kernel_rfl) (by kernel_rfl) ?_ ?_ <;> repeat' (first | exact trivial | exact vr_val _ | exact vr_list _ | exact vr_at _ | exact vr_nil | exact vr_cap0 | exact vr_vec _ _ _ _ rfl | exact vr_own _ _ _ _ _ rfl | exact vr_ptr _ _ _ rfl | exact vr_nilv _ _ _ rfl | exact vr_bot _ | exact vr_cap0v _ _ _ rfl | exact vr_cap0l | apply vr_agg | apply vr_tup | apply vr_fn | refine vr_yld _ _ _ rfl ?_ | exact Ren.bot _ | exact Ren.val _ | exact Ren.list _ | exact Ren.at_ _ | exact Ren.ptr _ _ _ rfl | refine Ren.yld _ _ _ _ _ rfl rfl (RenL.get ?_).2 (fun _ _ _ h => h) | refine vr_fl _ _ _ _ _ (by decide) rfl ?_ ?_ ?_ ?_ | refine And.intro ⟨_, rfl, .inl ⟨_, rfl, by decide, ?_⟩⟩ ?_ | refine And.intro ⟨_, rfl, _, rfl, by decide, ?_⟩ ?_ | refine And.intro ⟨_, rfl, .inr ⟨rfl, rfl, of_decide_eq_true (by kernel_rfl)⟩⟩ ?_ | apply And.intro | refine vr_valq ?_ | refine vr_listq ?_ | exact vrl_flat _ (by first | exact icells_in _ | exact rcells_in _ | exact scells_in _ | exact bcells_in _ | assumption)))
  have e0 := wi_wnd h1
  have nw := newWinchO_ac h wd hS h1
  cases c0 : liesB h.ys wd with
  | false =>
    rw [c0] at e0
    have e1 : crE h wd L w = 1 := by unfold crE; rw [e0]; rfl
    have e2 : crB h wd L w = false := if_neg (by rw [e1]; omega)
    rw [e1, e2]
    (have hg : (987654321 : Nat) - 987654321 = 0 := rfl; have hr := hg; repeat' (first | refine aw_seq ?_ | (refine aw_skip ?_; try simp only [thenQ, blockQ, if_true, if_false, Nat.reduceEqDiff, reduceCtorEq]) | (refine aw_exit ?_; try simp only [thenQ, blockQ, if_true, if_false, Nat.reduceEqDiff, reduceCtorEq]) | refine aw_ret ?_ | refine aw_block ?_ | refine aw_condT rfl ?_ | refine aw_condF rfl ?_ | (refine aw_cond rfl (fun hg => ?_) (fun hg => ?_) <;> (try (have hq := hg; simp only [Bool.not_eq_true', Bool.not_eq_false', Bool.and_eq_true, Bool.and_eq_false_iff, Bool.or_eq_true, Bool.or_eq_false_iff, decide_eq_true_eq, decide_eq_false_iff_not, bne_iff_ne, beq_iff_eq, beq_eq_false_iff_ne, bne_eq_false_iff_eq, ne_eq, Int.not_lt, Int.not_le, Decidable.not_not] at hq)) <;> (try (have hr := hg; simp only [decide_eq_true_eq, decide_eq_false_iff_not] at hr)) <;> (try (exfalso; omega))) | ((first | refine aw_region ?_ | refine acallB (nw) (by repeat' (first | exact trivial | exact rfl | refine And.intro ?_ ?_)) (by kernel_rfl) (by kernel_rfl) (by kernel_rfl) ?_ | refine ago_if (by omega) ?_ | skip); simp (config := {maxSteps := 10000000}) (disch := first | exact okYes (by kernel_rfl) | omega) only [thenQ, List.map, dB, dI, List.length, Nat.zero_add, Nat.reduceAdd, Nat.reduceMul, envOf, ARun_none, AOpRun, aexec, D.isBot, FSt.ev, St.F, ↓eget_h, Bool.false_eq_true, Option.isSome, hget_n, or_self, ↓reduceIte, D.cells, AGo_ok, St.app, putO, eput_c, Nat.reduceBEq, eput_n, cond_false, hups, hput_n, eget_c, hget_c, hput_c, ARun_nil, dropE_c, inL_n, dropE_n, beq_self_eq_true, cond_true, Nat.reduceLeDiff, List.drop, List.take, ↓hget_h, c0, List.append_nil, opt1, Option.map, List.getElem?_cons_zero, List.getElem?_cons_succ, inL_c, isSh, abin, bne_self_eq_false, Bool.not_false, blockQ])))
    all_goals (refine end_to [] [] (by first | exact .inl rfl | exact .inr rfl) rfl (by kernel_rfl) (by kernel_rfl) (by kernel_rfl) ?_ ?_ <;> repeat' (first | exact trivial | exact vr_val _ | exact vr_list _ | exact vr_at _ | exact vr_nil | exact vr_cap0 | exact vr_vec _ _ _ _ rfl | exact vr_own _ _ _ _ _ rfl | exact vr_ptr _ _ _ rfl | exact vr_nilv _ _ _ rfl | exact vr_bot _ | exact vr_cap0v _ _ _ rfl | exact vr_cap0l | apply vr_agg | apply vr_tup | apply vr_fn | refine vr_yld _ _ _ rfl ?_ | exact Ren.bot _ | exact Ren.val _ | exact Ren.list _ | exact Ren.at_ _ | exact Ren.ptr _ _ _ rfl | refine Ren.yld _ _ _ _ _ rfl rfl (RenL.get ?_).2 (fun _ _ _ h => h) | refine vr_fl _ _ _ _ _ (by decide) rfl ?_ ?_ ?_ ?_ | refine And.intro ⟨_, rfl, .inl ⟨_, rfl, by decide, ?_⟩⟩ ?_ | refine And.intro ⟨_, rfl, _, rfl, by decide, ?_⟩ ?_ | refine And.intro ⟨_, rfl, .inr ⟨rfl, rfl, of_decide_eq_true (by kernel_rfl)⟩⟩ ?_ | apply And.intro | refine vr_valq ?_ | refine vr_listq ?_ | exact vrl_flat _ (by first | exact icells_in _ | exact rcells_in _ | exact scells_in _ | exact bcells_in _ | assumption)))
  | true =>
  rw [c0] at e0
  have e0' : wndE h wd = 0 := e0
  have cs := carries_ac h wd (L, L) w hng0 false (wndE_ok e0').o
  cases c1 : wI L 0 h.cable with
  | false =>
    have e1 : crE h wd L w = 1 := by unfold crE; rw [if_pos e0', c1]; simp
    have e2 : crB h wd L w = false := if_neg (by rw [e1]; omega)
    rw [e1, e2]
    (have hg : (987654321 : Nat) - 987654321 = 0 := rfl; have hr := hg; repeat' (first | refine aw_seq ?_ | (refine aw_skip ?_; try simp only [thenQ, blockQ, if_true, if_false, Nat.reduceEqDiff, reduceCtorEq]) | (refine aw_exit ?_; try simp only [thenQ, blockQ, if_true, if_false, Nat.reduceEqDiff, reduceCtorEq]) | refine aw_ret ?_ | refine aw_block ?_ | refine aw_condT rfl ?_ | refine aw_condF rfl ?_ | (refine aw_cond rfl (fun hg => ?_) (fun hg => ?_) <;> (try (have hq := hg; simp only [Bool.not_eq_true', Bool.not_eq_false', Bool.and_eq_true, Bool.and_eq_false_iff, Bool.or_eq_true, Bool.or_eq_false_iff, decide_eq_true_eq, decide_eq_false_iff_not, bne_iff_ne, beq_iff_eq, beq_eq_false_iff_ne, bne_eq_false_iff_eq, ne_eq, Int.not_lt, Int.not_le, Decidable.not_not] at hq)) <;> (try (have hr := hg; simp only [decide_eq_true_eq, decide_eq_false_iff_not] at hr)) <;> (try (exfalso; omega))) | ((first | refine aw_region ?_ | refine acallB (nw) (by repeat' (first | exact trivial | exact rfl | refine And.intro ?_ ?_)) (by kernel_rfl) (by kernel_rfl) (by kernel_rfl) ?_ | refine acall0 (swithin_ac _ _ _) ?_ | refine ago_if (by omega) ?_ | skip); simp (config := {maxSteps := 10000000}) (disch := first | exact okYes (by kernel_rfl) | omega) only [thenQ, List.map, dB, dI, List.length, Nat.zero_add, Nat.reduceAdd, Nat.reduceMul, envOf, ARun_none, AOpRun, aexec, D.isBot, FSt.ev, St.F, ↓eget_h, Bool.false_eq_true, Option.isSome, hget_n, or_self, ↓reduceIte, D.cells, AGo_ok, St.app, putO, eput_c, Nat.reduceBEq, eput_n, cond_false, hups, hput_n, eget_c, hget_c, hput_c, ARun_nil, dropE_c, inL_n, dropE_n, beq_self_eq_true, cond_true, Nat.reduceLeDiff, List.drop, List.take, ↓hget_h, c0, List.append_nil, opt1, Option.map, List.getElem?_cons_zero, List.getElem?_cons_succ, inL_c, isSh, abin, bne_self_eq_false, Bool.not_true, run1, c1, Bool.not_false, blockQ])))
    all_goals (refine end_to [] [] (by first | exact .inl rfl | exact .inr rfl) rfl (by kernel_rfl) (by kernel_rfl) (by kernel_rfl) ?_ ?_ <;> repeat' (first | exact trivial | exact vr_val _ | exact vr_list _ | exact vr_at _ | exact vr_nil | exact vr_cap0 | exact vr_vec _ _ _ _ rfl | exact vr_own _ _ _ _ _ rfl | exact vr_ptr _ _ _ rfl | exact vr_nilv _ _ _ rfl | exact vr_bot _ | exact vr_cap0v _ _ _ rfl | exact vr_cap0l | apply vr_agg | apply vr_tup | apply vr_fn | refine vr_yld _ _ _ rfl ?_ | exact Ren.bot _ | exact Ren.val _ | exact Ren.list _ | exact Ren.at_ _ | exact Ren.ptr _ _ _ rfl | refine Ren.yld _ _ _ _ _ rfl rfl (RenL.get ?_).2 (fun _ _ _ h => h) | refine vr_fl _ _ _ _ _ (by decide) rfl ?_ ?_ ?_ ?_ | refine And.intro ⟨_, rfl, .inl ⟨_, rfl, by decide, ?_⟩⟩ ?_ | refine And.intro ⟨_, rfl, _, rfl, by decide, ?_⟩ ?_ | refine And.intro ⟨_, rfl, .inr ⟨rfl, rfl, of_decide_eq_true (by kernel_rfl)⟩⟩ ?_ | apply And.intro | refine vr_valq ?_ | refine vr_listq ?_ | exact vrl_flat _ (by first | exact icells_in _ | exact rcells_in _ | exact scells_in _ | exact bcells_in _ | assumption)))
  | true =>
  cases c2 : wI w 1 100000 with
  | false =>
    have e1 : crE h wd L w = 1 := by unfold crE; rw [if_pos e0', c2]; simp
    have e2 : crB h wd L w = false := if_neg (by rw [e1]; omega)
    rw [e1, e2]
    (have hg : (987654321 : Nat) - 987654321 = 0 := rfl; have hr := hg; repeat' (first | refine aw_seq ?_ | (refine aw_skip ?_; try simp only [thenQ, blockQ, if_true, if_false, Nat.reduceEqDiff, reduceCtorEq]) | (refine aw_exit ?_; try simp only [thenQ, blockQ, if_true, if_false, Nat.reduceEqDiff, reduceCtorEq]) | refine aw_ret ?_ | refine aw_block ?_ | refine aw_condT rfl ?_ | refine aw_condF rfl ?_ | (refine aw_cond rfl (fun hg => ?_) (fun hg => ?_) <;> (try (have hq := hg; simp only [Bool.not_eq_true', Bool.not_eq_false', Bool.and_eq_true, Bool.and_eq_false_iff, Bool.or_eq_true, Bool.or_eq_false_iff, decide_eq_true_eq, decide_eq_false_iff_not, bne_iff_ne, beq_iff_eq, beq_eq_false_iff_ne, bne_eq_false_iff_eq, ne_eq, Int.not_lt, Int.not_le, Decidable.not_not] at hq)) <;> (try (have hr := hg; simp only [decide_eq_true_eq, decide_eq_false_iff_not] at hr)) <;> (try (exfalso; omega))) | ((first | refine aw_region ?_ | refine acallB (nw) (by repeat' (first | exact trivial | exact rfl | refine And.intro ?_ ?_)) (by kernel_rfl) (by kernel_rfl) (by kernel_rfl) ?_ | refine acall0 (swithin_ac _ _ _) ?_ | refine ago_if (by omega) ?_ | skip); simp (config := {maxSteps := 10000000}) (disch := first | exact okYes (by kernel_rfl) | omega) only [thenQ, List.map, dB, dI, List.length, Nat.zero_add, Nat.reduceAdd, Nat.reduceMul, envOf, ARun_none, AOpRun, aexec, D.isBot, FSt.ev, St.F, ↓eget_h, Bool.false_eq_true, Option.isSome, hget_n, or_self, ↓reduceIte, D.cells, AGo_ok, St.app, putO, eput_c, Nat.reduceBEq, eput_n, cond_false, hups, hput_n, eget_c, hget_c, hput_c, ARun_nil, dropE_c, inL_n, dropE_n, beq_self_eq_true, cond_true, Nat.reduceLeDiff, List.drop, List.take, ↓hget_h, c0, List.append_nil, opt1, Option.map, List.getElem?_cons_zero, List.getElem?_cons_succ, inL_c, isSh, abin, bne_self_eq_false, Bool.not_true, run1, c1, c2, Bool.not_false, blockQ])))
    all_goals (refine end_to [] [] (by first | exact .inl rfl | exact .inr rfl) rfl (by kernel_rfl) (by kernel_rfl) (by kernel_rfl) ?_ ?_ <;> repeat' (first | exact trivial | exact vr_val _ | exact vr_list _ | exact vr_at _ | exact vr_nil | exact vr_cap0 | exact vr_vec _ _ _ _ rfl | exact vr_own _ _ _ _ _ rfl | exact vr_ptr _ _ _ rfl | exact vr_nilv _ _ _ rfl | exact vr_bot _ | exact vr_cap0v _ _ _ rfl | exact vr_cap0l | apply vr_agg | apply vr_tup | apply vr_fn | refine vr_yld _ _ _ rfl ?_ | exact Ren.bot _ | exact Ren.val _ | exact Ren.list _ | exact Ren.at_ _ | exact Ren.ptr _ _ _ rfl | refine Ren.yld _ _ _ _ _ rfl rfl (RenL.get ?_).2 (fun _ _ _ h => h) | refine vr_fl _ _ _ _ _ (by decide) rfl ?_ ?_ ?_ ?_ | refine And.intro ⟨_, rfl, .inl ⟨_, rfl, by decide, ?_⟩⟩ ?_ | refine And.intro ⟨_, rfl, _, rfl, by decide, ?_⟩ ?_ | refine And.intro ⟨_, rfl, .inr ⟨rfl, rfl, of_decide_eq_true (by kernel_rfl)⟩⟩ ?_ | apply And.intro | refine vr_valq ?_ | refine vr_listq ?_ | exact vrl_flat _ (by first | exact icells_in _ | exact rcells_in _ | exact scells_in _ | exact bcells_in _ | assumption)))
  | true =>
    have e1 : crE h wd L w = 0 := by unfold crE; rw [if_pos e0', c1, c2]; simp
    have b1 := wI_t c1
    have b2 := wI_t c2
    have e2 : crB h wd L w = caB h wd (L, L) w := by rw [(wndE_ok e0').ca_be b1.1 b1.2 b2.1]; exact if_pos e1
    rw [e1, e2]
    (have hg : (987654321 : Nat) - 987654321 = 0 := rfl; have hr := hg; repeat' (first | refine aw_seq ?_ | (refine aw_skip ?_; try simp only [thenQ, blockQ, if_true, if_false, Nat.reduceEqDiff, reduceCtorEq]) | (refine aw_exit ?_; try simp only [thenQ, blockQ, if_true, if_false, Nat.reduceEqDiff, reduceCtorEq]) | refine aw_ret ?_ | refine aw_block ?_ | refine aw_condT rfl ?_ | refine aw_condF rfl ?_ | (refine aw_cond rfl (fun hg => ?_) (fun hg => ?_) <;> (try (have hq := hg; simp only [Bool.not_eq_true', Bool.not_eq_false', Bool.and_eq_true, Bool.and_eq_false_iff, Bool.or_eq_true, Bool.or_eq_false_iff, decide_eq_true_eq, decide_eq_false_iff_not, bne_iff_ne, beq_iff_eq, beq_eq_false_iff_ne, bne_eq_false_iff_eq, ne_eq, Int.not_lt, Int.not_le, Decidable.not_not] at hq)) <;> (try (have hr := hg; simp only [decide_eq_true_eq, decide_eq_false_iff_not] at hr)) <;> (try (exfalso; omega))) | ((first | refine aw_region ?_ | refine acallB (nw) (by repeat' (first | exact trivial | exact rfl | refine And.intro ?_ ?_)) (by kernel_rfl) (by kernel_rfl) (by kernel_rfl) ?_ | refine acall0 (swithin_ac _ _ _) ?_ | refine acall0 (at_ac L) ?_ | refine acallB (cs) (by repeat' (first | exact trivial | exact rfl | refine And.intro ?_ ?_)) (by kernel_rfl) (by kernel_rfl) (by kernel_rfl) ?_ | refine ago_if (by omega) ?_ | skip); simp (config := {maxSteps := 10000000}) (disch := first | exact okYes (by kernel_rfl) | omega) only [thenQ, List.map, dB, dI, List.length, Nat.zero_add, Nat.reduceAdd, Nat.reduceMul, envOf, ARun_none, AOpRun, aexec, D.isBot, FSt.ev, St.F, ↓eget_h, Bool.false_eq_true, Option.isSome, hget_n, or_self, ↓reduceIte, D.cells, AGo_ok, St.app, putO, eput_c, Nat.reduceBEq, eput_n, cond_false, hups, hput_n, eget_c, hget_c, hput_c, ARun_nil, dropE_c, inL_n, dropE_n, beq_self_eq_true, cond_true, Nat.reduceLeDiff, List.drop, List.take, ↓hget_h, c0, List.append_nil, opt1, Option.map, List.getElem?_cons_zero, List.getElem?_cons_succ, inL_c, isSh, abin, bne_self_eq_false, Bool.not_true, run1, c1, c2])))
    all_goals (refine end_to [] [] (by first | exact .inl rfl | exact .inr rfl) rfl (by kernel_rfl) (by kernel_rfl) (by kernel_rfl) ?_ ?_ <;> repeat' (first | exact trivial | exact vr_val _ | exact vr_list _ | exact vr_at _ | exact vr_nil | exact vr_cap0 | exact vr_vec _ _ _ _ rfl | exact vr_own _ _ _ _ _ rfl | exact vr_ptr _ _ _ rfl | exact vr_nilv _ _ _ rfl | exact vr_bot _ | exact vr_cap0v _ _ _ rfl | exact vr_cap0l | apply vr_agg | apply vr_tup | apply vr_fn | refine vr_yld _ _ _ rfl ?_ | exact Ren.bot _ | exact Ren.val _ | exact Ren.list _ | exact Ren.at_ _ | exact Ren.ptr _ _ _ rfl | refine Ren.yld _ _ _ _ _ rfl rfl (RenL.get ?_).2 (fun _ _ _ h => h) | refine vr_fl _ _ _ _ _ (by decide) rfl ?_ ?_ ?_ ?_ | refine And.intro ⟨_, rfl, .inl ⟨_, rfl, by decide, ?_⟩⟩ ?_ | refine And.intro ⟨_, rfl, _, rfl, by decide, ?_⟩ ?_ | refine And.intro ⟨_, rfl, .inr ⟨rfl, rfl, of_decide_eq_true (by kernel_rfl)⟩⟩ ?_ | apply And.intro | refine vr_valq ?_ | refine vr_listq ?_ | exact vrl_flat _ (by first | exact icells_in _ | exact rcells_in _ | exact scells_in _ | exact bcells_in _ | assumption)))
/-- the first length at which a weight is not borne -/
def dpF (h : Hst) (wd : Int × Int) (w : Int) : Int := ixR (fun L => !beB h wd L w) (h.cable.toNat + 1)
def dpN (h : Hst) (wd : Int × Int) (w : Int) : Int := if dpF h wd w < 0 then h.cable else dpF h wd w - 1
def dpE (h : Hst) (wd : Int × Int) (w : Int) : Int := if wndE h wd = 0 then (if wI w 1 100000 = true then (if dpN h wd w < 0 then 3 else 0) else 1) else wndE h wd
def dpV (h : Hst) (wd : Int × Int) (w : Int) : Int := if dpE h wd w = 0 then dpN h wd w else 0
theorem dpN_at {h : Hst} {wd : Int × Int} {w : Int} {n : Nat} (c : 1 ≤ h.cable) (hn : (n : Int) ≤ h.cable) (h1 : ∀ j : Nat, j < n → beB h wd j w = true) (h2 : beB h wd n w = false) : dpN h wd w = n - 1 := by
  have e : dpF h wd w = n := ixR_some (by omega) (fun j hj => by simp [h1 j hj]) (by simp [h2])
  unfold dpN
  rw [e, if_neg (by omega)]
theorem dpN_all {h : Hst} {wd : Int × Int} {w : Int} (h1 : ∀ j : Nat, (j : Int) ≤ h.cable → beB h wd j w = true) (c : 1 ≤ h.cable) : dpN h wd w = h.cable := by
  have e : dpF h wd w = -1 := ixR_none fun j hj => by simp [h1 j (by omega)]
  unfold dpN
  rw [e, if_pos (by omega)]
end Go.Proofs.Ythohcimmoobaoaa
/- The hoist: Deepest, both sides. No conditions. -/
set_option linter.unusedSimpArgs false
set_option linter.unusedVariables false
namespace Go.Proofs.Ythohcimmoobaoaa
open Go.RowKit Lift

theorem dpN_le {h : Hst} {wd : Int × Int} {w : Int} (c : 1 ≤ h.cable) : -1 ≤ dpN h wd w ∧ dpN h wd w ≤ h.cable := by
  unfold dpN
  rcases ixR_cases (fun L => !beB h wd L w) (h.cable.toNat + 1) with ⟨e, _⟩ | ⟨k, hk, e, _⟩
  · have e' : dpF h wd w = -1 := e
    rw [e', if_pos (by omega)]; omega
  · have e' : dpF h wd w = k := e
    rw [e', if_neg (by omega)]; omega
set_option maxRecDepth 100000 in
set_option maxHeartbeats 1000000 in
theorem sdeepest_ac (h : Hst) (wd : Int × Int) (w : Int) (hS : HSm h) : AC Try.prog 21 [hoD h, spD wd, dI w] [] [] (.tup [dI (dpV h wd w), dI (dpE h wd w)]) := by
  refine ksling_Deepest.ac (n0 := 0) (by simp) ⟨hoD_in _ _, in_agg2 _ _ _, .val _, trivial⟩ trivial rfl ?_
  unfold csling_Deepest hoD hoC spD
  by_cases h1 : wiE h wd = 0
  case neg =>
    have e0 := wi_wnd' h1
    have e1 : dpE h wd w = wiE h wd := by unfold dpE; rw [e0, if_neg h1]
    have e2 : dpV h wd w = 0 := if_neg (by rw [e1]; exact h1)
    rw [e1, e2]
    (have hg : (987654321 : Nat) - 987654321 = 0 := rfl; have hr := hg; repeat' (first | refine aw_seq ?_ | (refine aw_skip ?_; try simp only [thenQ, blockQ, if_true, if_false, Nat.reduceEqDiff, reduceCtorEq]) | (refine aw_exit ?_; try simp only [thenQ, blockQ, if_true, if_false, Nat.reduceEqDiff, reduceCtorEq]) | refine aw_ret ?_ | refine aw_block ?_ | refine aw_condT rfl ?_ | refine aw_condF rfl ?_ | (refine aw_cond rfl (fun hg => ?_) (fun hg => ?_) <;> (try (have hq := hg; simp only [Bool.not_eq_true', Bool.not_eq_false', Bool.and_eq_true, Bool.and_eq_false_iff, Bool.or_eq_true, Bool.or_eq_false_iff, decide_eq_true_eq, decide_eq_false_iff_not, bne_iff_ne, beq_iff_eq, beq_eq_false_iff_ne, bne_eq_false_iff_eq, ne_eq, Int.not_lt, Int.not_le, Decidable.not_not] at hq)) <;> (try (have hr := hg; simp only [decide_eq_true_eq, decide_eq_false_iff_not] at hr)) <;> (try (exfalso; omega))) | ((first | refine aw_region ?_ | refine acall0 (newWinchE_ac h wd hS h1) ?_ | refine ago_if (by omega) ?_ | skip); simp (config := {maxSteps := 10000000}) (disch := first | exact okYes (by kernel_rfl) | omega) only [thenQ, List.map, dI, List.length, Nat.zero_add, Nat.reduceAdd, Nat.reduceMul, envOf, ARun_none, AOpRun, aexec, D.isBot, FSt.ev, St.F, ↓eget_h, Bool.false_eq_true, Option.isSome, hget_n, or_self, ↓reduceIte, D.cells, AGo_ok, St.app, putO, eput_c, Nat.reduceBEq, eput_n, cond_false, hups, hput_n, eget_c, hget_c, hput_c, ARun_nil, dropE_c, inL_n, dropE_n, beq_self_eq_true, cond_true, Nat.reduceLeDiff, List.drop, List.take, ↓hget_h, dB, opt1, Option.map, List.getElem?_cons_zero, List.getElem?_cons_succ, inL_c, isSh, abin, hg, blockQ])))
    all_goals (refine end_to [] [] (by first | exact .inl rfl | exact .inr rfl) rfl (by kernel_rfl) (by kernel_rfl) (by kernel_rfl) ?_ ?_ <;> repeat' (first | exact trivial | exact vr_val _ | apply vr_tup | apply And.intro))
  have e0 := wi_wnd h1
  have nw := newWinchO_ac h wd hS h1
  cases c0 : liesB h.ys wd with
  | false =>
    rw [c0] at e0
    have e1 : dpE h wd w = 1 := by unfold dpE; rw [e0]; rfl
    have e2 : dpV h wd w = 0 := if_neg (by rw [e1]; omega)
    rw [e1, e2]
    (have hg : (987654321 : Nat) - 987654321 = 0 := rfl; have hr := hg; repeat' (first | refine aw_seq ?_ | (refine aw_skip ?_; try simp only [thenQ, blockQ, if_true, if_false, Nat.reduceEqDiff, reduceCtorEq]) | (refine aw_exit ?_; try simp only [thenQ, blockQ, if_true, if_false, Nat.reduceEqDiff, reduceCtorEq]) | refine aw_ret ?_ | refine aw_block ?_ | refine aw_condT rfl ?_ | refine aw_condF rfl ?_ | ((first | refine aw_region ?_ | refine acallB (nw) (by repeat' (first | exact trivial | exact rfl | refine And.intro ?_ ?_)) (by kernel_rfl) (by kernel_rfl) (by kernel_rfl) ?_ | refine ago_if (by omega) ?_ | skip); simp (config := {maxSteps := 10000000}) (disch := first | exact okYes (by kernel_rfl) | omega) only [thenQ, List.map, dI, List.length, Nat.zero_add, Nat.reduceAdd, Nat.reduceMul, envOf, ARun_none, AOpRun, aexec, D.isBot, FSt.ev, St.F, ↓eget_h, Bool.false_eq_true, Option.isSome, hget_n, or_self, ↓reduceIte, D.cells, AGo_ok, St.app, putO, eput_c, Nat.reduceBEq, eput_n, cond_false, hups, hput_n, eget_c, hget_c, hput_c, ARun_nil, dropE_c, inL_n, dropE_n, beq_self_eq_true, cond_true, Nat.reduceLeDiff, List.drop, List.take, ↓hget_h, dB, c0, List.append_nil, opt1, Option.map, List.getElem?_cons_zero, List.getElem?_cons_succ, inL_c, isSh, abin, bne_self_eq_false, Bool.not_false, blockQ])))
    all_goals (refine end_to [] [] (by first | exact .inl rfl | exact .inr rfl) rfl (by kernel_rfl) (by kernel_rfl) (by kernel_rfl) ?_ ?_ <;> repeat' (first | exact trivial | exact vr_val _ | apply vr_tup | apply And.intro))
  | true =>
  rw [c0] at e0
  have e0' : wndE h wd = 0 := e0
  cases c2 : wI w 1 100000 with
  | false =>
    have e1 : dpE h wd w = 1 := by unfold dpE; rw [if_pos e0', c2]; rfl
    have e2 : dpV h wd w = 0 := if_neg (by rw [e1]; omega)
    rw [e1, e2]
    (have hg : (987654321 : Nat) - 987654321 = 0 := rfl; have hr := hg; repeat' (first | refine aw_seq ?_ | (refine aw_skip ?_; try simp only [thenQ, blockQ, if_true, if_false, Nat.reduceEqDiff, reduceCtorEq]) | (refine aw_exit ?_; try simp only [thenQ, blockQ, if_true, if_false, Nat.reduceEqDiff, reduceCtorEq]) | refine aw_ret ?_ | refine aw_block ?_ | refine aw_condT rfl ?_ | refine aw_condF rfl ?_ | ((first | refine aw_region ?_ | refine acallB (nw) (by repeat' (first | exact trivial | exact rfl | refine And.intro ?_ ?_)) (by kernel_rfl) (by kernel_rfl) (by kernel_rfl) ?_ | refine acall0 (swithin_ac _ _ _) ?_ | refine ago_if (by omega) ?_ | skip); simp (config := {maxSteps := 10000000}) (disch := first | exact okYes (by kernel_rfl) | omega) only [thenQ, List.map, dI, List.length, Nat.zero_add, Nat.reduceAdd, Nat.reduceMul, envOf, ARun_none, AOpRun, aexec, D.isBot, FSt.ev, St.F, ↓eget_h, Bool.false_eq_true, Option.isSome, hget_n, or_self, ↓reduceIte, D.cells, AGo_ok, St.app, putO, eput_c, Nat.reduceBEq, eput_n, cond_false, hups, hput_n, eget_c, hget_c, hput_c, ARun_nil, dropE_c, inL_n, dropE_n, beq_self_eq_true, cond_true, Nat.reduceLeDiff, List.drop, List.take, ↓hget_h, dB, c0, List.append_nil, opt1, Option.map, List.getElem?_cons_zero, List.getElem?_cons_succ, inL_c, isSh, abin, bne_self_eq_false, Bool.not_true, c2, Bool.not_false, blockQ])))
    all_goals (refine end_to [] [] (by first | exact .inl rfl | exact .inr rfl) rfl (by kernel_rfl) (by kernel_rfl) (by kernel_rfl) ?_ ?_ <;> repeat' (first | exact trivial | exact vr_val _ | apply vr_tup | apply And.intro))
  | true =>
  have W := wndE_ok e0'
  have hc1 := W.o.c1
  have hc2 := W.o.c2
  have hw := wI_t c2
  have e1 : dpE h wd w = if dpN h wd w < 0 then 3 else 0 := by unfold dpE; rw [if_pos e0', c2]; rfl
  have e2 : dpV h wd w = if dpN h wd w < 0 then 0 else dpN h wd w := by
    unfold dpV; rw [e1]
    by_cases hn : dpN h wd w < 0
    · rw [if_pos hn, if_pos hn, if_neg (by omega)]
    · rw [if_neg hn, if_neg hn, if_pos rfl]
  rw [e1, e2]
  (have hg : (987654321 : Nat) - 987654321 = 0 := rfl; have hr := hg; repeat' (first | refine aw_seq ?_ | (refine aw_skip ?_; try simp only [thenQ, blockQ, if_true, if_false, Nat.reduceEqDiff, reduceCtorEq]) | (refine aw_exit ?_; try simp only [thenQ, blockQ, if_true, if_false, Nat.reduceEqDiff, reduceCtorEq]) | refine aw_ret ?_ | refine aw_block ?_ | refine aw_condT rfl ?_ | refine aw_condF rfl ?_ | ((first | refine aw_region ?_ | refine acallB (nw) (by repeat' (first | exact trivial | exact rfl | refine And.intro ?_ ?_)) (by kernel_rfl) (by kernel_rfl) (by kernel_rfl) ?_ | refine acall0 (swithin_ac _ _ _) ?_ | refine ago_if (by omega) ?_ | skip); simp (config := {maxSteps := 10000000}) (disch := first | exact okYes (by kernel_rfl) | omega) only [thenQ, List.map, dI, List.length, Nat.zero_add, Nat.reduceAdd, Nat.reduceMul, envOf, ARun_none, AOpRun, aexec, D.isBot, FSt.ev, St.F, ↓eget_h, Bool.false_eq_true, Option.isSome, hget_n, or_self, ↓reduceIte, D.cells, AGo_ok, St.app, putO, eput_c, Nat.reduceBEq, eput_n, cond_false, hups, hput_n, eget_c, hget_c, hput_c, ARun_nil, dropE_c, inL_n, dropE_n, beq_self_eq_true, cond_true, Nat.reduceLeDiff, List.drop, List.take, ↓hget_h, dB, c0, List.append_nil, opt1, Option.map, List.getElem?_cons_zero, List.getElem?_cons_succ, inL_c, isSh, abin, bne_self_eq_false, Bool.not_true, c2, run1])))
  refine aw_loop (fun k : Nat => ⟨[(2, dI w), (8, .ptr 48 0), (11, dI (h.cable - k))], [(48, wiC h wd hng0 false)], 400⟩) (fun k => (k : Int) ≤ h.cable + 1 ∧ ∀ L : Int, h.cable - k < L → L ≤ h.cable → caB h wd (0, L) w = false) (fun k => (h.cable + 1 - k).toNat) ⟨0, ⟨by omega, by omega⟩, ?_⟩ ?_
  · rw [show h.cable - ((0 : Nat) : Int) = h.cable by omega]
    refine wk_to [] [(48, 48)] (by kernel_rfl) (by kernel_rfl) (by kernel_rfl) (by kernel_rfl) (by kernel_rfl) ?_ ?_ <;> repeat' (first | exact trivial | exact vr_val _ | exact vr_list _ | exact vr_ptr _ _ _ rfl | refine And.intro ⟨_, rfl, .inl ⟨_, rfl, by decide, ?_⟩⟩ ?_ | apply And.intro)
  · rintro k ⟨hk, hv⟩
    by_cases hk2 : (k : Int) ≤ h.cable
    · have ck : decide ((0 : Int) ≤ h.cable - k) = true := decide_eq_true (by omega)
      have cs := carries_ac h wd (0, h.cable - k) w hng0 false W.o
      cases hx : caB h wd (0, h.cable - k) w with
      | true =>
        have hall := (W.all (Int.le_refl 0) (by omega : (0 : Int) ≤ h.cable - k) (by omega) hw.1).1 hx
        have e : dpN h wd w = h.cable - k := by
          rcases Nat.eq_zero_or_pos k with rfl | hk0
          · rw [dpN_all (fun j hj => hall j (by omega) (by omega)) hc1]; omega
          · have hno : beB h wd (h.cable - k + 1) w = false := by
              cases hb : beB h wd (h.cable - k + 1) w with
              | false => rfl
              | true =>
                have h3 := hv (h.cable - k + 1) (by omega) (by omega)
                have h4 := (W.all (Int.le_refl 0) (by omega : (0 : Int) ≤ h.cable - k + 1) (by omega) hw.1).2 fun l l1 l2 => by
                  rcases (by omega : l ≤ h.cable - k ∨ l = h.cable - k + 1) with h5 | rfl
                  · exact hall l l1 h5
                  · exact hb
                rw [h3] at h4; exact absurd h4 (by simp)
            have hc : (((h.cable - k + 1).toNat : Nat) : Int) = h.cable - k + 1 := by omega
            rw [← hc] at hno
            have := dpN_at hc1 (by omega) (fun j hj => hall j (by omega) (by omega)) hno
            omega
        rw [e, if_neg (by omega), if_neg (by omega)]
        (have hg : (987654321 : Nat) - 987654321 = 0 := rfl; have hr := hg; repeat' (first | refine aw_seq ?_ | (refine aw_skip ?_; try simp only [thenQ, blockQ, if_true, if_false, Nat.reduceEqDiff, reduceCtorEq]) | (refine aw_exit ?_; try simp only [thenQ, blockQ, if_true, if_false, Nat.reduceEqDiff, reduceCtorEq]) | refine aw_ret ?_ | refine aw_block ?_ | refine aw_condT rfl ?_ | refine aw_condF rfl ?_ | ((first | refine aw_region ?_ | refine acallB (cs) (by repeat' (first | exact trivial | exact rfl | refine And.intro ?_ ?_)) (by kernel_rfl) (by kernel_rfl) (by kernel_rfl) ?_ | refine ago_if (by omega) ?_ | skip); simp (config := {maxSteps := 10000000}) (disch := first | exact okYes (by kernel_rfl) | omega) only [thenQ, dI, List.length, Nat.zero_add, Nat.reduceAdd, Nat.reduceMul, ARun_none, AOpRun, aexec, FSt.ev, St.F, eget_c, Nat.reduceBEq, ↓eget_h, cond_false, AGo_ok, St.app, putO, eput_c, eput_n, hups, List.map, isSh, Bool.false_eq_true, ↓reduceIte, Option.map, abin, ge_iff_le, ck, ARun_nil, dropE_c, inL_c, inL_n, beq_self_eq_true, cond_true, dropE_n, fillD, D.isBot, D.cells, ne_eq, not_true_eq_false, Nat.reduceGT, or_self, splice, List.take, List.cons_append, List.nil_append, List.drop, List.append_nil, dB, hx, hput_c, hput_n, blockQ])))
        all_goals (refine end_to [] [] (by first | exact .inl rfl | exact .inr rfl) rfl (by kernel_rfl) (by kernel_rfl) (by kernel_rfl) ?_ ?_ <;> repeat' (first | exact trivial | exact vr_val _ | apply vr_tup | apply And.intro))
      | false =>
        (have hg : (987654321 : Nat) - 987654321 = 0 := rfl; have hr := hg; repeat' (first | refine aw_seq ?_ | (refine aw_skip ?_; try simp only [thenQ, blockQ, if_true, if_false, Nat.reduceEqDiff, reduceCtorEq]) | (refine aw_exit ?_; try simp only [thenQ, blockQ, if_true, if_false, Nat.reduceEqDiff, reduceCtorEq]) | refine aw_ret ?_ | refine aw_block ?_ | refine aw_condT rfl ?_ | refine aw_condF rfl ?_ | ((first | refine aw_region ?_ | refine acallB (cs) (by repeat' (first | exact trivial | exact rfl | refine And.intro ?_ ?_)) (by kernel_rfl) (by kernel_rfl) (by kernel_rfl) ?_ | refine ago_if (by omega) ?_ | skip); simp (config := {maxSteps := 10000000}) (disch := first | exact okYes (by kernel_rfl) | omega) only [thenQ, dI, List.length, Nat.zero_add, Nat.reduceAdd, Nat.reduceMul, ARun_none, AOpRun, aexec, FSt.ev, St.F, eget_c, Nat.reduceBEq, ↓eget_h, cond_false, AGo_ok, St.app, putO, eput_c, eput_n, hups, List.map, isSh, Bool.false_eq_true, ↓reduceIte, Option.map, abin, ge_iff_le, ck, ARun_nil, dropE_c, inL_c, inL_n, beq_self_eq_true, cond_true, dropE_n, fillD, D.isBot, D.cells, ne_eq, not_true_eq_false, Nat.reduceGT, or_self, splice, List.take, List.cons_append, List.nil_append, List.drop, List.append_nil, dB, hx, hput_c, hput_n, fits])))
        have e5 : h.cable - ((k + 1 : Nat) : Int) = h.cable - k - 1 := by omega
        refine ⟨k + 1, ⟨by omega, fun L l1 l2 => by
          rcases (by omega : h.cable - k < L ∨ L = h.cable - k) with h | rfl
          · exact hv L h l2
          · exact hx⟩, by omega, ?_⟩
        rw [e5]
        refine wk_to [] [(48, 48)] (by kernel_rfl) (by kernel_rfl) (by kernel_rfl) (by kernel_rfl) (by kernel_rfl) ?_ ?_ <;> repeat' (first | exact trivial | exact vr_val _ | exact vr_list _ | exact vr_ptr _ _ _ rfl | refine And.intro ⟨_, rfl, .inl ⟨_, rfl, by decide, ?_⟩⟩ ?_ | apply And.intro)
    · have ck : decide ((0 : Int) ≤ h.cable - k) = false := decide_eq_false (by omega)
      have hno : beB h wd (0 : Nat) w = false := by
        cases hb : beB h wd (0 : Nat) w with
        | false => rfl
        | true =>
          have h3 := hv 0 (by omega) (by omega)
          have h4 := (W.all (Int.le_refl 0) (Int.le_refl 0) (by omega) hw.1).2 fun l l1 l2 => by
            obtain rfl : l = 0 := by omega
            exact hb
          rw [h3] at h4; exact absurd h4 (by simp)
      have e : dpN h wd w = (0 : Nat) - 1 := dpN_at hc1 (by omega) (by omega) hno
      rw [e, if_pos (by omega), if_pos (by omega)]
      (have hg : (987654321 : Nat) - 987654321 = 0 := rfl; have hr := hg; repeat' (first | refine aw_seq ?_ | (refine aw_skip ?_; try simp only [thenQ, blockQ, if_true, if_false, Nat.reduceEqDiff, reduceCtorEq]) | (refine aw_exit ?_; try simp only [thenQ, blockQ, if_true, if_false, Nat.reduceEqDiff, reduceCtorEq]) | refine aw_ret ?_ | refine aw_block ?_ | refine aw_condT rfl ?_ | refine aw_condF rfl ?_ | ((first | refine aw_region ?_ | refine ago_if (by omega) ?_ | skip); simp (config := {maxSteps := 10000000}) (disch := first | exact okYes (by kernel_rfl) | omega) only [thenQ, dI, List.length, Nat.zero_add, Nat.reduceAdd, Nat.reduceMul, ARun_none, AOpRun, aexec, FSt.ev, St.F, eget_c, Nat.reduceBEq, ↓eget_h, cond_false, AGo_ok, St.app, putO, eput_c, eput_n, hups, List.map, isSh, Bool.false_eq_true, ↓reduceIte, Option.map, abin, ge_iff_le, ck, ARun_nil, dropE_c, inL_c, inL_n, beq_self_eq_true, cond_true, dropE_n])))
      all_goals (refine end_to [] [] (by first | exact .inl rfl | exact .inr rfl) rfl (by kernel_rfl) (by kernel_rfl) (by kernel_rfl) ?_ ?_ <;> repeat' (first | exact trivial | exact vr_val _ | apply vr_tup | apply And.intro))
end Go.Proofs.Ythohcimmoobaoaa
