/- Texts of the law TopPages, part 6. No conditions. -/
import Derived.Test.YtgibbaadjbohdaaPTopPages05
import Derived.WalkKit
import Derived.WalkSpells
import Derived.WalkLawsBesides
import Derived.Deep.QuietTactic
import Derived.BigQuiet
import Derived.Lib.Hide
import Derived.Deep.RegionHeld3
import Derived.Laws.EntriesVeiled
import Derived.Test.YtgibbaadjbohdaaRows
/- Comparison of corners: both sides. No conditions. -/
set_option linter.unusedSimpArgs false
set_option linter.unusedVariables false
namespace Go.Proofs.Ytgibbaadjbohdaa
open Go.RowKit Lift

def lex : List Int → List Int → Int
  | [], [] => 0
  | [], _ :: _ => -1
  | _ :: _, [] => 1
  | a :: p, b :: q => if a < b then -1 else if a > b then 1 else lex p q
def cmpI (a b : Int) : Int := if a < b then -1 else if a > b then 1 else 0
theorem lex_at : ∀ (p q : List Int) (k : Nat), k < p.length → k < q.length → (∀ j, j < k → p[j]?.getD 0 = q[j]?.getD 0) → p[k]?.getD 0 ≠ q[k]?.getD 0 → lex p q = cmpI (p[k]?.getD 0) (q[k]?.getD 0)
  | [], _, k, h, _, _, _ => by simp at h
  | _ :: _, [], k, _, h, _, _ => by simp at h
  | a :: p, b :: q, 0, _, _, _, hne => by
    simp only [List.getElem?_cons_zero, Option.getD_some] at hne ⊢
    unfold lex cmpI
    by_cases h1 : a < b
    · rw [if_pos h1, if_pos h1]
    · rw [if_neg h1, if_neg h1, if_pos (by omega), if_pos (by omega)]
  | a :: p, b :: q, k + 1, h1, h2, he, hne => by
    have e0 := he 0 (by omega)
    simp only [List.getElem?_cons_zero, Option.getD_some] at e0
    subst e0
    simp only [List.getElem?_cons_succ] at hne ⊢
    unfold lex
    rw [if_neg (by omega), if_neg (by omega)]
    exact lex_at p q k (by simpa using h1) (by simpa using h2) (fun j hj => by have := he (j + 1) (by omega); simpa using this) hne
theorem lex_eq : ∀ (p q : List Int), p.length = q.length → (∀ j, j < p.length → p[j]?.getD 0 = q[j]?.getD 0) → lex p q = 0
  | [], [], _, _ => rfl
  | [], _ :: _, h, _ => by simp at h
  | _ :: _, [], h, _ => by simp at h
  | a :: p, b :: q, h, he => by
    have e0 := he 0 (by simp)
    simp only [List.getElem?_cons_zero, Option.getD_some] at e0
    subst e0
    unfold lex
    rw [if_neg (by omega), if_neg (by omega)]
    exact lex_eq p q (by simpa using h) (fun j hj => by have := he (j + 1) (by simpa using hj); simpa using this)
set_option maxRecDepth 100000 in
set_option maxHeartbeats 2000000 in
theorem nan_ac (a : Int) : AC Try.prog 117 [dI a] [] [] (dB false) := by
  refine kcmp_isNaN_Lint_J.ac (n0 := 0) (by simp) ⟨.val _, trivial⟩ trivial rfl ?_
  unfold ccmp_isNaN_Lint_J
  refine aw_seq (aw_region ?_)
  simp (config := {maxSteps := 10000000}) (disch := first | exact okYes (by kernel_rfl) | omega) only [ARun_nil, ARun_none, ARun_some, ARun_skip, AOpRun, AGo_f, AGo_ok, AG_tt, AG_ff, AG_tf, AG_ft, AG_un, aexec, run1, asI, elems, base, opt1, fillD, splice, abin, ash, isSh, foldI, mn2, mx2, ↓eget_h, eget_c, eget_n, eput_c, eput_n, putO, ↓hget_h, hget_c, hget_n, hput_c, hput_n, hdel_c, hdel_n, hups, cond_true, cond_false,  ups, St.F, St.app, FSt.ev, dropE_c, dropE_n, inL_c, inL_n, envOf, thenQ, blockQ, D.isBot, D.isAgg, D.cells, D.leaf, scalarEq, eqCells, isB, Option.map, List.map, List.length, List.all, List.append, List.take, List.drop, List.cons_append, List.nil_append, List.append_nil, Option.isSome, List.getElem?_cons_zero, List.getElem?_cons_succ, if_true, if_false, true_and, and_true, Bool.not_true, Bool.not_false, Bool.true_or, Bool.false_or, Bool.or_true, Bool.or_false, Bool.false_eq_true, ↓reduceIte, Nat.reduceAdd, Nat.reduceMul, Nat.reduceEqDiff, Nat.reduceBEq, Nat.reduceSub, Nat.zero_add, Nat.reduceLeDiff, Nat.reduceGT, Nat.reduceLT, Nat.reduceBNe, okLog_f, reduceCtorEq, or_self, or_false, false_or, or_true, true_or, and_self, and_false, false_and, not_true_eq_false, not_false_eq_true, ne_eq, Bool.and_true, Bool.true_and, Bool.and_false, Bool.false_and, decide_eq_true_eq, decide_true, decide_false, Int.reduceBEq, Int.reduceBNe, Int.reduceLT, Int.reduceLE, Int.reduceAdd, Int.reduceSub, Int.reduceMul, Int.reduceNeg, Int.reduceEq, Int.toNat_zero, Int.reduceToNat, Int.zero_lt_one, Nat.zero_le, Int.le_refl, beq_self_eq_true, bne_self_eq_false, cast_lit, fits, wrap_in, Int.toNat_natCast, Int.natCast_nonneg, dI]
  refine aw_seq (aw_region ?_)
  simp (config := {maxSteps := 10000000}) (disch := first | exact okYes (by kernel_rfl) | omega) only [ARun_nil, ARun_none, ARun_some, ARun_skip, AOpRun, AGo_f, AGo_ok, AG_tt, AG_ff, AG_tf, AG_ft, AG_un, aexec, run1, asI, elems, base, opt1, fillD, splice, abin, ash, isSh, foldI, mn2, mx2, ↓eget_h, eget_c, eget_n, eput_c, eput_n, putO, ↓hget_h, hget_c, hget_n, hput_c, hput_n, hdel_c, hdel_n, hups, cond_true, cond_false,  ups, St.F, St.app, FSt.ev, dropE_c, dropE_n, inL_c, inL_n, envOf, thenQ, blockQ, D.isBot, D.isAgg, D.cells, D.leaf, scalarEq, eqCells, isB, Option.map, List.map, List.length, List.all, List.append, List.take, List.drop, List.cons_append, List.nil_append, List.append_nil, Option.isSome, List.getElem?_cons_zero, List.getElem?_cons_succ, if_true, if_false, true_and, and_true, Bool.not_true, Bool.not_false, Bool.true_or, Bool.false_or, Bool.or_true, Bool.or_false, Bool.false_eq_true, ↓reduceIte, Nat.reduceAdd, Nat.reduceMul, Nat.reduceEqDiff, Nat.reduceBEq, Nat.reduceSub, Nat.zero_add, Nat.reduceLeDiff, Nat.reduceGT, Nat.reduceLT, Nat.reduceBNe, okLog_f, reduceCtorEq, or_self, or_false, false_or, or_true, true_or, and_self, and_false, false_and, not_true_eq_false, not_false_eq_true, ne_eq, Bool.and_true, Bool.true_and, Bool.and_false, Bool.false_and, decide_eq_true_eq, decide_true, decide_false, Int.reduceBEq, Int.reduceBNe, Int.reduceLT, Int.reduceLE, Int.reduceAdd, Int.reduceSub, Int.reduceMul, Int.reduceNeg, Int.reduceEq, Int.toNat_zero, Int.reduceToNat, Int.zero_lt_one, Nat.zero_le, Int.le_refl, beq_self_eq_true, bne_self_eq_false, cast_lit, fits, wrap_in, Int.toNat_natCast, Int.natCast_nonneg]
  refine aw_ret ?_
  refine end_to [] [] (by first | exact .inl rfl | exact .inr rfl) rfl (by kernel_rfl) (by kernel_rfl) (by kernel_rfl) ?_ ?_ <;> repeat' (first | exact trivial | exact vr_val _ | exact vr_list _ | exact vr_at _ | exact vr_nil | exact vr_cap0 | exact vr_vec _ _ _ _ rfl | exact vr_own _ _ _ _ _ rfl | exact vr_ptr _ _ _ rfl | exact vr_nilv _ _ _ rfl | exact vr_bot _ | exact vr_cap0v _ _ _ rfl | exact vr_cap0l | apply vr_agg | apply vr_tup | apply vr_fn | refine vr_yld _ _ _ rfl ?_ | exact Ren.bot _ | exact Ren.val _ | exact Ren.list _ | exact Ren.at_ _ | exact Ren.ptr _ _ _ rfl | refine Ren.yld _ _ _ _ _ rfl rfl (RenL.get ?_).2 (fun _ _ _ h => h) | refine vr_fl _ _ _ _ _ (by decide) rfl ?_ ?_ ?_ ?_ | refine And.intro ⟨_, rfl, .inl ⟨_, rfl, by decide, ?_⟩⟩ ?_ | refine And.intro ⟨_, rfl, _, rfl, by decide, ?_⟩ ?_ | refine And.intro ⟨_, rfl, .inr ⟨rfl, rfl, of_decide_eq_true (by kernel_rfl)⟩⟩ ?_ | apply And.intro | exact vrl_flat _ (by first | exact icells_in _ | exact rcells_in _ | exact scells_in _ | exact bcells_in _ | assumption) | fail)
set_option maxRecDepth 100000 in
set_option maxHeartbeats 2000000 in
theorem cmp_ac (a b : Int) : AC Try.prog 79 [dI a, dI b] [] [] (dI (cmpI a b)) := by
  refine kcmp_Compare_Lint_J.ac (n0 := 0) (by simp) ⟨.val _, .val _, trivial⟩ trivial rfl ?_
  unfold ccmp_Compare_Lint_J
  refine aw_seq (aw_region ?_)
  simp (config := {maxSteps := 10000000}) (disch := first | exact okYes (by kernel_rfl) | omega) only [ARun_nil, ARun_none, ARun_some, ARun_skip, AOpRun, AGo_f, AGo_ok, AG_tt, AG_ff, AG_tf, AG_ft, AG_un, aexec, run1, asI, elems, base, opt1, fillD, splice, abin, ash, isSh, foldI, mn2, mx2, ↓eget_h, eget_c, eget_n, eput_c, eput_n, putO, ↓hget_h, hget_c, hget_n, hput_c, hput_n, hdel_c, hdel_n, hups, cond_true, cond_false,  ups, St.F, St.app, FSt.ev, dropE_c, dropE_n, inL_c, inL_n, envOf, thenQ, blockQ, D.isBot, D.isAgg, D.cells, D.leaf, scalarEq, eqCells, isB, Option.map, List.map, List.length, List.all, List.append, List.take, List.drop, List.cons_append, List.nil_append, List.append_nil, Option.isSome, List.getElem?_cons_zero, List.getElem?_cons_succ, if_true, if_false, true_and, and_true, Bool.not_true, Bool.not_false, Bool.true_or, Bool.false_or, Bool.or_true, Bool.or_false, Bool.false_eq_true, ↓reduceIte, Nat.reduceAdd, Nat.reduceMul, Nat.reduceEqDiff, Nat.reduceBEq, Nat.reduceSub, Nat.zero_add, Nat.reduceLeDiff, Nat.reduceGT, Nat.reduceLT, Nat.reduceBNe, okLog_f, reduceCtorEq, or_self, or_false, false_or, or_true, true_or, and_self, and_false, false_and, not_true_eq_false, not_false_eq_true, ne_eq, Bool.and_true, Bool.true_and, Bool.and_false, Bool.false_and, decide_eq_true_eq, decide_true, decide_false, Int.reduceBEq, Int.reduceBNe, Int.reduceLT, Int.reduceLE, Int.reduceAdd, Int.reduceSub, Int.reduceMul, Int.reduceNeg, Int.reduceEq, Int.toNat_zero, Int.reduceToNat, Int.zero_lt_one, Nat.zero_le, Int.le_refl, beq_self_eq_true, bne_self_eq_false, cast_lit, fits, wrap_in, Int.toNat_natCast, Int.natCast_nonneg, dI]
  refine aw_seq (aw_region ?_)
  simp (config := {maxSteps := 10000000}) (disch := first | exact okYes (by kernel_rfl) | omega) only [ARun_nil, ARun_none, ARun_some, ARun_skip, AOpRun, AGo_f, AGo_ok, AG_tt, AG_ff, AG_tf, AG_ft, AG_un, aexec, run1, asI, elems, base, opt1, fillD, splice, abin, ash, isSh, foldI, mn2, mx2, ↓eget_h, eget_c, eget_n, eput_c, eput_n, putO, ↓hget_h, hget_c, hget_n, hput_c, hput_n, hdel_c, hdel_n, hups, cond_true, cond_false,  ups, St.F, St.app, FSt.ev, dropE_c, dropE_n, inL_c, inL_n, envOf, thenQ, blockQ, D.isBot, D.isAgg, D.cells, D.leaf, scalarEq, eqCells, isB, Option.map, List.map, List.length, List.all, List.append, List.take, List.drop, List.cons_append, List.nil_append, List.append_nil, Option.isSome, List.getElem?_cons_zero, List.getElem?_cons_succ, if_true, if_false, true_and, and_true, Bool.not_true, Bool.not_false, Bool.true_or, Bool.false_or, Bool.or_true, Bool.or_false, Bool.false_eq_true, ↓reduceIte, Nat.reduceAdd, Nat.reduceMul, Nat.reduceEqDiff, Nat.reduceBEq, Nat.reduceSub, Nat.zero_add, Nat.reduceLeDiff, Nat.reduceGT, Nat.reduceLT, Nat.reduceBNe, okLog_f, reduceCtorEq, or_self, or_false, false_or, or_true, true_or, and_self, and_false, false_and, not_true_eq_false, not_false_eq_true, ne_eq, Bool.and_true, Bool.true_and, Bool.and_false, Bool.false_and, decide_eq_true_eq, decide_true, decide_false, Int.reduceBEq, Int.reduceBNe, Int.reduceLT, Int.reduceLE, Int.reduceAdd, Int.reduceSub, Int.reduceMul, Int.reduceNeg, Int.reduceEq, Int.toNat_zero, Int.reduceToNat, Int.zero_lt_one, Nat.zero_le, Int.le_refl, beq_self_eq_true, bne_self_eq_false, cast_lit, fits, wrap_in, Int.toNat_natCast, Int.natCast_nonneg]
  refine acall0 (nan_ac a) ?_
  simp (config := {maxSteps := 10000000}) (disch := first | exact okYes (by kernel_rfl) | omega) only [ARun_nil, ARun_none, ARun_some, ARun_skip, AOpRun, AGo_f, AGo_ok, AG_tt, AG_ff, AG_tf, AG_ft, AG_un, aexec, run1, asI, elems, base, opt1, fillD, splice, abin, ash, isSh, foldI, mn2, mx2, ↓eget_h, eget_c, eget_n, eput_c, eput_n, putO, ↓hget_h, hget_c, hget_n, hput_c, hput_n, hdel_c, hdel_n, hups, cond_true, cond_false,  ups, St.F, St.app, FSt.ev, dropE_c, dropE_n, inL_c, inL_n, envOf, thenQ, blockQ, D.isBot, D.isAgg, D.cells, D.leaf, scalarEq, eqCells, isB, Option.map, List.map, List.length, List.all, List.append, List.take, List.drop, List.cons_append, List.nil_append, List.append_nil, Option.isSome, List.getElem?_cons_zero, List.getElem?_cons_succ, if_true, if_false, true_and, and_true, Bool.not_true, Bool.not_false, Bool.true_or, Bool.false_or, Bool.or_true, Bool.or_false, Bool.false_eq_true, ↓reduceIte, Nat.reduceAdd, Nat.reduceMul, Nat.reduceEqDiff, Nat.reduceBEq, Nat.reduceSub, Nat.zero_add, Nat.reduceLeDiff, Nat.reduceGT, Nat.reduceLT, Nat.reduceBNe, okLog_f, reduceCtorEq, or_self, or_false, false_or, or_true, true_or, and_self, and_false, false_and, not_true_eq_false, not_false_eq_true, ne_eq, Bool.and_true, Bool.true_and, Bool.and_false, Bool.false_and, decide_eq_true_eq, decide_true, decide_false, Int.reduceBEq, Int.reduceBNe, Int.reduceLT, Int.reduceLE, Int.reduceAdd, Int.reduceSub, Int.reduceMul, Int.reduceNeg, Int.reduceEq, Int.toNat_zero, Int.reduceToNat, Int.zero_lt_one, Nat.zero_le, Int.le_refl, beq_self_eq_true, bne_self_eq_false, cast_lit, fits, wrap_in, Int.toNat_natCast, Int.natCast_nonneg, dB]
  refine aw_seq (aw_region ?_)
  simp (config := {maxSteps := 10000000}) (disch := first | exact okYes (by kernel_rfl) | omega) only [ARun_nil, ARun_none, ARun_some, ARun_skip, AOpRun, AGo_f, AGo_ok, AG_tt, AG_ff, AG_tf, AG_ft, AG_un, aexec, run1, asI, elems, base, opt1, fillD, splice, abin, ash, isSh, foldI, mn2, mx2, ↓eget_h, eget_c, eget_n, eput_c, eput_n, putO, ↓hget_h, hget_c, hget_n, hput_c, hput_n, hdel_c, hdel_n, hups, cond_true, cond_false,  ups, St.F, St.app, FSt.ev, dropE_c, dropE_n, inL_c, inL_n, envOf, thenQ, blockQ, D.isBot, D.isAgg, D.cells, D.leaf, scalarEq, eqCells, isB, Option.map, List.map, List.length, List.all, List.append, List.take, List.drop, List.cons_append, List.nil_append, List.append_nil, Option.isSome, List.getElem?_cons_zero, List.getElem?_cons_succ, if_true, if_false, true_and, and_true, Bool.not_true, Bool.not_false, Bool.true_or, Bool.false_or, Bool.or_true, Bool.or_false, Bool.false_eq_true, ↓reduceIte, Nat.reduceAdd, Nat.reduceMul, Nat.reduceEqDiff, Nat.reduceBEq, Nat.reduceSub, Nat.zero_add, Nat.reduceLeDiff, Nat.reduceGT, Nat.reduceLT, Nat.reduceBNe, okLog_f, reduceCtorEq, or_self, or_false, false_or, or_true, true_or, and_self, and_false, false_and, not_true_eq_false, not_false_eq_true, ne_eq, Bool.and_true, Bool.true_and, Bool.and_false, Bool.false_and, decide_eq_true_eq, decide_true, decide_false, Int.reduceBEq, Int.reduceBNe, Int.reduceLT, Int.reduceLE, Int.reduceAdd, Int.reduceSub, Int.reduceMul, Int.reduceNeg, Int.reduceEq, Int.toNat_zero, Int.reduceToNat, Int.zero_lt_one, Nat.zero_le, Int.le_refl, beq_self_eq_true, bne_self_eq_false, cast_lit, fits, wrap_in, Int.toNat_natCast, Int.natCast_nonneg]
  refine acall0 (nan_ac b) ?_
  simp (config := {maxSteps := 10000000}) (disch := first | exact okYes (by kernel_rfl) | omega) only [ARun_nil, ARun_none, ARun_some, ARun_skip, AOpRun, AGo_f, AGo_ok, AG_tt, AG_ff, AG_tf, AG_ft, AG_un, aexec, run1, asI, elems, base, opt1, fillD, splice, abin, ash, isSh, foldI, mn2, mx2, ↓eget_h, eget_c, eget_n, eput_c, eput_n, putO, ↓hget_h, hget_c, hget_n, hput_c, hput_n, hdel_c, hdel_n, hups, cond_true, cond_false,  ups, St.F, St.app, FSt.ev, dropE_c, dropE_n, inL_c, inL_n, envOf, thenQ, blockQ, D.isBot, D.isAgg, D.cells, D.leaf, scalarEq, eqCells, isB, Option.map, List.map, List.length, List.all, List.append, List.take, List.drop, List.cons_append, List.nil_append, List.append_nil, Option.isSome, List.getElem?_cons_zero, List.getElem?_cons_succ, if_true, if_false, true_and, and_true, Bool.not_true, Bool.not_false, Bool.true_or, Bool.false_or, Bool.or_true, Bool.or_false, Bool.false_eq_true, ↓reduceIte, Nat.reduceAdd, Nat.reduceMul, Nat.reduceEqDiff, Nat.reduceBEq, Nat.reduceSub, Nat.zero_add, Nat.reduceLeDiff, Nat.reduceGT, Nat.reduceLT, Nat.reduceBNe, okLog_f, reduceCtorEq, or_self, or_false, false_or, or_true, true_or, and_self, and_false, false_and, not_true_eq_false, not_false_eq_true, ne_eq, Bool.and_true, Bool.true_and, Bool.and_false, Bool.false_and, decide_eq_true_eq, decide_true, decide_false, Int.reduceBEq, Int.reduceBNe, Int.reduceLT, Int.reduceLE, Int.reduceAdd, Int.reduceSub, Int.reduceMul, Int.reduceNeg, Int.reduceEq, Int.toNat_zero, Int.reduceToNat, Int.zero_lt_one, Nat.zero_le, Int.le_refl, beq_self_eq_true, bne_self_eq_false, cast_lit, fits, wrap_in, Int.toNat_natCast, Int.natCast_nonneg, dB]
  refine aw_seq (aw_seq (aw_region ?_))
  simp (config := {maxSteps := 10000000}) (disch := first | exact okYes (by kernel_rfl) | omega) only [ARun_nil, ARun_none, ARun_some, ARun_skip, AOpRun, AGo_f, AGo_ok, AG_tt, AG_ff, AG_tf, AG_ft, AG_un, aexec, run1, asI, elems, base, opt1, fillD, splice, abin, ash, isSh, foldI, mn2, mx2, ↓eget_h, eget_c, eget_n, eput_c, eput_n, putO, ↓hget_h, hget_c, hget_n, hput_c, hput_n, hdel_c, hdel_n, hups, cond_true, cond_false,  ups, St.F, St.app, FSt.ev, dropE_c, dropE_n, inL_c, inL_n, envOf, thenQ, blockQ, D.isBot, D.isAgg, D.cells, D.leaf, scalarEq, eqCells, isB, Option.map, List.map, List.length, List.all, List.append, List.take, List.drop, List.cons_append, List.nil_append, List.append_nil, Option.isSome, List.getElem?_cons_zero, List.getElem?_cons_succ, if_true, if_false, true_and, and_true, Bool.not_true, Bool.not_false, Bool.true_or, Bool.false_or, Bool.or_true, Bool.or_false, Bool.false_eq_true, ↓reduceIte, Nat.reduceAdd, Nat.reduceMul, Nat.reduceEqDiff, Nat.reduceBEq, Nat.reduceSub, Nat.zero_add, Nat.reduceLeDiff, Nat.reduceGT, Nat.reduceLT, Nat.reduceBNe, okLog_f, reduceCtorEq, or_self, or_false, false_or, or_true, true_or, and_self, and_false, false_and, not_true_eq_false, not_false_eq_true, ne_eq, Bool.and_true, Bool.true_and, Bool.and_false, Bool.false_and, decide_eq_true_eq, decide_true, decide_false, Int.reduceBEq, Int.reduceBNe, Int.reduceLT, Int.reduceLE, Int.reduceAdd, Int.reduceSub, Int.reduceMul, Int.reduceNeg, Int.reduceEq, Int.toNat_zero, Int.reduceToNat, Int.zero_lt_one, Nat.zero_le, Int.le_refl, beq_self_eq_true, bne_self_eq_false, cast_lit, fits, wrap_in, Int.toNat_natCast, Int.natCast_nonneg]
  refine aw_cond rfl (fun hc => nomatch hc) (fun _ => ?_)
  refine aw_skip (aw_seq (aw_seq (aw_region ?_)))
  simp (config := {maxSteps := 10000000}) (disch := first | exact okYes (by kernel_rfl) | omega) only [ARun_nil, ARun_none, ARun_some, ARun_skip, AOpRun, AGo_f, AGo_ok, AG_tt, AG_ff, AG_tf, AG_ft, AG_un, aexec, run1, asI, elems, base, opt1, fillD, splice, abin, ash, isSh, foldI, mn2, mx2, ↓eget_h, eget_c, eget_n, eput_c, eput_n, putO, ↓hget_h, hget_c, hget_n, hput_c, hput_n, hdel_c, hdel_n, hups, cond_true, cond_false,  ups, St.F, St.app, FSt.ev, dropE_c, dropE_n, inL_c, inL_n, envOf, thenQ, blockQ, D.isBot, D.isAgg, D.cells, D.leaf, scalarEq, eqCells, isB, Option.map, List.map, List.length, List.all, List.append, List.take, List.drop, List.cons_append, List.nil_append, List.append_nil, Option.isSome, List.getElem?_cons_zero, List.getElem?_cons_succ, if_true, if_false, true_and, and_true, Bool.not_true, Bool.not_false, Bool.true_or, Bool.false_or, Bool.or_true, Bool.or_false, Bool.false_eq_true, ↓reduceIte, Nat.reduceAdd, Nat.reduceMul, Nat.reduceEqDiff, Nat.reduceBEq, Nat.reduceSub, Nat.zero_add, Nat.reduceLeDiff, Nat.reduceGT, Nat.reduceLT, Nat.reduceBNe, okLog_f, reduceCtorEq, or_self, or_false, false_or, or_true, true_or, and_self, and_false, false_and, not_true_eq_false, not_false_eq_true, ne_eq, Bool.and_true, Bool.true_and, Bool.and_false, Bool.false_and, decide_eq_true_eq, decide_true, decide_false, Int.reduceBEq, Int.reduceBNe, Int.reduceLT, Int.reduceLE, Int.reduceAdd, Int.reduceSub, Int.reduceMul, Int.reduceNeg, Int.reduceEq, Int.toNat_zero, Int.reduceToNat, Int.zero_lt_one, Nat.zero_le, Int.le_refl, beq_self_eq_true, bne_self_eq_false, cast_lit, fits, wrap_in, Int.toNat_natCast, Int.natCast_nonneg]
  refine aw_cond rfl (fun hc => nomatch hc) (fun _ => ?_)
  refine aw_skip (aw_seq (aw_seq (aw_region ?_)))
  simp (config := {maxSteps := 10000000}) (disch := first | exact okYes (by kernel_rfl) | omega) only [ARun_nil, ARun_none, ARun_some, ARun_skip, AOpRun, AGo_f, AGo_ok, AG_tt, AG_ff, AG_tf, AG_ft, AG_un, aexec, run1, asI, elems, base, opt1, fillD, splice, abin, ash, isSh, foldI, mn2, mx2, ↓eget_h, eget_c, eget_n, eput_c, eput_n, putO, ↓hget_h, hget_c, hget_n, hput_c, hput_n, hdel_c, hdel_n, hups, cond_true, cond_false,  ups, St.F, St.app, FSt.ev, dropE_c, dropE_n, inL_c, inL_n, envOf, thenQ, blockQ, D.isBot, D.isAgg, D.cells, D.leaf, scalarEq, eqCells, isB, Option.map, List.map, List.length, List.all, List.append, List.take, List.drop, List.cons_append, List.nil_append, List.append_nil, Option.isSome, List.getElem?_cons_zero, List.getElem?_cons_succ, if_true, if_false, true_and, and_true, Bool.not_true, Bool.not_false, Bool.true_or, Bool.false_or, Bool.or_true, Bool.or_false, Bool.false_eq_true, ↓reduceIte, Nat.reduceAdd, Nat.reduceMul, Nat.reduceEqDiff, Nat.reduceBEq, Nat.reduceSub, Nat.zero_add, Nat.reduceLeDiff, Nat.reduceGT, Nat.reduceLT, Nat.reduceBNe, okLog_f, reduceCtorEq, or_self, or_false, false_or, or_true, true_or, and_self, and_false, false_and, not_true_eq_false, not_false_eq_true, ne_eq, Bool.and_true, Bool.true_and, Bool.and_false, Bool.false_and, decide_eq_true_eq, decide_true, decide_false, Int.reduceBEq, Int.reduceBNe, Int.reduceLT, Int.reduceLE, Int.reduceAdd, Int.reduceSub, Int.reduceMul, Int.reduceNeg, Int.reduceEq, Int.toNat_zero, Int.reduceToNat, Int.zero_lt_one, Nat.zero_le, Int.le_refl, beq_self_eq_true, bne_self_eq_false, cast_lit, fits, wrap_in, Int.toNat_natCast, Int.natCast_nonneg]
  refine aw_cond rfl (fun hc => ?_) (fun hc => ?_)
  · have h1 : a < b := of_decide_eq_true hc
    refine aw_seq (aw_region ?_)
    simp (config := {maxSteps := 10000000}) (disch := first | exact okYes (by kernel_rfl) | omega) only [ARun_nil, ARun_none, ARun_some, ARun_skip, AOpRun, AGo_f, AGo_ok, AG_tt, AG_ff, AG_tf, AG_ft, AG_un, aexec, run1, asI, elems, base, opt1, fillD, splice, abin, ash, isSh, foldI, mn2, mx2, ↓eget_h, eget_c, eget_n, eput_c, eput_n, putO, ↓hget_h, hget_c, hget_n, hput_c, hput_n, hdel_c, hdel_n, hups, cond_true, cond_false,  ups, St.F, St.app, FSt.ev, dropE_c, dropE_n, inL_c, inL_n, envOf, thenQ, blockQ, D.isBot, D.isAgg, D.cells, D.leaf, scalarEq, eqCells, isB, Option.map, List.map, List.length, List.all, List.append, List.take, List.drop, List.cons_append, List.nil_append, List.append_nil, Option.isSome, List.getElem?_cons_zero, List.getElem?_cons_succ, if_true, if_false, true_and, and_true, Bool.not_true, Bool.not_false, Bool.true_or, Bool.false_or, Bool.or_true, Bool.or_false, Bool.false_eq_true, ↓reduceIte, Nat.reduceAdd, Nat.reduceMul, Nat.reduceEqDiff, Nat.reduceBEq, Nat.reduceSub, Nat.zero_add, Nat.reduceLeDiff, Nat.reduceGT, Nat.reduceLT, Nat.reduceBNe, okLog_f, reduceCtorEq, or_self, or_false, false_or, or_true, true_or, and_self, and_false, false_and, not_true_eq_false, not_false_eq_true, ne_eq, Bool.and_true, Bool.true_and, Bool.and_false, Bool.false_and, decide_eq_true_eq, decide_true, decide_false, Int.reduceBEq, Int.reduceBNe, Int.reduceLT, Int.reduceLE, Int.reduceAdd, Int.reduceSub, Int.reduceMul, Int.reduceNeg, Int.reduceEq, Int.toNat_zero, Int.reduceToNat, Int.zero_lt_one, Nat.zero_le, Int.le_refl, beq_self_eq_true, bne_self_eq_false, cast_lit, fits, wrap_in, Int.toNat_natCast, Int.natCast_nonneg]
    refine aw_ret ?_
    unfold cmpI
    rw [if_pos h1]
    refine end_to [] [] (by first | exact .inl rfl | exact .inr rfl) rfl (by kernel_rfl) (by kernel_rfl) (by kernel_rfl) ?_ ?_ <;> repeat' (first | exact trivial | exact vr_val _ | exact vr_list _ | exact vr_at _ | exact vr_nil | exact vr_cap0 | exact vr_vec _ _ _ _ rfl | exact vr_own _ _ _ _ _ rfl | exact vr_ptr _ _ _ rfl | exact vr_nilv _ _ _ rfl | exact vr_bot _ | exact vr_cap0v _ _ _ rfl | exact vr_cap0l | apply vr_agg | apply vr_tup | apply vr_fn | refine vr_yld _ _ _ rfl ?_ | exact Ren.bot _ | exact Ren.val _ | exact Ren.list _ | exact Ren.at_ _ | exact Ren.ptr _ _ _ rfl | refine Ren.yld _ _ _ _ _ rfl rfl (RenL.get ?_).2 (fun _ _ _ h => h) | refine vr_fl _ _ _ _ _ (by decide) rfl ?_ ?_ ?_ ?_ | refine And.intro ⟨_, rfl, .inl ⟨_, rfl, by decide, ?_⟩⟩ ?_ | refine And.intro ⟨_, rfl, _, rfl, by decide, ?_⟩ ?_ | refine And.intro ⟨_, rfl, .inr ⟨rfl, rfl, of_decide_eq_true (by kernel_rfl)⟩⟩ ?_ | apply And.intro | exact vrl_flat _ (by first | exact icells_in _ | exact rcells_in _ | exact scells_in _ | exact bcells_in _ | assumption) | fail)
  have h1 : ¬ a < b := of_decide_eq_false hc
  refine aw_skip (aw_seq (aw_seq (aw_region ?_)))
  simp (config := {maxSteps := 10000000}) (disch := first | exact okYes (by kernel_rfl) | omega) only [ARun_nil, ARun_none, ARun_some, ARun_skip, AOpRun, AGo_f, AGo_ok, AG_tt, AG_ff, AG_tf, AG_ft, AG_un, aexec, run1, asI, elems, base, opt1, fillD, splice, abin, ash, isSh, foldI, mn2, mx2, ↓eget_h, eget_c, eget_n, eput_c, eput_n, putO, ↓hget_h, hget_c, hget_n, hput_c, hput_n, hdel_c, hdel_n, hups, cond_true, cond_false,  ups, St.F, St.app, FSt.ev, dropE_c, dropE_n, inL_c, inL_n, envOf, thenQ, blockQ, D.isBot, D.isAgg, D.cells, D.leaf, scalarEq, eqCells, isB, Option.map, List.map, List.length, List.all, List.append, List.take, List.drop, List.cons_append, List.nil_append, List.append_nil, Option.isSome, List.getElem?_cons_zero, List.getElem?_cons_succ, if_true, if_false, true_and, and_true, Bool.not_true, Bool.not_false, Bool.true_or, Bool.false_or, Bool.or_true, Bool.or_false, Bool.false_eq_true, ↓reduceIte, Nat.reduceAdd, Nat.reduceMul, Nat.reduceEqDiff, Nat.reduceBEq, Nat.reduceSub, Nat.zero_add, Nat.reduceLeDiff, Nat.reduceGT, Nat.reduceLT, Nat.reduceBNe, okLog_f, reduceCtorEq, or_self, or_false, false_or, or_true, true_or, and_self, and_false, false_and, not_true_eq_false, not_false_eq_true, ne_eq, Bool.and_true, Bool.true_and, Bool.and_false, Bool.false_and, decide_eq_true_eq, decide_true, decide_false, Int.reduceBEq, Int.reduceBNe, Int.reduceLT, Int.reduceLE, Int.reduceAdd, Int.reduceSub, Int.reduceMul, Int.reduceNeg, Int.reduceEq, Int.toNat_zero, Int.reduceToNat, Int.zero_lt_one, Nat.zero_le, Int.le_refl, beq_self_eq_true, bne_self_eq_false, cast_lit, fits, wrap_in, Int.toNat_natCast, Int.natCast_nonneg]
  refine aw_cond rfl (fun hc => ?_) (fun hc => ?_)
  · have h2 : b < a := of_decide_eq_true hc
    refine aw_seq (aw_region ?_)
    simp (config := {maxSteps := 10000000}) (disch := first | exact okYes (by kernel_rfl) | omega) only [ARun_nil, ARun_none, ARun_some, ARun_skip, AOpRun, AGo_f, AGo_ok, AG_tt, AG_ff, AG_tf, AG_ft, AG_un, aexec, run1, asI, elems, base, opt1, fillD, splice, abin, ash, isSh, foldI, mn2, mx2, ↓eget_h, eget_c, eget_n, eput_c, eput_n, putO, ↓hget_h, hget_c, hget_n, hput_c, hput_n, hdel_c, hdel_n, hups, cond_true, cond_false,  ups, St.F, St.app, FSt.ev, dropE_c, dropE_n, inL_c, inL_n, envOf, thenQ, blockQ, D.isBot, D.isAgg, D.cells, D.leaf, scalarEq, eqCells, isB, Option.map, List.map, List.length, List.all, List.append, List.take, List.drop, List.cons_append, List.nil_append, List.append_nil, Option.isSome, List.getElem?_cons_zero, List.getElem?_cons_succ, if_true, if_false, true_and, and_true, Bool.not_true, Bool.not_false, Bool.true_or, Bool.false_or, Bool.or_true, Bool.or_false, Bool.false_eq_true, ↓reduceIte, Nat.reduceAdd, Nat.reduceMul, Nat.reduceEqDiff, Nat.reduceBEq, Nat.reduceSub, Nat.zero_add, Nat.reduceLeDiff, Nat.reduceGT, Nat.reduceLT, Nat.reduceBNe, okLog_f, reduceCtorEq, or_self, or_false, false_or, or_true, true_or, and_self, and_false, false_and, not_true_eq_false, not_false_eq_true, ne_eq, Bool.and_true, Bool.true_and, Bool.and_false, Bool.false_and, decide_eq_true_eq, decide_true, decide_false, Int.reduceBEq, Int.reduceBNe, Int.reduceLT, Int.reduceLE, Int.reduceAdd, Int.reduceSub, Int.reduceMul, Int.reduceNeg, Int.reduceEq, Int.toNat_zero, Int.reduceToNat, Int.zero_lt_one, Nat.zero_le, Int.le_refl, beq_self_eq_true, bne_self_eq_false, cast_lit, fits, wrap_in, Int.toNat_natCast, Int.natCast_nonneg]
    refine aw_ret ?_
    unfold cmpI
    rw [if_neg h1, if_pos h2]
    refine end_to [] [] (by first | exact .inl rfl | exact .inr rfl) rfl (by kernel_rfl) (by kernel_rfl) (by kernel_rfl) ?_ ?_ <;> repeat' (first | exact trivial | exact vr_val _ | exact vr_list _ | exact vr_at _ | exact vr_nil | exact vr_cap0 | exact vr_vec _ _ _ _ rfl | exact vr_own _ _ _ _ _ rfl | exact vr_ptr _ _ _ rfl | exact vr_nilv _ _ _ rfl | exact vr_bot _ | exact vr_cap0v _ _ _ rfl | exact vr_cap0l | apply vr_agg | apply vr_tup | apply vr_fn | refine vr_yld _ _ _ rfl ?_ | exact Ren.bot _ | exact Ren.val _ | exact Ren.list _ | exact Ren.at_ _ | exact Ren.ptr _ _ _ rfl | refine Ren.yld _ _ _ _ _ rfl rfl (RenL.get ?_).2 (fun _ _ _ h => h) | refine vr_fl _ _ _ _ _ (by decide) rfl ?_ ?_ ?_ ?_ | refine And.intro ⟨_, rfl, .inl ⟨_, rfl, by decide, ?_⟩⟩ ?_ | refine And.intro ⟨_, rfl, _, rfl, by decide, ?_⟩ ?_ | refine And.intro ⟨_, rfl, .inr ⟨rfl, rfl, of_decide_eq_true (by kernel_rfl)⟩⟩ ?_ | apply And.intro | exact vrl_flat _ (by first | exact icells_in _ | exact rcells_in _ | exact scells_in _ | exact bcells_in _ | assumption) | fail)
  have h2 : ¬ b < a := of_decide_eq_false hc
  refine aw_skip (aw_seq (aw_region ?_))
  simp (config := {maxSteps := 10000000}) (disch := first | exact okYes (by kernel_rfl) | omega) only [ARun_nil, ARun_none, ARun_some, ARun_skip, AOpRun, AGo_f, AGo_ok, AG_tt, AG_ff, AG_tf, AG_ft, AG_un, aexec, run1, asI, elems, base, opt1, fillD, splice, abin, ash, isSh, foldI, mn2, mx2, ↓eget_h, eget_c, eget_n, eput_c, eput_n, putO, ↓hget_h, hget_c, hget_n, hput_c, hput_n, hdel_c, hdel_n, hups, cond_true, cond_false,  ups, St.F, St.app, FSt.ev, dropE_c, dropE_n, inL_c, inL_n, envOf, thenQ, blockQ, D.isBot, D.isAgg, D.cells, D.leaf, scalarEq, eqCells, isB, Option.map, List.map, List.length, List.all, List.append, List.take, List.drop, List.cons_append, List.nil_append, List.append_nil, Option.isSome, List.getElem?_cons_zero, List.getElem?_cons_succ, if_true, if_false, true_and, and_true, Bool.not_true, Bool.not_false, Bool.true_or, Bool.false_or, Bool.or_true, Bool.or_false, Bool.false_eq_true, ↓reduceIte, Nat.reduceAdd, Nat.reduceMul, Nat.reduceEqDiff, Nat.reduceBEq, Nat.reduceSub, Nat.zero_add, Nat.reduceLeDiff, Nat.reduceGT, Nat.reduceLT, Nat.reduceBNe, okLog_f, reduceCtorEq, or_self, or_false, false_or, or_true, true_or, and_self, and_false, false_and, not_true_eq_false, not_false_eq_true, ne_eq, Bool.and_true, Bool.true_and, Bool.and_false, Bool.false_and, decide_eq_true_eq, decide_true, decide_false, Int.reduceBEq, Int.reduceBNe, Int.reduceLT, Int.reduceLE, Int.reduceAdd, Int.reduceSub, Int.reduceMul, Int.reduceNeg, Int.reduceEq, Int.toNat_zero, Int.reduceToNat, Int.zero_lt_one, Nat.zero_le, Int.le_refl, beq_self_eq_true, bne_self_eq_false, cast_lit, fits, wrap_in, Int.toNat_natCast, Int.natCast_nonneg]
  refine aw_ret ?_
  unfold cmpI
  rw [if_neg h1, if_neg h2]
  refine end_to [] [] (by first | exact .inl rfl | exact .inr rfl) rfl (by kernel_rfl) (by kernel_rfl) (by kernel_rfl) ?_ ?_ <;> repeat' (first | exact trivial | exact vr_val _ | exact vr_list _ | exact vr_at _ | exact vr_nil | exact vr_cap0 | exact vr_vec _ _ _ _ rfl | exact vr_own _ _ _ _ _ rfl | exact vr_ptr _ _ _ rfl | exact vr_nilv _ _ _ rfl | exact vr_bot _ | exact vr_cap0v _ _ _ rfl | exact vr_cap0l | apply vr_agg | apply vr_tup | apply vr_fn | refine vr_yld _ _ _ rfl ?_ | exact Ren.bot _ | exact Ren.val _ | exact Ren.list _ | exact Ren.at_ _ | exact Ren.ptr _ _ _ rfl | refine Ren.yld _ _ _ _ _ rfl rfl (RenL.get ?_).2 (fun _ _ _ h => h) | refine vr_fl _ _ _ _ _ (by decide) rfl ?_ ?_ ?_ ?_ | refine And.intro ⟨_, rfl, .inl ⟨_, rfl, by decide, ?_⟩⟩ ?_ | refine And.intro ⟨_, rfl, _, rfl, by decide, ?_⟩ ?_ | refine And.intro ⟨_, rfl, .inr ⟨rfl, rfl, of_decide_eq_true (by kernel_rfl)⟩⟩ ?_ | apply And.intro | exact vrl_flat _ (by first | exact icells_in _ | exact rcells_in _ | exact scells_in _ | exact bcells_in _ | assumption) | fail)
end Go.Proofs.Ytgibbaadjbohdaa
/- Corners, and which comes first: both sides. No conditions. -/
set_option linter.unusedSimpArgs false
set_option linter.unusedVariables false
namespace Go.Proofs.Ytgibbaadjbohdaa
open Go.RowKit Lift

theorem cmpI_ne {a b : Int} (h : cmpI a b ≠ 0) : a ≠ b := by
  intro e; subst e; apply h; unfold cmpI; rw [if_neg (by omega), if_neg (by omega)]
theorem cmpI_eq {a b : Int} (h : cmpI a b = 0) : a = b := by
  unfold cmpI at h
  by_cases h1 : a < b
  · rw [if_pos h1] at h; omega
  · rw [if_neg h1] at h
    by_cases h2 : a > b
    · rw [if_pos h2] at h; omega
    · omega
theorem all_eq_next {p q : List Int} {k : Nat} (h1 : ∀ j, j < k → p[j]?.getD 0 = q[j]?.getD 0) (h2 : p[k]?.getD 0 = q[k]?.getD 0) : ∀ j, j < k + 1 → p[j]?.getD 0 = q[j]?.getD 0 := fun j hj => by
  by_cases hjk : j = k
  · subst hjk; exact h2
  · exact h1 j (by omega)
set_option maxRecDepth 100000 in
set_option maxHeartbeats 2000000 in
theorem compare_ac (p q : List Int) (hp : p.length ≤ 1000) (hq : q.length = p.length) : AC Try.prog 42 [.list (ints p), .list (ints q)] [] [] (dI (lex p q)) := by
  refine kslices_Compare_L_L_Jint_Kint_J.ac (n0 := 0) (by simp) ⟨.list _, .list _, trivial⟩ trivial rfl ?_
  unfold cslices_Compare_L_L_Jint_Kint_J
  refine aw_seq (aw_region ?_)
  simp (config := {maxSteps := 10000000}) (disch := first | exact okYes (by kernel_rfl) | omega) only [ARun_nil, ARun_none, ARun_some, ARun_skip, AOpRun, AGo_f, AGo_ok, AG_tt, AG_ff, AG_tf, AG_ft, AG_un, aexec, run1, asI, elems, base, opt1, fillD, splice, abin, ash, isSh, foldI, mn2, mx2, ↓eget_h, eget_c, eget_n, eput_c, eput_n, putO, ↓hget_h, hget_c, hget_n, hput_c, hput_n, hdel_c, hdel_n, hups, cond_true, cond_false,  ups, St.F, St.app, FSt.ev, dropE_c, dropE_n, inL_c, inL_n, envOf, thenQ, blockQ, D.isBot, D.isAgg, D.cells, D.leaf, scalarEq, eqCells, isB, Option.map, List.map, List.length, List.all, List.append, List.take, List.drop, List.cons_append, List.nil_append, List.append_nil, Option.isSome, List.getElem?_cons_zero, List.getElem?_cons_succ, if_true, if_false, true_and, and_true, Bool.not_true, Bool.not_false, Bool.true_or, Bool.false_or, Bool.or_true, Bool.or_false, Bool.false_eq_true, ↓reduceIte, Nat.reduceAdd, Nat.reduceMul, Nat.reduceEqDiff, Nat.reduceBEq, Nat.reduceSub, Nat.zero_add, Nat.reduceLeDiff, Nat.reduceGT, Nat.reduceLT, Nat.reduceBNe, okLog_f, reduceCtorEq, or_self, or_false, false_or, or_true, true_or, and_self, and_false, false_and, not_true_eq_false, not_false_eq_true, ne_eq, Bool.and_true, Bool.true_and, Bool.and_false, Bool.false_and, decide_eq_true_eq, decide_true, decide_false, Int.reduceBEq, Int.reduceBNe, Int.reduceLT, Int.reduceLE, Int.reduceAdd, Int.reduceSub, Int.reduceMul, Int.reduceNeg, Int.reduceEq, Int.toNat_zero, Int.reduceToNat, Int.zero_lt_one, Nat.zero_le, Int.le_refl, beq_self_eq_true, bne_self_eq_false, cast_lit, fits, wrap_in, Int.toNat_natCast, Int.natCast_nonneg]
  refine aw_seq (aw_seq (aw_region ?_))
  simp (config := {maxSteps := 10000000}) (disch := first | exact okYes (by kernel_rfl) | omega) only [ARun_nil, ARun_none, ARun_some, ARun_skip, AOpRun, AGo_f, AGo_ok, AG_tt, AG_ff, AG_tf, AG_ft, AG_un, aexec, run1, asI, elems, base, opt1, fillD, splice, abin, ash, isSh, foldI, mn2, mx2, ↓eget_h, eget_c, eget_n, eput_c, eput_n, putO, ↓hget_h, hget_c, hget_n, hput_c, hput_n, hdel_c, hdel_n, hups, cond_true, cond_false,  ups, St.F, St.app, FSt.ev, dropE_c, dropE_n, inL_c, inL_n, envOf, thenQ, blockQ, D.isBot, D.isAgg, D.cells, D.leaf, scalarEq, eqCells, isB, Option.map, List.map, List.length, List.all, List.append, List.take, List.drop, List.cons_append, List.nil_append, List.append_nil, Option.isSome, List.getElem?_cons_zero, List.getElem?_cons_succ, if_true, if_false, true_and, and_true, Bool.not_true, Bool.not_false, Bool.true_or, Bool.false_or, Bool.or_true, Bool.or_false, Bool.false_eq_true, ↓reduceIte, Nat.reduceAdd, Nat.reduceMul, Nat.reduceEqDiff, Nat.reduceBEq, Nat.reduceSub, Nat.zero_add, Nat.reduceLeDiff, Nat.reduceGT, Nat.reduceLT, Nat.reduceBNe, okLog_f, reduceCtorEq, or_self, or_false, false_or, or_true, true_or, and_self, and_false, false_and, not_true_eq_false, not_false_eq_true, ne_eq, Bool.and_true, Bool.true_and, Bool.and_false, Bool.false_and, decide_eq_true_eq, decide_true, decide_false, Int.reduceBEq, Int.reduceBNe, Int.reduceLT, Int.reduceLE, Int.reduceAdd, Int.reduceSub, Int.reduceMul, Int.reduceNeg, Int.reduceEq, Int.toNat_zero, Int.reduceToNat, Int.zero_lt_one, Nat.zero_le, Int.le_refl, beq_self_eq_true, bne_self_eq_false, cast_lit, fits, wrap_in, Int.toNat_natCast, Int.natCast_nonneg, ints_len]
  refine aw_block (aw_loop (fun k : Nat => ⟨[(0, .list (ints p)), (1, .list (ints q)), (9, .list (ints p)), (10, .val (.int .i64 p.length)), (11, .val (.int .i64 k))], [], 100⟩) (fun k => k ≤ p.length ∧ ∀ j, j < k → p[j]?.getD 0 = q[j]?.getD 0) (fun k => p.length - k) ⟨0, ⟨by omega, fun j hj => by omega⟩, ?_⟩ ?_)
  · refine wk_to [] [] (by kernel_rfl) (by kernel_rfl) (by kernel_rfl) (by kernel_rfl) (by kernel_rfl) ?_ ?_ <;> repeat' (first | exact trivial | exact vr_val _ | exact vr_list _ | exact vr_at _ | exact vr_nil | exact vr_cap0 | exact vr_vec _ _ _ _ rfl | exact vr_own _ _ _ _ _ rfl | exact vr_ptr _ _ _ rfl | exact vr_nilv _ _ _ rfl | exact vr_bot _ | exact vr_cap0v _ _ _ rfl | exact vr_cap0l | apply vr_agg | apply vr_tup | apply vr_fn | refine vr_yld _ _ _ rfl ?_ | exact Ren.bot _ | exact Ren.val _ | exact Ren.list _ | exact Ren.at_ _ | exact Ren.ptr _ _ _ rfl | refine Ren.yld _ _ _ _ _ rfl rfl (RenL.get ?_).2 (fun _ _ _ h => h) | refine vr_fl _ _ _ _ _ (by decide) rfl ?_ ?_ ?_ ?_ | refine And.intro ⟨_, rfl, .inl ⟨_, rfl, by decide, ?_⟩⟩ ?_ | refine And.intro ⟨_, rfl, _, rfl, by decide, ?_⟩ ?_ | refine And.intro ⟨_, rfl, .inr ⟨rfl, rfl, of_decide_eq_true (by kernel_rfl)⟩⟩ ?_ | apply And.intro | exact vrl_flat _ (by first | exact icells_in _ | exact rcells_in _ | exact scells_in _ | exact bcells_in _ | assumption) | fail)
  · rintro k ⟨hk, hin⟩
    refine aw_seq (aw_region ?_)
    simp (config := {maxSteps := 10000000}) (disch := first | exact okYes (by kernel_rfl) | omega) only [ARun_nil, ARun_none, ARun_some, ARun_skip, AOpRun, AGo_f, AGo_ok, AG_tt, AG_ff, AG_tf, AG_ft, AG_un, aexec, run1, asI, elems, base, opt1, fillD, splice, abin, ash, isSh, foldI, mn2, mx2, ↓eget_h, eget_c, eget_n, eput_c, eput_n, putO, ↓hget_h, hget_c, hget_n, hput_c, hput_n, hdel_c, hdel_n, hups, cond_true, cond_false,  ups, St.F, St.app, FSt.ev, dropE_c, dropE_n, inL_c, inL_n, envOf, thenQ, blockQ, D.isBot, D.isAgg, D.cells, D.leaf, scalarEq, eqCells, isB, Option.map, List.map, List.length, List.all, List.append, List.take, List.drop, List.cons_append, List.nil_append, List.append_nil, Option.isSome, List.getElem?_cons_zero, List.getElem?_cons_succ, if_true, if_false, true_and, and_true, Bool.not_true, Bool.not_false, Bool.true_or, Bool.false_or, Bool.or_true, Bool.or_false, Bool.false_eq_true, ↓reduceIte, Nat.reduceAdd, Nat.reduceMul, Nat.reduceEqDiff, Nat.reduceBEq, Nat.reduceSub, Nat.zero_add, Nat.reduceLeDiff, Nat.reduceGT, Nat.reduceLT, Nat.reduceBNe, okLog_f, reduceCtorEq, or_self, or_false, false_or, or_true, true_or, and_self, and_false, false_and, not_true_eq_false, not_false_eq_true, ne_eq, Bool.and_true, Bool.true_and, Bool.and_false, Bool.false_and, decide_eq_true_eq, decide_true, decide_false, Int.reduceBEq, Int.reduceBNe, Int.reduceLT, Int.reduceLE, Int.reduceAdd, Int.reduceSub, Int.reduceMul, Int.reduceNeg, Int.reduceEq, Int.toNat_zero, Int.reduceToNat, Int.zero_lt_one, Nat.zero_le, Int.le_refl, beq_self_eq_true, bne_self_eq_false, cast_lit, fits, wrap_in, Int.toNat_natCast, Int.natCast_nonneg]
    refine aw_seq (aw_cond rfl (fun hc => ?_) (fun hc => ?_))
    · have hk' : k < p.length := by have := of_decide_eq_true hc; omega
      have hkq : k < q.length := by omega
      refine aw_skip (aw_seq (aw_block (aw_seq (aw_region ?_))))
      simp (config := {maxSteps := 10000000}) (disch := first | exact okYes (by kernel_rfl) | omega) only [ARun_nil, ARun_none, ARun_some, ARun_skip, AOpRun, AGo_f, AGo_ok, AG_tt, AG_ff, AG_tf, AG_ft, AG_un, aexec, run1, asI, elems, base, opt1, fillD, splice, abin, ash, isSh, foldI, mn2, mx2, ↓eget_h, eget_c, eget_n, eput_c, eput_n, putO, ↓hget_h, hget_c, hget_n, hput_c, hput_n, hdel_c, hdel_n, hups, cond_true, cond_false,  ups, St.F, St.app, FSt.ev, dropE_c, dropE_n, inL_c, inL_n, envOf, thenQ, blockQ, D.isBot, D.isAgg, D.cells, D.leaf, scalarEq, eqCells, isB, Option.map, List.map, List.length, List.all, List.append, List.take, List.drop, List.cons_append, List.nil_append, List.append_nil, Option.isSome, List.getElem?_cons_zero, List.getElem?_cons_succ, if_true, if_false, true_and, and_true, Bool.not_true, Bool.not_false, Bool.true_or, Bool.false_or, Bool.or_true, Bool.or_false, Bool.false_eq_true, ↓reduceIte, Nat.reduceAdd, Nat.reduceMul, Nat.reduceEqDiff, Nat.reduceBEq, Nat.reduceSub, Nat.zero_add, Nat.reduceLeDiff, Nat.reduceGT, Nat.reduceLT, Nat.reduceBNe, okLog_f, reduceCtorEq, or_self, or_false, false_or, or_true, true_or, and_self, and_false, false_and, not_true_eq_false, not_false_eq_true, ne_eq, Bool.and_true, Bool.true_and, Bool.and_false, Bool.false_and, decide_eq_true_eq, decide_true, decide_false, Int.reduceBEq, Int.reduceBNe, Int.reduceLT, Int.reduceLE, Int.reduceAdd, Int.reduceSub, Int.reduceMul, Int.reduceNeg, Int.reduceEq, Int.toNat_zero, Int.reduceToNat, Int.zero_lt_one, Nat.zero_le, Int.le_refl, beq_self_eq_true, bne_self_eq_false, cast_lit, fits, wrap_in, Int.toNat_natCast, Int.natCast_nonneg, ints_all, ints_gd p k hk']
      refine aw_seq (aw_seq (aw_region ?_))
      simp (config := {maxSteps := 10000000}) (disch := first | exact okYes (by kernel_rfl) | omega) only [ARun_nil, ARun_none, ARun_some, ARun_skip, AOpRun, AGo_f, AGo_ok, AG_tt, AG_ff, AG_tf, AG_ft, AG_un, aexec, run1, asI, elems, base, opt1, fillD, splice, abin, ash, isSh, foldI, mn2, mx2, ↓eget_h, eget_c, eget_n, eput_c, eput_n, putO, ↓hget_h, hget_c, hget_n, hput_c, hput_n, hdel_c, hdel_n, hups, cond_true, cond_false,  ups, St.F, St.app, FSt.ev, dropE_c, dropE_n, inL_c, inL_n, envOf, thenQ, blockQ, D.isBot, D.isAgg, D.cells, D.leaf, scalarEq, eqCells, isB, Option.map, List.map, List.length, List.all, List.append, List.take, List.drop, List.cons_append, List.nil_append, List.append_nil, Option.isSome, List.getElem?_cons_zero, List.getElem?_cons_succ, if_true, if_false, true_and, and_true, Bool.not_true, Bool.not_false, Bool.true_or, Bool.false_or, Bool.or_true, Bool.or_false, Bool.false_eq_true, ↓reduceIte, Nat.reduceAdd, Nat.reduceMul, Nat.reduceEqDiff, Nat.reduceBEq, Nat.reduceSub, Nat.zero_add, Nat.reduceLeDiff, Nat.reduceGT, Nat.reduceLT, Nat.reduceBNe, okLog_f, reduceCtorEq, or_self, or_false, false_or, or_true, true_or, and_self, and_false, false_and, not_true_eq_false, not_false_eq_true, ne_eq, Bool.and_true, Bool.true_and, Bool.and_false, Bool.false_and, decide_eq_true_eq, decide_true, decide_false, Int.reduceBEq, Int.reduceBNe, Int.reduceLT, Int.reduceLE, Int.reduceAdd, Int.reduceSub, Int.reduceMul, Int.reduceNeg, Int.reduceEq, Int.toNat_zero, Int.reduceToNat, Int.zero_lt_one, Nat.zero_le, Int.le_refl, beq_self_eq_true, bne_self_eq_false, cast_lit, fits, wrap_in, Int.toNat_natCast, Int.natCast_nonneg, ints_len]
      refine aw_cond rfl (fun hc => ?_) (fun hc => ?_)
      · have := of_decide_eq_true hc; omega
      refine aw_skip (aw_seq (aw_region ?_))
      simp (config := {maxSteps := 10000000}) (disch := first | exact okYes (by kernel_rfl) | omega) only [ARun_nil, ARun_none, ARun_some, ARun_skip, AOpRun, AGo_f, AGo_ok, AG_tt, AG_ff, AG_tf, AG_ft, AG_un, aexec, run1, asI, elems, base, opt1, fillD, splice, abin, ash, isSh, foldI, mn2, mx2, ↓eget_h, eget_c, eget_n, eput_c, eput_n, putO, ↓hget_h, hget_c, hget_n, hput_c, hput_n, hdel_c, hdel_n, hups, cond_true, cond_false,  ups, St.F, St.app, FSt.ev, dropE_c, dropE_n, inL_c, inL_n, envOf, thenQ, blockQ, D.isBot, D.isAgg, D.cells, D.leaf, scalarEq, eqCells, isB, Option.map, List.map, List.length, List.all, List.append, List.take, List.drop, List.cons_append, List.nil_append, List.append_nil, Option.isSome, List.getElem?_cons_zero, List.getElem?_cons_succ, if_true, if_false, true_and, and_true, Bool.not_true, Bool.not_false, Bool.true_or, Bool.false_or, Bool.or_true, Bool.or_false, Bool.false_eq_true, ↓reduceIte, Nat.reduceAdd, Nat.reduceMul, Nat.reduceEqDiff, Nat.reduceBEq, Nat.reduceSub, Nat.zero_add, Nat.reduceLeDiff, Nat.reduceGT, Nat.reduceLT, Nat.reduceBNe, okLog_f, reduceCtorEq, or_self, or_false, false_or, or_true, true_or, and_self, and_false, false_and, not_true_eq_false, not_false_eq_true, ne_eq, Bool.and_true, Bool.true_and, Bool.and_false, Bool.false_and, decide_eq_true_eq, decide_true, decide_false, Int.reduceBEq, Int.reduceBNe, Int.reduceLT, Int.reduceLE, Int.reduceAdd, Int.reduceSub, Int.reduceMul, Int.reduceNeg, Int.reduceEq, Int.toNat_zero, Int.reduceToNat, Int.zero_lt_one, Nat.zero_le, Int.le_refl, beq_self_eq_true, bne_self_eq_false, cast_lit, fits, wrap_in, Int.toNat_natCast, Int.natCast_nonneg, ints_all, ints_gd q k hkq]
      refine aw_seq (aw_region ?_)
      simp (config := {maxSteps := 10000000}) (disch := first | exact okYes (by kernel_rfl) | omega) only [ARun_nil, ARun_none, ARun_some, ARun_skip, AOpRun, AGo_f, AGo_ok, AG_tt, AG_ff, AG_tf, AG_ft, AG_un, aexec, run1, asI, elems, base, opt1, fillD, splice, abin, ash, isSh, foldI, mn2, mx2, ↓eget_h, eget_c, eget_n, eput_c, eput_n, putO, ↓hget_h, hget_c, hget_n, hput_c, hput_n, hdel_c, hdel_n, hups, cond_true, cond_false,  ups, St.F, St.app, FSt.ev, dropE_c, dropE_n, inL_c, inL_n, envOf, thenQ, blockQ, D.isBot, D.isAgg, D.cells, D.leaf, scalarEq, eqCells, isB, Option.map, List.map, List.length, List.all, List.append, List.take, List.drop, List.cons_append, List.nil_append, List.append_nil, Option.isSome, List.getElem?_cons_zero, List.getElem?_cons_succ, if_true, if_false, true_and, and_true, Bool.not_true, Bool.not_false, Bool.true_or, Bool.false_or, Bool.or_true, Bool.or_false, Bool.false_eq_true, ↓reduceIte, Nat.reduceAdd, Nat.reduceMul, Nat.reduceEqDiff, Nat.reduceBEq, Nat.reduceSub, Nat.zero_add, Nat.reduceLeDiff, Nat.reduceGT, Nat.reduceLT, Nat.reduceBNe, okLog_f, reduceCtorEq, or_self, or_false, false_or, or_true, true_or, and_self, and_false, false_and, not_true_eq_false, not_false_eq_true, ne_eq, Bool.and_true, Bool.true_and, Bool.and_false, Bool.false_and, decide_eq_true_eq, decide_true, decide_false, Int.reduceBEq, Int.reduceBNe, Int.reduceLT, Int.reduceLE, Int.reduceAdd, Int.reduceSub, Int.reduceMul, Int.reduceNeg, Int.reduceEq, Int.toNat_zero, Int.reduceToNat, Int.zero_lt_one, Nat.zero_le, Int.le_refl, beq_self_eq_true, bne_self_eq_false, cast_lit, fits, wrap_in, Int.toNat_natCast, Int.natCast_nonneg]
      refine acall0 (cmp_ac (p[k]?.getD 0) (q[k]?.getD 0)) ?_
      simp (config := {maxSteps := 10000000}) (disch := first | exact okYes (by kernel_rfl) | omega) only [ARun_nil, ARun_none, ARun_some, ARun_skip, AOpRun, AGo_f, AGo_ok, AG_tt, AG_ff, AG_tf, AG_ft, AG_un, aexec, run1, asI, elems, base, opt1, fillD, splice, abin, ash, isSh, foldI, mn2, mx2, ↓eget_h, eget_c, eget_n, eput_c, eput_n, putO, ↓hget_h, hget_c, hget_n, hput_c, hput_n, hdel_c, hdel_n, hups, cond_true, cond_false,  ups, St.F, St.app, FSt.ev, dropE_c, dropE_n, inL_c, inL_n, envOf, thenQ, blockQ, D.isBot, D.isAgg, D.cells, D.leaf, scalarEq, eqCells, isB, Option.map, List.map, List.length, List.all, List.append, List.take, List.drop, List.cons_append, List.nil_append, List.append_nil, Option.isSome, List.getElem?_cons_zero, List.getElem?_cons_succ, if_true, if_false, true_and, and_true, Bool.not_true, Bool.not_false, Bool.true_or, Bool.false_or, Bool.or_true, Bool.or_false, Bool.false_eq_true, ↓reduceIte, Nat.reduceAdd, Nat.reduceMul, Nat.reduceEqDiff, Nat.reduceBEq, Nat.reduceSub, Nat.zero_add, Nat.reduceLeDiff, Nat.reduceGT, Nat.reduceLT, Nat.reduceBNe, okLog_f, reduceCtorEq, or_self, or_false, false_or, or_true, true_or, and_self, and_false, false_and, not_true_eq_false, not_false_eq_true, ne_eq, Bool.and_true, Bool.true_and, Bool.and_false, Bool.false_and, decide_eq_true_eq, decide_true, decide_false, Int.reduceBEq, Int.reduceBNe, Int.reduceLT, Int.reduceLE, Int.reduceAdd, Int.reduceSub, Int.reduceMul, Int.reduceNeg, Int.reduceEq, Int.toNat_zero, Int.reduceToNat, Int.zero_lt_one, Nat.zero_le, Int.le_refl, beq_self_eq_true, bne_self_eq_false, cast_lit, fits, wrap_in, Int.toNat_natCast, Int.natCast_nonneg, dI]
      refine aw_seq (aw_region ?_)
      simp (config := {maxSteps := 10000000}) (disch := first | exact okYes (by kernel_rfl) | omega) only [ARun_nil, ARun_none, ARun_some, ARun_skip, AOpRun, AGo_f, AGo_ok, AG_tt, AG_ff, AG_tf, AG_ft, AG_un, aexec, run1, asI, elems, base, opt1, fillD, splice, abin, ash, isSh, foldI, mn2, mx2, ↓eget_h, eget_c, eget_n, eput_c, eput_n, putO, ↓hget_h, hget_c, hget_n, hput_c, hput_n, hdel_c, hdel_n, hups, cond_true, cond_false,  ups, St.F, St.app, FSt.ev, dropE_c, dropE_n, inL_c, inL_n, envOf, thenQ, blockQ, D.isBot, D.isAgg, D.cells, D.leaf, scalarEq, eqCells, isB, Option.map, List.map, List.length, List.all, List.append, List.take, List.drop, List.cons_append, List.nil_append, List.append_nil, Option.isSome, List.getElem?_cons_zero, List.getElem?_cons_succ, if_true, if_false, true_and, and_true, Bool.not_true, Bool.not_false, Bool.true_or, Bool.false_or, Bool.or_true, Bool.or_false, Bool.false_eq_true, ↓reduceIte, Nat.reduceAdd, Nat.reduceMul, Nat.reduceEqDiff, Nat.reduceBEq, Nat.reduceSub, Nat.zero_add, Nat.reduceLeDiff, Nat.reduceGT, Nat.reduceLT, Nat.reduceBNe, okLog_f, reduceCtorEq, or_self, or_false, false_or, or_true, true_or, and_self, and_false, false_and, not_true_eq_false, not_false_eq_true, ne_eq, Bool.and_true, Bool.true_and, Bool.and_false, Bool.false_and, decide_eq_true_eq, decide_true, decide_false, Int.reduceBEq, Int.reduceBNe, Int.reduceLT, Int.reduceLE, Int.reduceAdd, Int.reduceSub, Int.reduceMul, Int.reduceNeg, Int.reduceEq, Int.toNat_zero, Int.reduceToNat, Int.zero_lt_one, Nat.zero_le, Int.le_refl, beq_self_eq_true, bne_self_eq_false, cast_lit, fits, wrap_in, Int.toNat_natCast, Int.natCast_nonneg]
      refine aw_cond rfl (fun hc => ?_) (fun hc => ?_)
      · have he : cmpI (p[k]?.getD 0) (q[k]?.getD 0) ≠ 0 := by simpa using hc
        have hl := lex_at p q k hk' hkq hin (cmpI_ne he)
        refine aw_seq (aw_region ?_)
        simp (config := {maxSteps := 10000000}) (disch := first | exact okYes (by kernel_rfl) | omega) only [ARun_nil, ARun_none, ARun_some, ARun_skip, AOpRun, AGo_f, AGo_ok, AG_tt, AG_ff, AG_tf, AG_ft, AG_un, aexec, run1, asI, elems, base, opt1, fillD, splice, abin, ash, isSh, foldI, mn2, mx2, ↓eget_h, eget_c, eget_n, eput_c, eput_n, putO, ↓hget_h, hget_c, hget_n, hput_c, hput_n, hdel_c, hdel_n, hups, cond_true, cond_false,  ups, St.F, St.app, FSt.ev, dropE_c, dropE_n, inL_c, inL_n, envOf, thenQ, blockQ, D.isBot, D.isAgg, D.cells, D.leaf, scalarEq, eqCells, isB, Option.map, List.map, List.length, List.all, List.append, List.take, List.drop, List.cons_append, List.nil_append, List.append_nil, Option.isSome, List.getElem?_cons_zero, List.getElem?_cons_succ, if_true, if_false, true_and, and_true, Bool.not_true, Bool.not_false, Bool.true_or, Bool.false_or, Bool.or_true, Bool.or_false, Bool.false_eq_true, ↓reduceIte, Nat.reduceAdd, Nat.reduceMul, Nat.reduceEqDiff, Nat.reduceBEq, Nat.reduceSub, Nat.zero_add, Nat.reduceLeDiff, Nat.reduceGT, Nat.reduceLT, Nat.reduceBNe, okLog_f, reduceCtorEq, or_self, or_false, false_or, or_true, true_or, and_self, and_false, false_and, not_true_eq_false, not_false_eq_true, ne_eq, Bool.and_true, Bool.true_and, Bool.and_false, Bool.false_and, decide_eq_true_eq, decide_true, decide_false, Int.reduceBEq, Int.reduceBNe, Int.reduceLT, Int.reduceLE, Int.reduceAdd, Int.reduceSub, Int.reduceMul, Int.reduceNeg, Int.reduceEq, Int.toNat_zero, Int.reduceToNat, Int.zero_lt_one, Nat.zero_le, Int.le_refl, beq_self_eq_true, bne_self_eq_false, cast_lit, fits, wrap_in, Int.toNat_natCast, Int.natCast_nonneg]
        refine aw_ret ?_
        rw [hl]
        refine end_to [] [] (by first | exact .inl rfl | exact .inr rfl) rfl (by kernel_rfl) (by kernel_rfl) (by kernel_rfl) ?_ ?_ <;> repeat' (first | exact trivial | exact vr_val _ | exact vr_list _ | exact vr_at _ | exact vr_nil | exact vr_cap0 | exact vr_vec _ _ _ _ rfl | exact vr_own _ _ _ _ _ rfl | exact vr_ptr _ _ _ rfl | exact vr_nilv _ _ _ rfl | exact vr_bot _ | exact vr_cap0v _ _ _ rfl | exact vr_cap0l | apply vr_agg | apply vr_tup | apply vr_fn | refine vr_yld _ _ _ rfl ?_ | exact Ren.bot _ | exact Ren.val _ | exact Ren.list _ | exact Ren.at_ _ | exact Ren.ptr _ _ _ rfl | refine Ren.yld _ _ _ _ _ rfl rfl (RenL.get ?_).2 (fun _ _ _ h => h) | refine vr_fl _ _ _ _ _ (by decide) rfl ?_ ?_ ?_ ?_ | refine And.intro ⟨_, rfl, .inl ⟨_, rfl, by decide, ?_⟩⟩ ?_ | refine And.intro ⟨_, rfl, _, rfl, by decide, ?_⟩ ?_ | refine And.intro ⟨_, rfl, .inr ⟨rfl, rfl, of_decide_eq_true (by kernel_rfl)⟩⟩ ?_ | apply And.intro | exact vrl_flat _ (by first | exact icells_in _ | exact rcells_in _ | exact scells_in _ | exact bcells_in _ | assumption) | fail)
      · have he : cmpI (p[k]?.getD 0) (q[k]?.getD 0) = 0 := by simpa using hc
        refine aw_skip ?_
        simp only [thenQ, blockQ, if_true]
        refine aw_region ?_
        simp (config := {maxSteps := 10000000}) (disch := first | exact okYes (by kernel_rfl) | omega) only [ARun_nil, ARun_none, ARun_some, ARun_skip, AOpRun, AGo_f, AGo_ok, AG_tt, AG_ff, AG_tf, AG_ft, AG_un, aexec, run1, asI, elems, base, opt1, fillD, splice, abin, ash, isSh, foldI, mn2, mx2, ↓eget_h, eget_c, eget_n, eput_c, eput_n, putO, ↓hget_h, hget_c, hget_n, hput_c, hput_n, hdel_c, hdel_n, hups, cond_true, cond_false,  ups, St.F, St.app, FSt.ev, dropE_c, dropE_n, inL_c, inL_n, envOf, thenQ, blockQ, D.isBot, D.isAgg, D.cells, D.leaf, scalarEq, eqCells, isB, Option.map, List.map, List.length, List.all, List.append, List.take, List.drop, List.cons_append, List.nil_append, List.append_nil, Option.isSome, List.getElem?_cons_zero, List.getElem?_cons_succ, if_true, if_false, true_and, and_true, Bool.not_true, Bool.not_false, Bool.true_or, Bool.false_or, Bool.or_true, Bool.or_false, Bool.false_eq_true, ↓reduceIte, Nat.reduceAdd, Nat.reduceMul, Nat.reduceEqDiff, Nat.reduceBEq, Nat.reduceSub, Nat.zero_add, Nat.reduceLeDiff, Nat.reduceGT, Nat.reduceLT, Nat.reduceBNe, okLog_f, reduceCtorEq, or_self, or_false, false_or, or_true, true_or, and_self, and_false, false_and, not_true_eq_false, not_false_eq_true, ne_eq, Bool.and_true, Bool.true_and, Bool.and_false, Bool.false_and, decide_eq_true_eq, decide_true, decide_false, Int.reduceBEq, Int.reduceBNe, Int.reduceLT, Int.reduceLE, Int.reduceAdd, Int.reduceSub, Int.reduceMul, Int.reduceNeg, Int.reduceEq, Int.toNat_zero, Int.reduceToNat, Int.zero_lt_one, Nat.zero_le, Int.le_refl, beq_self_eq_true, bne_self_eq_false, cast_lit, fits, wrap_in, Int.toNat_natCast, Int.natCast_nonneg]
        refine ⟨k + 1, ⟨hk', all_eq_next hin (cmpI_eq he)⟩, by omega, ?_⟩
        refine wk_to [] [] (by kernel_rfl) (by kernel_rfl) (by kernel_rfl) (by kernel_rfl) (by kernel_rfl) ?_ ?_ <;> repeat' (first | exact trivial | exact vr_val _ | exact vr_list _ | exact vr_at _ | exact vr_nil | exact vr_cap0 | exact vr_vec _ _ _ _ rfl | exact vr_own _ _ _ _ _ rfl | exact vr_ptr _ _ _ rfl | exact vr_nilv _ _ _ rfl | exact vr_bot _ | exact vr_cap0v _ _ _ rfl | exact vr_cap0l | apply vr_agg | apply vr_tup | apply vr_fn | refine vr_yld _ _ _ rfl ?_ | exact Ren.bot _ | exact Ren.val _ | exact Ren.list _ | exact Ren.at_ _ | exact Ren.ptr _ _ _ rfl | refine Ren.yld _ _ _ _ _ rfl rfl (RenL.get ?_).2 (fun _ _ _ h => h) | refine vr_fl _ _ _ _ _ (by decide) rfl ?_ ?_ ?_ ?_ | refine And.intro ⟨_, rfl, .inl ⟨_, rfl, by decide, ?_⟩⟩ ?_ | refine And.intro ⟨_, rfl, _, rfl, by decide, ?_⟩ ?_ | refine And.intro ⟨_, rfl, .inr ⟨rfl, rfl, of_decide_eq_true (by kernel_rfl)⟩⟩ ?_ | apply And.intro | exact vrl_flat _ (by first | exact icells_in _ | exact rcells_in _ | exact scells_in _ | exact bcells_in _ | assumption) | fail)
    · have hk' : k = p.length := by have := of_decide_eq_false hc; omega
      subst hk'
      have hl := lex_eq p q hq.symm hin
      refine aw_exit ?_
      simp only [thenQ, blockQ, if_true]
      refine aw_seq (aw_seq (aw_region ?_))
      simp (config := {maxSteps := 10000000}) (disch := first | exact okYes (by kernel_rfl) | omega) only [ARun_nil, ARun_none, ARun_some, ARun_skip, AOpRun, AGo_f, AGo_ok, AG_tt, AG_ff, AG_tf, AG_ft, AG_un, aexec, run1, asI, elems, base, opt1, fillD, splice, abin, ash, isSh, foldI, mn2, mx2, ↓eget_h, eget_c, eget_n, eput_c, eput_n, putO, ↓hget_h, hget_c, hget_n, hput_c, hput_n, hdel_c, hdel_n, hups, cond_true, cond_false,  ups, St.F, St.app, FSt.ev, dropE_c, dropE_n, inL_c, inL_n, envOf, thenQ, blockQ, D.isBot, D.isAgg, D.cells, D.leaf, scalarEq, eqCells, isB, Option.map, List.map, List.length, List.all, List.append, List.take, List.drop, List.cons_append, List.nil_append, List.append_nil, Option.isSome, List.getElem?_cons_zero, List.getElem?_cons_succ, if_true, if_false, true_and, and_true, Bool.not_true, Bool.not_false, Bool.true_or, Bool.false_or, Bool.or_true, Bool.or_false, Bool.false_eq_true, ↓reduceIte, Nat.reduceAdd, Nat.reduceMul, Nat.reduceEqDiff, Nat.reduceBEq, Nat.reduceSub, Nat.zero_add, Nat.reduceLeDiff, Nat.reduceGT, Nat.reduceLT, Nat.reduceBNe, okLog_f, reduceCtorEq, or_self, or_false, false_or, or_true, true_or, and_self, and_false, false_and, not_true_eq_false, not_false_eq_true, ne_eq, Bool.and_true, Bool.true_and, Bool.and_false, Bool.false_and, decide_eq_true_eq, decide_true, decide_false, Int.reduceBEq, Int.reduceBNe, Int.reduceLT, Int.reduceLE, Int.reduceAdd, Int.reduceSub, Int.reduceMul, Int.reduceNeg, Int.reduceEq, Int.toNat_zero, Int.reduceToNat, Int.zero_lt_one, Nat.zero_le, Int.le_refl, beq_self_eq_true, bne_self_eq_false, cast_lit, fits, wrap_in, Int.toNat_natCast, Int.natCast_nonneg, ints_len]
      refine aw_cond rfl (fun hc => ?_) (fun hc => ?_)
      · have := of_decide_eq_true hc; omega
      refine aw_skip (aw_seq (aw_region ?_))
      simp (config := {maxSteps := 10000000}) (disch := first | exact okYes (by kernel_rfl) | omega) only [ARun_nil, ARun_none, ARun_some, ARun_skip, AOpRun, AGo_f, AGo_ok, AG_tt, AG_ff, AG_tf, AG_ft, AG_un, aexec, run1, asI, elems, base, opt1, fillD, splice, abin, ash, isSh, foldI, mn2, mx2, ↓eget_h, eget_c, eget_n, eput_c, eput_n, putO, ↓hget_h, hget_c, hget_n, hput_c, hput_n, hdel_c, hdel_n, hups, cond_true, cond_false,  ups, St.F, St.app, FSt.ev, dropE_c, dropE_n, inL_c, inL_n, envOf, thenQ, blockQ, D.isBot, D.isAgg, D.cells, D.leaf, scalarEq, eqCells, isB, Option.map, List.map, List.length, List.all, List.append, List.take, List.drop, List.cons_append, List.nil_append, List.append_nil, Option.isSome, List.getElem?_cons_zero, List.getElem?_cons_succ, if_true, if_false, true_and, and_true, Bool.not_true, Bool.not_false, Bool.true_or, Bool.false_or, Bool.or_true, Bool.or_false, Bool.false_eq_true, ↓reduceIte, Nat.reduceAdd, Nat.reduceMul, Nat.reduceEqDiff, Nat.reduceBEq, Nat.reduceSub, Nat.zero_add, Nat.reduceLeDiff, Nat.reduceGT, Nat.reduceLT, Nat.reduceBNe, okLog_f, reduceCtorEq, or_self, or_false, false_or, or_true, true_or, and_self, and_false, false_and, not_true_eq_false, not_false_eq_true, ne_eq, Bool.and_true, Bool.true_and, Bool.and_false, Bool.false_and, decide_eq_true_eq, decide_true, decide_false, Int.reduceBEq, Int.reduceBNe, Int.reduceLT, Int.reduceLE, Int.reduceAdd, Int.reduceSub, Int.reduceMul, Int.reduceNeg, Int.reduceEq, Int.toNat_zero, Int.reduceToNat, Int.zero_lt_one, Nat.zero_le, Int.le_refl, beq_self_eq_true, bne_self_eq_false, cast_lit, fits, wrap_in, Int.toNat_natCast, Int.natCast_nonneg]
      refine aw_ret ?_
      rw [hl]
      refine end_to [] [] (by first | exact .inl rfl | exact .inr rfl) rfl (by kernel_rfl) (by kernel_rfl) (by kernel_rfl) ?_ ?_ <;> repeat' (first | exact trivial | exact vr_val _ | exact vr_list _ | exact vr_at _ | exact vr_nil | exact vr_cap0 | exact vr_vec _ _ _ _ rfl | exact vr_own _ _ _ _ _ rfl | exact vr_ptr _ _ _ rfl | exact vr_nilv _ _ _ rfl | exact vr_bot _ | exact vr_cap0v _ _ _ rfl | exact vr_cap0l | apply vr_agg | apply vr_tup | apply vr_fn | refine vr_yld _ _ _ rfl ?_ | exact Ren.bot _ | exact Ren.val _ | exact Ren.list _ | exact Ren.at_ _ | exact Ren.ptr _ _ _ rfl | refine Ren.yld _ _ _ _ _ rfl rfl (RenL.get ?_).2 (fun _ _ _ h => h) | refine vr_fl _ _ _ _ _ (by decide) rfl ?_ ?_ ?_ ?_ | refine And.intro ⟨_, rfl, .inl ⟨_, rfl, by decide, ?_⟩⟩ ?_ | refine And.intro ⟨_, rfl, _, rfl, by decide, ?_⟩ ?_ | refine And.intro ⟨_, rfl, .inr ⟨rfl, rfl, of_decide_eq_true (by kernel_rfl)⟩⟩ ?_ | apply And.intro | exact vrl_flat _ (by first | exact icells_in _ | exact rcells_in _ | exact scells_in _ | exact bcells_in _ | assumption) | fail)
def lowsL (b : Bx) : List Int := b.map Prod.fst
theorem lows_take (b : Bx) (k : Nat) (h : k < b.length) : icells ((lowsL b).take (k + 1)) = icells ((lowsL b).take k) ++ [.val (.int .i64 (lo b k))] := by
  have h' : k < (lowsL b).length := by simpa [lowsL] using h
  rw [← List.take_append_getElem h']
  simp [icells, lowsL, lo, h]
set_option maxRecDepth 100000 in
set_option maxHeartbeats 2000000 in
theorem corner_ac (b : Bx) (hb : b.length ≤ 1000) : AC Try.prog 41 [.list (sps b)] [] [] (.list (ints (lowsL b))) := by
  refine kspans_corner.ac (n0 := 0) (by simp) ⟨.list _, trivial⟩ trivial rfl ?_
  unfold cspans_corner
  refine aw_seq (aw_region ?_)
  simp (config := {maxSteps := 10000000}) (disch := first | exact okYes (by kernel_rfl) | omega) only [ARun_nil, ARun_none, ARun_some, ARun_skip, AOpRun, AGo_f, AGo_ok, AG_tt, AG_ff, AG_tf, AG_ft, AG_un, aexec, run1, asI, elems, base, opt1, fillD, splice, abin, ash, isSh, foldI, mn2, mx2, ↓eget_h, eget_c, eget_n, eput_c, eput_n, putO, ↓hget_h, hget_c, hget_n, hput_c, hput_n, hdel_c, hdel_n, hups, cond_true, cond_false,  ups, St.F, St.app, FSt.ev, dropE_c, dropE_n, inL_c, inL_n, envOf, thenQ, blockQ, D.isBot, D.isAgg, D.cells, D.leaf, scalarEq, eqCells, isB, Option.map, List.map, List.length, List.all, List.append, List.take, List.drop, List.cons_append, List.nil_append, List.append_nil, Option.isSome, List.getElem?_cons_zero, List.getElem?_cons_succ, if_true, if_false, true_and, and_true, Bool.not_true, Bool.not_false, Bool.true_or, Bool.false_or, Bool.or_true, Bool.or_false, Bool.false_eq_true, ↓reduceIte, Nat.reduceAdd, Nat.reduceMul, Nat.reduceEqDiff, Nat.reduceBEq, Nat.reduceSub, Nat.zero_add, Nat.reduceLeDiff, Nat.reduceGT, Nat.reduceLT, Nat.reduceBNe, okLog_f, reduceCtorEq, or_self, or_false, false_or, or_true, true_or, and_self, and_false, false_and, not_true_eq_false, not_false_eq_true, ne_eq, Bool.and_true, Bool.true_and, Bool.and_false, Bool.false_and, decide_eq_true_eq, decide_true, decide_false, Int.reduceBEq, Int.reduceBNe, Int.reduceLT, Int.reduceLE, Int.reduceAdd, Int.reduceSub, Int.reduceMul, Int.reduceNeg, Int.reduceEq, Int.toNat_zero, Int.reduceToNat, Int.zero_lt_one, Nat.zero_le, Int.le_refl, beq_self_eq_true, bne_self_eq_false, cast_lit, fits, wrap_in, Int.toNat_natCast, Int.natCast_nonneg]
  refine aw_seq (aw_seq (aw_region ?_))
  simp (config := {maxSteps := 10000000}) (disch := first | exact okYes (by kernel_rfl) | omega) only [ARun_nil, ARun_none, ARun_some, ARun_skip, AOpRun, AGo_f, AGo_ok, AG_tt, AG_ff, AG_tf, AG_ft, AG_un, aexec, run1, asI, elems, base, opt1, fillD, splice, abin, ash, isSh, foldI, mn2, mx2, ↓eget_h, eget_c, eget_n, eput_c, eput_n, putO, ↓hget_h, hget_c, hget_n, hput_c, hput_n, hdel_c, hdel_n, hups, cond_true, cond_false,  ups, St.F, St.app, FSt.ev, dropE_c, dropE_n, inL_c, inL_n, envOf, thenQ, blockQ, D.isBot, D.isAgg, D.cells, D.leaf, scalarEq, eqCells, isB, Option.map, List.map, List.length, List.all, List.append, List.take, List.drop, List.cons_append, List.nil_append, List.append_nil, Option.isSome, List.getElem?_cons_zero, List.getElem?_cons_succ, if_true, if_false, true_and, and_true, Bool.not_true, Bool.not_false, Bool.true_or, Bool.false_or, Bool.or_true, Bool.or_false, Bool.false_eq_true, ↓reduceIte, Nat.reduceAdd, Nat.reduceMul, Nat.reduceEqDiff, Nat.reduceBEq, Nat.reduceSub, Nat.zero_add, Nat.reduceLeDiff, Nat.reduceGT, Nat.reduceLT, Nat.reduceBNe, okLog_f, reduceCtorEq, or_self, or_false, false_or, or_true, true_or, and_self, and_false, false_and, not_true_eq_false, not_false_eq_true, ne_eq, Bool.and_true, Bool.true_and, Bool.and_false, Bool.false_and, decide_eq_true_eq, decide_true, decide_false, Int.reduceBEq, Int.reduceBNe, Int.reduceLT, Int.reduceLE, Int.reduceAdd, Int.reduceSub, Int.reduceMul, Int.reduceNeg, Int.reduceEq, Int.toNat_zero, Int.reduceToNat, Int.zero_lt_one, Nat.zero_le, Int.le_refl, beq_self_eq_true, bne_self_eq_false, cast_lit, fits, wrap_in, Int.toNat_natCast, Int.natCast_nonneg, sps_len]
  refine aw_block (aw_loop (fun k : Nat => ⟨[(5, .list (sps b)), (6, .val (.int .i64 b.length)), (7, .val (.int .i64 k)), (2, .vec 40 ((lowsL b).take k).length 1)], [(40, icells ((lowsL b).take k))], 100⟩) (fun k => k ≤ b.length) (fun k => b.length - k) ⟨0, by omega, ?_⟩ ?_)
  · refine wk_to [] [(40, 40)] (by kernel_rfl) (by kernel_rfl) (by kernel_rfl) (by kernel_rfl) (by kernel_rfl) ?_ ?_ <;> repeat' (first | exact trivial | exact vr_val _ | exact vr_list _ | exact vr_at _ | exact vr_nil | exact vr_cap0 | exact vr_vec _ _ _ _ rfl | exact vr_own _ _ _ _ _ rfl | exact vr_ptr _ _ _ rfl | exact vr_nilv _ _ _ rfl | exact vr_bot _ | exact vr_cap0v _ _ _ rfl | exact vr_cap0l | apply vr_agg | apply vr_tup | apply vr_fn | refine vr_yld _ _ _ rfl ?_ | exact Ren.bot _ | exact Ren.val _ | exact Ren.list _ | exact Ren.at_ _ | exact Ren.ptr _ _ _ rfl | refine Ren.yld _ _ _ _ _ rfl rfl (RenL.get ?_).2 (fun _ _ _ h => h) | refine vr_fl _ _ _ _ _ (by decide) rfl ?_ ?_ ?_ ?_ | refine And.intro ⟨_, rfl, .inl ⟨_, rfl, by decide, ?_⟩⟩ ?_ | refine And.intro ⟨_, rfl, _, rfl, by decide, ?_⟩ ?_ | refine And.intro ⟨_, rfl, .inr ⟨rfl, rfl, of_decide_eq_true (by kernel_rfl)⟩⟩ ?_ | apply And.intro | exact vrl_flat _ (by first | exact icells_in _ | exact rcells_in _ | exact scells_in _ | exact bcells_in _ | assumption) | fail)
  · intro k hk
    refine aw_seq (aw_region ?_)
    simp (config := {maxSteps := 10000000}) (disch := first | exact okYes (by kernel_rfl) | omega) only [ARun_nil, ARun_none, ARun_some, ARun_skip, AOpRun, AGo_f, AGo_ok, AG_tt, AG_ff, AG_tf, AG_ft, AG_un, aexec, run1, asI, elems, base, opt1, fillD, splice, abin, ash, isSh, foldI, mn2, mx2, ↓eget_h, eget_c, eget_n, eput_c, eput_n, putO, ↓hget_h, hget_c, hget_n, hput_c, hput_n, hdel_c, hdel_n, hups, cond_true, cond_false,  ups, St.F, St.app, FSt.ev, dropE_c, dropE_n, inL_c, inL_n, envOf, thenQ, blockQ, D.isBot, D.isAgg, D.cells, D.leaf, scalarEq, eqCells, isB, Option.map, List.map, List.length, List.all, List.append, List.take, List.drop, List.cons_append, List.nil_append, List.append_nil, Option.isSome, List.getElem?_cons_zero, List.getElem?_cons_succ, if_true, if_false, true_and, and_true, Bool.not_true, Bool.not_false, Bool.true_or, Bool.false_or, Bool.or_true, Bool.or_false, Bool.false_eq_true, ↓reduceIte, Nat.reduceAdd, Nat.reduceMul, Nat.reduceEqDiff, Nat.reduceBEq, Nat.reduceSub, Nat.zero_add, Nat.reduceLeDiff, Nat.reduceGT, Nat.reduceLT, Nat.reduceBNe, okLog_f, reduceCtorEq, or_self, or_false, false_or, or_true, true_or, and_self, and_false, false_and, not_true_eq_false, not_false_eq_true, ne_eq, Bool.and_true, Bool.true_and, Bool.and_false, Bool.false_and, decide_eq_true_eq, decide_true, decide_false, Int.reduceBEq, Int.reduceBNe, Int.reduceLT, Int.reduceLE, Int.reduceAdd, Int.reduceSub, Int.reduceMul, Int.reduceNeg, Int.reduceEq, Int.toNat_zero, Int.reduceToNat, Int.zero_lt_one, Nat.zero_le, Int.le_refl, beq_self_eq_true, bne_self_eq_false, cast_lit, fits, wrap_in, Int.toNat_natCast, Int.natCast_nonneg]
    refine aw_seq (aw_cond rfl (fun hc => ?_) (fun hc => ?_))
    · have hk' : k < b.length := by have := of_decide_eq_true hc; omega
      have hlt := lows_take b k hk'
      have hlen : ((lowsL b).take (k + 1)).length = ((lowsL b).take k).length + 1 := by simp [lowsL]; omega
      have hll : ((lowsL b).take k).length ≤ 1000 := by simp [lowsL]; omega
      have hsg := sps_gd b k hk'
      generalize (lowsL b).take k = t at *
      have hic := icells_len t
      have hot : (icells t).take t.length = icells t := by rw [← hic, List.take_length]
      refine aw_skip (aw_seq (aw_block (aw_seq (aw_region ?_))))
      simp (config := {maxSteps := 10000000}) (disch := first | exact okYes (by kernel_rfl) | omega) only [ARun_nil, ARun_none, ARun_some, ARun_skip, AOpRun, AGo_f, AGo_ok, AG_tt, AG_ff, AG_tf, AG_ft, AG_un, aexec, run1, asI, elems, base, opt1, fillD, splice, abin, ash, isSh, foldI, mn2, mx2, ↓eget_h, eget_c, eget_n, eput_c, eput_n, putO, ↓hget_h, hget_c, hget_n, hput_c, hput_n, hdel_c, hdel_n, hups, cond_true, cond_false,  ups, St.F, St.app, FSt.ev, dropE_c, dropE_n, inL_c, inL_n, envOf, thenQ, blockQ, D.isBot, D.isAgg, D.cells, D.leaf, scalarEq, eqCells, isB, Option.map, List.map, List.length, List.all, List.append, List.take, List.drop, List.cons_append, List.nil_append, List.append_nil, Option.isSome, List.getElem?_cons_zero, List.getElem?_cons_succ, if_true, if_false, true_and, and_true, Bool.not_true, Bool.not_false, Bool.true_or, Bool.false_or, Bool.or_true, Bool.or_false, Bool.false_eq_true, ↓reduceIte, Nat.reduceAdd, Nat.reduceMul, Nat.reduceEqDiff, Nat.reduceBEq, Nat.reduceSub, Nat.zero_add, Nat.reduceLeDiff, Nat.reduceGT, Nat.reduceLT, Nat.reduceBNe, okLog_f, reduceCtorEq, or_self, or_false, false_or, or_true, true_or, and_self, and_false, false_and, not_true_eq_false, not_false_eq_true, ne_eq, Bool.and_true, Bool.true_and, Bool.and_false, Bool.false_and, decide_eq_true_eq, decide_true, decide_false, Int.reduceBEq, Int.reduceBNe, Int.reduceLT, Int.reduceLE, Int.reduceAdd, Int.reduceSub, Int.reduceMul, Int.reduceNeg, Int.reduceEq, Int.toNat_zero, Int.reduceToNat, Int.zero_lt_one, Nat.zero_le, Int.le_refl, beq_self_eq_true, bne_self_eq_false, cast_lit, fits, wrap_in, Int.toNat_natCast, Int.natCast_nonneg, sps_all, hsg]
      refine aw_region ?_
      simp (config := {maxSteps := 10000000}) (disch := first | exact okYes (by kernel_rfl) | omega) only [ARun_nil, ARun_none, ARun_some, ARun_skip, AOpRun, AGo_f, AGo_ok, AG_tt, AG_ff, AG_tf, AG_ft, AG_un, aexec, run1, asI, elems, base, opt1, fillD, splice, abin, ash, isSh, foldI, mn2, mx2, ↓eget_h, eget_c, eget_n, eput_c, eput_n, putO, ↓hget_h, hget_c, hget_n, hput_c, hput_n, hdel_c, hdel_n, hups, cond_true, cond_false,  ups, St.F, St.app, FSt.ev, dropE_c, dropE_n, inL_c, inL_n, envOf, thenQ, blockQ, D.isBot, D.isAgg, D.cells, D.leaf, scalarEq, eqCells, isB, Option.map, List.map, List.length, List.all, List.append, List.take, List.drop, List.cons_append, List.nil_append, List.append_nil, Option.isSome, List.getElem?_cons_zero, List.getElem?_cons_succ, if_true, if_false, true_and, and_true, Bool.not_true, Bool.not_false, Bool.true_or, Bool.false_or, Bool.or_true, Bool.or_false, Bool.false_eq_true, ↓reduceIte, Nat.reduceAdd, Nat.reduceMul, Nat.reduceEqDiff, Nat.reduceBEq, Nat.reduceSub, Nat.zero_add, Nat.reduceLeDiff, Nat.reduceGT, Nat.reduceLT, Nat.reduceBNe, okLog_f, reduceCtorEq, or_self, or_false, false_or, or_true, true_or, and_self, and_false, false_and, not_true_eq_false, not_false_eq_true, ne_eq, Bool.and_true, Bool.true_and, Bool.and_false, Bool.false_and, decide_eq_true_eq, decide_true, decide_false, Int.reduceBEq, Int.reduceBNe, Int.reduceLT, Int.reduceLE, Int.reduceAdd, Int.reduceSub, Int.reduceMul, Int.reduceNeg, Int.reduceEq, Int.toNat_zero, Int.reduceToNat, Int.zero_lt_one, Nat.zero_le, Int.le_refl, beq_self_eq_true, bne_self_eq_false, cast_lit, fits, wrap_in, Int.toNat_natCast, Int.natCast_nonneg, Nat.mul_one, hic, hot, Nat.le_refl, icells_leaf]
      refine ago_if (by omega) ?_
      simp (config := {maxSteps := 10000000}) (disch := first | exact okYes (by kernel_rfl) | omega) only [ARun_nil, ARun_none, ARun_some, ARun_skip, AOpRun, AGo_f, AGo_ok, AG_tt, AG_ff, AG_tf, AG_ft, AG_un, aexec, run1, asI, elems, base, opt1, fillD, splice, abin, ash, isSh, foldI, mn2, mx2, ↓eget_h, eget_c, eget_n, eput_c, eput_n, putO, ↓hget_h, hget_c, hget_n, hput_c, hput_n, hdel_c, hdel_n, hups, cond_true, cond_false,  ups, St.F, St.app, FSt.ev, dropE_c, dropE_n, inL_c, inL_n, envOf, thenQ, blockQ, D.isBot, D.isAgg, D.cells, D.leaf, scalarEq, eqCells, isB, Option.map, List.map, List.length, List.all, List.append, List.take, List.drop, List.cons_append, List.nil_append, List.append_nil, Option.isSome, List.getElem?_cons_zero, List.getElem?_cons_succ, if_true, if_false, true_and, and_true, Bool.not_true, Bool.not_false, Bool.true_or, Bool.false_or, Bool.or_true, Bool.or_false, Bool.false_eq_true, ↓reduceIte, Nat.reduceAdd, Nat.reduceMul, Nat.reduceEqDiff, Nat.reduceBEq, Nat.reduceSub, Nat.zero_add, Nat.reduceLeDiff, Nat.reduceGT, Nat.reduceLT, Nat.reduceBNe, okLog_f, reduceCtorEq, or_self, or_false, false_or, or_true, true_or, and_self, and_false, false_and, not_true_eq_false, not_false_eq_true, ne_eq, Bool.and_true, Bool.true_and, Bool.and_false, Bool.false_and, decide_eq_true_eq, decide_true, decide_false, Int.reduceBEq, Int.reduceBNe, Int.reduceLT, Int.reduceLE, Int.reduceAdd, Int.reduceSub, Int.reduceMul, Int.reduceNeg, Int.reduceEq, Int.toNat_zero, Int.reduceToNat, Int.zero_lt_one, Nat.zero_le, Int.le_refl, beq_self_eq_true, bne_self_eq_false, cast_lit, fits, wrap_in, Int.toNat_natCast, Int.natCast_nonneg]
      refine aw_region ?_
      simp (config := {maxSteps := 10000000}) (disch := first | exact okYes (by kernel_rfl) | omega) only [ARun_nil, ARun_none, ARun_some, ARun_skip, AOpRun, AGo_f, AGo_ok, AG_tt, AG_ff, AG_tf, AG_ft, AG_un, aexec, run1, asI, elems, base, opt1, fillD, splice, abin, ash, isSh, foldI, mn2, mx2, ↓eget_h, eget_c, eget_n, eput_c, eput_n, putO, ↓hget_h, hget_c, hget_n, hput_c, hput_n, hdel_c, hdel_n, hups, cond_true, cond_false,  ups, St.F, St.app, FSt.ev, dropE_c, dropE_n, inL_c, inL_n, envOf, thenQ, blockQ, D.isBot, D.isAgg, D.cells, D.leaf, scalarEq, eqCells, isB, Option.map, List.map, List.length, List.all, List.append, List.take, List.drop, List.cons_append, List.nil_append, List.append_nil, Option.isSome, List.getElem?_cons_zero, List.getElem?_cons_succ, if_true, if_false, true_and, and_true, Bool.not_true, Bool.not_false, Bool.true_or, Bool.false_or, Bool.or_true, Bool.or_false, Bool.false_eq_true, ↓reduceIte, Nat.reduceAdd, Nat.reduceMul, Nat.reduceEqDiff, Nat.reduceBEq, Nat.reduceSub, Nat.zero_add, Nat.reduceLeDiff, Nat.reduceGT, Nat.reduceLT, Nat.reduceBNe, okLog_f, reduceCtorEq, or_self, or_false, false_or, or_true, true_or, and_self, and_false, false_and, not_true_eq_false, not_false_eq_true, ne_eq, Bool.and_true, Bool.true_and, Bool.and_false, Bool.false_and, decide_eq_true_eq, decide_true, decide_false, Int.reduceBEq, Int.reduceBNe, Int.reduceLT, Int.reduceLE, Int.reduceAdd, Int.reduceSub, Int.reduceMul, Int.reduceNeg, Int.reduceEq, Int.toNat_zero, Int.reduceToNat, Int.zero_lt_one, Nat.zero_le, Int.le_refl, beq_self_eq_true, bne_self_eq_false, cast_lit, fits, wrap_in, Int.toNat_natCast, Int.natCast_nonneg]
      refine ⟨k + 1, hk', by omega, ?_⟩
      rw [hlt, hlen]
      have hcin : ∀ y ∈ icells t ++ [.val (.int .i64 (lo b k))], In (fun _ => False) y := by
        intro y hy
        rcases List.mem_append.1 hy with h | h
        · exact icells_in _ _ h
        · rw [List.mem_singleton.1 h]; exact .val _
      refine wk_to [] [(40, 172)] (by kernel_rfl) (by kernel_rfl) (by kernel_rfl) (by kernel_rfl) (by kernel_rfl) ?_ ?_ <;> repeat' (first | exact trivial | exact vr_val _ | exact vr_list _ | exact vr_at _ | exact vr_nil | exact vr_cap0 | exact vr_vec _ _ _ _ rfl | exact vr_own _ _ _ _ _ rfl | exact vr_ptr _ _ _ rfl | exact vr_nilv _ _ _ rfl | exact vr_bot _ | exact vr_cap0v _ _ _ rfl | exact vr_cap0l | apply vr_agg | apply vr_tup | apply vr_fn | refine vr_yld _ _ _ rfl ?_ | exact Ren.bot _ | exact Ren.val _ | exact Ren.list _ | exact Ren.at_ _ | exact Ren.ptr _ _ _ rfl | refine Ren.yld _ _ _ _ _ rfl rfl (RenL.get ?_).2 (fun _ _ _ h => h) | refine vr_fl _ _ _ _ _ (by decide) rfl ?_ ?_ ?_ ?_ | refine And.intro ⟨_, rfl, .inl ⟨_, rfl, by decide, ?_⟩⟩ ?_ | refine And.intro ⟨_, rfl, _, rfl, by decide, ?_⟩ ?_ | refine And.intro ⟨_, rfl, .inr ⟨rfl, rfl, of_decide_eq_true (by kernel_rfl)⟩⟩ ?_ | apply And.intro | exact vrl_flat _ (by first | exact icells_in _ | exact rcells_in _ | exact scells_in _ | exact bcells_in _ | assumption) | fail)
    · have hk' : k = b.length := by have := of_decide_eq_false hc; omega
      subst hk'
      have hall : (lowsL b).take b.length = lowsL b := List.take_of_length_le (by simp [lowsL])
      refine aw_exit ?_
      simp only [thenQ, blockQ, if_true]
      refine aw_seq (aw_region ?_)
      simp (config := {maxSteps := 10000000}) (disch := first | exact okYes (by kernel_rfl) | omega) only [ARun_nil, ARun_none, ARun_some, ARun_skip, AOpRun, AGo_f, AGo_ok, AG_tt, AG_ff, AG_tf, AG_ft, AG_un, aexec, run1, asI, elems, base, opt1, fillD, splice, abin, ash, isSh, foldI, mn2, mx2, ↓eget_h, eget_c, eget_n, eput_c, eput_n, putO, ↓hget_h, hget_c, hget_n, hput_c, hput_n, hdel_c, hdel_n, hups, cond_true, cond_false,  ups, St.F, St.app, FSt.ev, dropE_c, dropE_n, inL_c, inL_n, envOf, thenQ, blockQ, D.isBot, D.isAgg, D.cells, D.leaf, scalarEq, eqCells, isB, Option.map, List.map, List.length, List.all, List.append, List.take, List.drop, List.cons_append, List.nil_append, List.append_nil, Option.isSome, List.getElem?_cons_zero, List.getElem?_cons_succ, if_true, if_false, true_and, and_true, Bool.not_true, Bool.not_false, Bool.true_or, Bool.false_or, Bool.or_true, Bool.or_false, Bool.false_eq_true, ↓reduceIte, Nat.reduceAdd, Nat.reduceMul, Nat.reduceEqDiff, Nat.reduceBEq, Nat.reduceSub, Nat.zero_add, Nat.reduceLeDiff, Nat.reduceGT, Nat.reduceLT, Nat.reduceBNe, okLog_f, reduceCtorEq, or_self, or_false, false_or, or_true, true_or, and_self, and_false, false_and, not_true_eq_false, not_false_eq_true, ne_eq, Bool.and_true, Bool.true_and, Bool.and_false, Bool.false_and, decide_eq_true_eq, decide_true, decide_false, Int.reduceBEq, Int.reduceBNe, Int.reduceLT, Int.reduceLE, Int.reduceAdd, Int.reduceSub, Int.reduceMul, Int.reduceNeg, Int.reduceEq, Int.toNat_zero, Int.reduceToNat, Int.zero_lt_one, Nat.zero_le, Int.le_refl, beq_self_eq_true, bne_self_eq_false, cast_lit, fits, wrap_in, Int.toNat_natCast, Int.natCast_nonneg, hall]
      refine aw_ret ?_
      refine end_to [40] [] (by first | exact .inl rfl | exact .inr rfl) rfl (by kernel_rfl) (by kernel_rfl) (by kernel_rfl) ?_ ?_ <;> repeat' (first | exact trivial | exact vr_val _ | exact vr_list _ | exact vr_at _ | exact vr_nil | exact vr_cap0 | exact vr_vec _ _ _ _ rfl | exact vr_own _ _ _ _ _ rfl | exact vr_ptr _ _ _ rfl | exact vr_nilv _ _ _ rfl | exact vr_bot _ | exact vr_cap0v _ _ _ rfl | exact vr_cap0l | apply vr_agg | apply vr_tup | apply vr_fn | refine vr_yld _ _ _ rfl ?_ | exact Ren.bot _ | exact Ren.val _ | exact Ren.list _ | exact Ren.at_ _ | exact Ren.ptr _ _ _ rfl | refine Ren.yld _ _ _ _ _ rfl rfl (RenL.get ?_).2 (fun _ _ _ h => h) | refine vr_fl _ _ _ _ _ (by decide) rfl ?_ ?_ ?_ ?_ | refine And.intro ⟨_, rfl, .inl ⟨_, rfl, by decide, ?_⟩⟩ ?_ | refine And.intro ⟨_, rfl, _, rfl, by decide, ?_⟩ ?_ | refine And.intro ⟨_, rfl, .inr ⟨rfl, rfl, of_decide_eq_true (by kernel_rfl)⟩⟩ ?_ | apply And.intro | exact vrl_flat _ (by first | exact icells_in _ | exact rcells_in _ | exact scells_in _ | exact bcells_in _ | assumption) | fail)
      all_goals first | exact ints_one _ | exact ints_len _ | exact ints_flat _ | exact icells_in _
end Go.Proofs.Ytgibbaadjbohdaa
/- Covers, the reference's. No conditions. -/
namespace Go.Proofs.Ytgibbaadjbohdaa
open Go.RowKit Lift

def fst1 (o : Option (List Int)) (r : Bx) : Option (List Int) :=
  match o with
  | none => some (lowsL r)
  | some f => if lex (lowsL r) f < 0 then some (lowsL r) else some f
def fstO (R : List Bx) : Option (List Int) := R.foldl fst1 none
def optD : Option (List Int) → D
  | none => .val (.slice none 0 0)
  | some f => .list (ints f)
def covE (a : Bx) (l : List Bx) : Int := if l.length > 20 then 2 else if boxE a = 0 then chk a.length l else 10
def covO (a : Bx) (l : List Bx) : Option (List Int) := if covE a l = 0 then fstO (leftR l.reverse a) else none
def covB (a : Bx) (l : List Bx) : Bool := if covE a l = 0 then decide (((leftR l.reverse a).length : Int) = 0) else false
theorem fst_take (R : List Bx) (i : Nat) (h : i < R.length) : fstO (R.take (i + 1)) = fst1 (fstO (R.take i)) (R[i]?.getD []) := by
  unfold fstO
  rw [← List.take_append_getElem h, List.foldl_append]
  simp [h]
theorem fst_len {n : Nat} : ∀ (R : List Bx) (o : Option (List Int)), (∀ f, o = some f → f.length = n) → (∀ b ∈ R, b.length = n) → ∀ f, R.foldl fst1 o = some f → f.length = n
  | [], o, ho, _, f, hf => ho f hf
  | b :: R, o, ho, hR, f, hf => by
    refine fst_len R (fst1 o b) (fun g hg => ?_) (fun x hx => hR x (List.mem_cons_of_mem _ hx)) f hf
    have hb := hR b (List.mem_cons_self ..)
    have hl : (lowsL b).length = n := by simpa [lowsL] using hb
    cases o with
    | none => simp only [fst1, Option.some.injEq] at hg; rw [← hg]; exact hl
    | some q =>
      simp only [fst1] at hg
      split at hg
      · simp only [Option.some.injEq] at hg; rw [← hg]; exact hl
      · simp only [Option.some.injEq] at hg; rw [← hg]; exact ho q rfl
theorem fst_some (R : List Bx) (i : Nat) (h0 : 0 < i) (h : i ≤ R.length) : ∃ f, fstO (R.take i) = some f := by
  obtain ⟨k, rfl⟩ := Nat.exists_eq_succ_of_ne_zero (by omega : i ≠ 0)
  rw [Nat.succ_eq_add_one, fst_take R k (by omega)]
  cases fstO (R.take k) with
  | none => exact ⟨_, rfl⟩
  | some f => simp only [fst1]; split <;> exact ⟨_, rfl⟩
end Go.Proofs.Ytgibbaadjbohdaa
/- Plain arithmetic: floor division by Go's '/' and '%'. -/
namespace Go.Proofs.Ytgibbaadjbohdaa

theorem floor_eq (a b : Int) (hb : 1 ≤ b) : a / b = if a.tmod b < 0 then a.tdiv b - 1 else a.tdiv b := by
  have e1 := Int.mul_tdiv_add_tmod a b
  have e5 := Int.tmod_lt_of_pos a (show 0 < b by omega)
  have e6 := Int.lt_tmod_of_pos a (show 0 < b by omega)
  split
  · rename_i h
    exact ((Int.ediv_emod_unique (a := a) (b := b) (r := a.tmod b + b) (q := a.tdiv b - 1) (by omega)).2 ⟨by rw [Int.mul_sub]; omega, by omega, by omega⟩).1
  · rename_i h
    exact ((Int.ediv_emod_unique (a := a) (b := b) (r := a.tmod b) (q := a.tdiv b) (by omega)).2 ⟨by omega, by omega, by omega⟩).1
theorem tdiv_bd (a b M : Int) (h1 : -M ≤ a) (h2 : a ≤ M) : -M ≤ a.tdiv b ∧ a.tdiv b ≤ M := by
  have := Int.natAbs_tdiv_le_natAbs a b
  omega
theorem ediv_bd (a b M : Int) (hM : 0 ≤ M) (hb : 1 ≤ b) (h1 : -M ≤ a) (h2 : a ≤ M) : -M ≤ a / b ∧ a / b ≤ M := by
  have e2 := Int.mul_ediv_add_emod a b
  have e3 := Int.emod_nonneg a (show b ≠ 0 by omega)
  constructor
  · refine (Int.le_ediv_iff_mul_le (by omega)).2 ?_
    have : -M * b ≤ -M * 1 := Int.mul_le_mul_of_nonpos_left (by omega) hb
    omega
  · refine Int.le_trans (Int.ediv_le_ediv (by omega) h2) ?_
    exact Int.ediv_le_self _ hM
end Go.Proofs.Ytgibbaadjbohdaa
/- What slices hold, said of lists: plain predicates on a world, kept by whatever leaves old blocks alone. -/
namespace Go.Proofs.Ytgibbaadjbohdaa
open Go.RowKit

def Ints (w : World) (A : Option Addr) (l : List Int) : Prop :=
  0 < l.length → ∃ b off, A = some ⟨b, off, none⟩ ∧ b < w.heap.size ∧ ∀ k, k < l.length → w.cell? ⟨b, off + k, none⟩ = some (.int .i64 (l[k]?.getD 0))
def Sps (w : World) (A : Option Addr) (l : List (Int × Int)) : Prop :=
  0 < l.length → ∃ b off, A = some ⟨b, off, none⟩ ∧ b < w.heap.size ∧ ∀ k, k < l.length →
    w.cell? ⟨b, off + k * 2, none⟩ = some (.int .i64 (l[k]?.getD (0, 0)).1) ∧ w.cell? ⟨b, off + k * 2 + 1, none⟩ = some (.int .i64 (l[k]?.getD (0, 0)).2)
def Mat (w : World) (A : Option Addr) (l : List (List Int)) : Prop :=
  0 < l.length → ∃ b off, A = some ⟨b, off, none⟩ ∧ b < w.heap.size ∧ ∀ k, k < l.length → ∃ B c, w.cell? ⟨b, off + k, none⟩ = some (.slice B (l[k]?.getD []).length c) ∧ Ints w B (l[k]?.getD [])
def Bxs (w : World) (A : Option Addr) (l : List (List (Int × Int))) : Prop :=
  0 < l.length → ∃ b off, A = some ⟨b, off, none⟩ ∧ b < w.heap.size ∧ ∀ k, k < l.length → ∃ B c, w.cell? ⟨b, off + k, none⟩ = some (.slice B (l[k]?.getD []).length c) ∧ Sps w B (l[k]?.getD [])

section
variable {w w' : World} {A : Option Addr}
theorem Ints.below {l : List Int} (h : Ints w A l) (hb : Below w.heap.size w w') : Ints w' A l := fun hl => by
  obtain ⟨b, off, e, hlt, hc⟩ := h hl
  exact ⟨b, off, e, Nat.lt_of_lt_of_le hlt hb.size, fun k hk => (hb.cell (p := ⟨b, off + k, none⟩) hlt).trans (hc k hk)⟩
theorem Sps.below {l : List (Int × Int)} (h : Sps w A l) (hb : Below w.heap.size w w') : Sps w' A l := fun hl => by
  obtain ⟨b, off, e, hlt, hc⟩ := h hl
  exact ⟨b, off, e, Nat.lt_of_lt_of_le hlt hb.size, fun k hk => ⟨(hb.cell (p := ⟨b, off + k * 2, none⟩) hlt).trans (hc k hk).1, (hb.cell (p := ⟨b, off + k * 2 + 1, none⟩) hlt).trans (hc k hk).2⟩⟩
theorem Mat.below {l : List (List Int)} (h : Mat w A l) (hb : Below w.heap.size w w') : Mat w' A l := fun hl => by
  obtain ⟨b, off, e, hlt, hc⟩ := h hl
  refine ⟨b, off, e, Nat.lt_of_lt_of_le hlt hb.size, fun k hk => ?_⟩
  obtain ⟨B, c, h1, h2⟩ := hc k hk
  exact ⟨B, c, (hb.cell (p := ⟨b, off + k, none⟩) hlt).trans h1, h2.below hb⟩
theorem Bxs.below {l : List (List (Int × Int))} (h : Bxs w A l) (hb : Below w.heap.size w w') : Bxs w' A l := fun hl => by
  obtain ⟨b, off, e, hlt, hc⟩ := h hl
  refine ⟨b, off, e, Nat.lt_of_lt_of_le hlt hb.size, fun k hk => ?_⟩
  obtain ⟨B, c, h1, h2⟩ := hc k hk
  exact ⟨B, c, (hb.cell (p := ⟨b, off + k, none⟩) hlt).trans h1, h2.below hb⟩
end
theorem Below.drewN' {B : Nat} {a w : World} (h : Below B a w) (n : Nat) : Below B a (w.drewN n) := ⟨h.os, h.tape, h.output, h.size, h.block⟩
end Go.Proofs.Ytgibbaadjbohdaa
/- The contracts of the small functions of package spans (floor, within, valid, spanned, Check ..): what each returns; old memory stays. -/
namespace Go.Proofs.Ytgibbaadjbohdaa
open Go.RowKit

def wB (a b c : Int) : Bool := decide (b ≤ a) && decide (a ≤ c)
theorem within_any (a b c : Int) (w : World) :
    Calls Try.prog 74 #[.int .i64 a, .int .i64 b, .int .i64 c] w fun e w' => e = .returned (.bool (wB a b c)) ∧ w' = w := by
  by_cases h1 : b ≤ a <;> by_cases h2 : a ≤ c
  all_goals
    go_enter Try.func74, Try.ntmps74
    go_wp2
    go_ret
    simp [wB, h1, h2]
def vB (x : Int × Int) : Bool := wB x.1 (-1000000) x.2 && decide (x.2 ≤ 1000000)
set_option maxHeartbeats 400000 in
theorem valid_any (x : Int × Int) (w : World) :
    Calls Try.prog 82 #[.agg #[.int .i64 x.1, .int .i64 x.2]] w fun e w' => e = .returned (.bool (vB x)) ∧ Below w.heap.size w w' := by
  obtain ⟨lo, hi⟩ := x
  show Calls Try.prog 82 #[.agg #[.int .i64 lo, .int .i64 hi]] w _
  have key : ∀ b : Bool, wB lo (-1000000) hi = b → Calls Try.prog 82 #[.agg #[.int .i64 lo, .int .i64 hi]] w fun e w' => e = .returned (.bool (b && decide (hi ≤ 1000000))) ∧ Below w.heap.size w w' := by
    intro b hb
    have H := Lib.hid hb
    clear hb
    cases b
    all_goals
      go_enter Try.func82, Try.ntmps82
      go_wp2_with (go_at_call 74; refine (within_any _ _ _ _).mono ?_; rintro e w' ⟨rfl, rfl⟩; rw [H.out])
      go_ret
      exact ⟨by simp, (Below.refl _ _).alloc (Nat.le_refl _) _⟩
  exact key _ rfl
set_option maxHeartbeats 400000 in
theorem spanned1_any (x : Int × Int) (w : World) :
    Calls Try.prog 81 #[.agg #[.int .i64 x.1, .int .i64 x.2]] w fun e w' => e = .returned (.bool (!vB x)) ∧ Below w.heap.size w w' := by
  obtain ⟨lo, hi⟩ := x
  show Calls Try.prog 81 #[.agg #[.int .i64 lo, .int .i64 hi]] w _
  go_enter Try.func81, Try.ntmps81
  go_wp2_with (go_at_call 82; refine (valid_any (_, _) _).mono ?_; rintro e w' ⟨rfl, hb⟩)
  go_ret
  exact ⟨rfl, ((Below.refl _ _).alloc (Nat.le_refl _) _).trans (hb.mono (by simp))⟩

def Enters (P : Program) (g : Nat) : Prop := ∀ (args : Array Value) (w : World), (callFunc g args).run P w = .ok (.enter g args) w
/-- the first index at which p holds, from k on -/
def idxP {α : Type} (p : α → Bool) : List α → Nat → Int
  | [], _ => -1
  | x :: xs, k => if p x then (k : Int) else idxP p xs (k + 1)
theorem idxP_ge {α : Type} (p : α → Bool) (l : List α) (k : Nat) : decide (0 ≤ idxP p l k) = l.any p := by
  induction l generalizing k with
  | nil => simp [idxP]
  | cons x xs ih => unfold idxP; by_cases h : p x = true <;> simp [h, ih]
theorem idxP_drop {α : Type} (p : α → Bool) (l : List α) (d : α) (k : Nat) (h : k < l.length) : idxP p (l.drop k) k = if p (l[k]?.getD d) then (k : Int) else idxP p (l.drop (k + 1)) (k + 1) := by
  rw [List.drop_eq_getElem_cons h]
  simp [idxP, h]
set_option maxHeartbeats 400000 in
theorem indexFuncSpan (g : Nat) (p : Int × Int → Bool) (A : Option Addr) (l : List (Int × Int)) (c : Nat) (w : World) (hl : l.length ≤ 4611686018427387904) (hA : Sps w A l) (he : Enters Try.prog g)
   (hg : ∀ (x : Int × Int) (w' : World), Calls Try.prog g #[.agg #[.int .i64 x.1, .int .i64 x.2]] w' fun e w'' => e = .returned (.bool (p x)) ∧ Below w'.heap.size w' w'') :
   Calls Try.prog 118 #[.slice A l.length c, .func (.func g) #[] #[]] w fun e w' => e = .returned (.int .i64 (idxP p l 0)) ∧ Below w.heap.size w w' := by
  have HG := Lib.hid hg
  have HA := Lib.hid hA
  clear hg hA
  unfold Enters at he
  go_enter Try.func118, Try.ntmps118
  go_wp2
  go_loopw [5, 8] (fun _ i wr => ∃ k : Nat, k ≤ l.length ∧ i = .int .i64 k ∧ idxP p (l.drop k) k = idxP p l 0 ∧ Below w.heap.size w wr) (fun _ i _ => l.length - (intOf i).toNat)
  case atStart => exact ⟨0, by omega, rfl, by simp, Below.refl _ _⟩
  case round =>
    obtain ⟨k, hk, rfl, hp, hb⟩ := hrel
    have HP := Lib.hid hp
    clear hp
    by_cases hlt : k < l.length
    · obtain ⟨b, off, rfl, hbl, hc⟩ := HA.out (by omega)
      have h1 := (hb.cell (p := ⟨b, off + k * 2, none⟩) hbl).trans (hc k hlt).1
      have h2 := (hb.cell (p := ⟨b, off + k * 2 + 1, none⟩) hbl).trans (hc k hlt).2
      have hd := Lib.hid (idxP_drop p l (0, 0) k hlt)
      clear hc
      generalize hx : l[k]?.getD (0, 0) = x at h1 h2
      have HX := Lib.hid hx
      clear hx
      go_wp2_with fail
      refine (HG.out x _).mono ?_
      rintro e w1 ⟨rfl, hb1⟩
      have hb2 := hb.trans (hb1.mono hb.size)
      clear hb1
      by_cases hpx : p x = true
      · rw [hpx]
        go_wp2
        go_ret
        refine ⟨?_, hb2⟩
        rw [← HP.out, hd.out, HX.out, if_pos hpx]; rfl
      · have hpx' : p x = false := by simpa using hpx
        rw [hpx']
        go_wp2
        go_roundw
        case rel => exact ⟨k + 1, by omega, by go_num, by rw [← HP.out, hd.out, HX.out, if_neg hpx], hb2⟩
        case measure => simp [intOf]; omega
    · go_wp2
      go_ret
      refine ⟨?_, hb⟩
      rw [← HP.out, List.drop_eq_nil_of_le (by omega)]; rfl
set_option maxHeartbeats 400000 in
theorem containsFuncSpan (g : Nat) (p : Int × Int → Bool) (A : Option Addr) (l : List (Int × Int)) (c : Nat) (w : World) (hl : l.length ≤ 4611686018427387904) (hA : Sps w A l) (he : Enters Try.prog g)
   (hg : ∀ (x : Int × Int) (w' : World), Calls Try.prog g #[.agg #[.int .i64 x.1, .int .i64 x.2]] w' fun e w'' => e = .returned (.bool (p x)) ∧ Below w'.heap.size w' w'') :
   Calls Try.prog 80 #[.slice A l.length c, .func (.func g) #[] #[]] w fun e w' => e = .returned (.bool (l.any p)) ∧ Below w.heap.size w w' := by
  have H := Lib.hid (indexFuncSpan g p A l c w hl hA he hg)
  clear hg hA he
  go_enter Try.func80, Try.ntmps80
  go_wp2_with fail
  refine H.out.mono ?_
  rintro e w1 ⟨rfl, hb1⟩
  go_wp2
  go_ret
  exact ⟨by rw [← idxP_ge p l 0]; rfl, hb1⟩

theorem enters_spanned1 : Enters Try.prog 81 := fun _ _ => by kernel_rfl
def spErr (l : List (Int × Int)) : Int := if l.any (fun x => !vB x) then 10 else 0
set_option maxHeartbeats 400000 in
theorem spanned_any (A : Option Addr) (l : List (Int × Int)) (c : Nat) (w : World) (hl : l.length ≤ 4611686018427387904) (hA : Sps w A l) :
   Calls Try.prog 44 #[.slice A l.length c] w fun e w' => e = .returned (.int .i64 (spErr l)) ∧ Below w.heap.size w w' := by
  have H := Lib.hid (containsFuncSpan 81 (fun x => !vB x) A l c w hl hA enters_spanned1 (fun x w' => spanned1_any x w'))
  clear hA
  by_cases h : l.any (fun x => !vB x) = true
  · have E := Lib.hid h
    have R : Hid (spErr l = 10) := by unfold Hid spErr; rw [if_pos h]
    clear h
    go_enter Try.func44, Try.ntmps44
    go_wp2_with fail
    refine H.out.mono ?_
    rintro e w1 ⟨rfl, hb1⟩
    rw [E.out]
    go_wp2
    go_ret
    exact ⟨by rw [R.out]; rfl, hb1⟩
  · have R : Hid (spErr l = 0) := by unfold Hid spErr; rw [if_neg h]
    have h' : l.any (fun x => !vB x) = false := by simpa using h
    have E := Lib.hid h'
    clear h h'
    go_enter Try.func44, Try.ntmps44
    go_wp2_with fail
    refine H.out.mono ?_
    rintro e w1 ⟨rfl, hb1⟩
    rw [E.out]
    go_wp2
    go_ret
    exact ⟨by rw [R.out]; rfl, hb1⟩
end Go.Proofs.Ytgibbaadjbohdaa
/- The contracts of axis, CheckTable and what it hands to slices.ContainsFunc, floor, ceil: what each returns; old memory stays. -/
namespace Go.Proofs.Ytgibbaadjbohdaa
open Go.RowKit

set_option maxHeartbeats 400000 in
theorem floor_any (a b : Int) (w : World) (hb : 1 ≤ b) (hb' : b ≤ 4000000000000000000) (ha : -4000000000000000000 ≤ a) (ha' : a ≤ 4000000000000000000):
    Calls Try.prog 69 #[.int .i64 a, .int .i64 b] w fun e w' => e = .returned (.int .i64 (a / b)) ∧ w' = w := by
  have F := Lib.hid (floor_eq a b hb)
  obtain ⟨hq1, hq2⟩ := tdiv_bd a b _ ha ha'
  go_enter Try.func69, Try.ntmps69
  go_wp2
  all_goals
    go_ret
    refine ⟨?_, rfl⟩
  · rw [F.out, if_pos (by assumption)]; rfl
  · rw [F.out, if_neg (by omega)]; rfl
set_option maxHeartbeats 400000 in
theorem ceil_any (a b : Int) (w : World) (hb : 1 ≤ b) (hb' : b ≤ 4000000000000000000) (ha : -4000000000000000000 ≤ a) (ha' : a ≤ 4000000000000000000):
    Calls Try.prog 75 #[.int .i64 a, .int .i64 b] w fun e w' => e = .returned (.int .i64 (-(-a / b))) ∧ w' = w := by
  obtain ⟨hq1, hq2⟩ := ediv_bd (-a) b 4000000000000000000 (by omega) hb (by omega) (by omega)
  go_enter Try.func75, Try.ntmps75
  go_wp2_with (go_at_call 69; refine (floor_any _ _ _ (by omega) (by omega) (by omega) (by omega)).mono ?_; rintro e w' ⟨rfl, rfl⟩)
  go_ret
  exact ⟨rfl, rfl⟩
set_option maxHeartbeats 400000 in
theorem up_any (a b : Int) (w : World) (hb : 1 ≤ b) (hb' : b ≤ 4000000000000000000) (ha : -4000000000000000000 ≤ a) (ha' : a ≤ 4000000000000000000):
    Calls Try.prog 70 #[.agg #[.int .i64 a, .int .i64 b]] w fun e w' => e = .returned (.int .i64 (-(-a / b))) ∧ Below w.heap.size w w' := by
  go_enter Try.func70, Try.ntmps70
  go_wp2_with (go_at_call 75; refine (ceil_any _ _ _ (by omega) (by omega) (by omega) (by omega)).mono ?_; rintro e w' ⟨rfl, rfl⟩)
  go_ret
  exact ⟨rfl, (Below.refl _ _).alloc (Nat.le_refl _) _⟩

/-- knots, the one before the first at hand -/
def axFrom : Option Int → List Int → Bool
  | _, [] => true
  | p, x :: xs => wB x (-1000000) 1000000 && (match p with | none => true | some y => wB (x - y) 1 10000) && axFrom (some x) xs
def axB (l : List Int) : Bool := wB l.length 2 12 && axFrom none l
def prev (l : List Int) (k : Nat) : Option Int := if k = 0 then none else some (l[k - 1]?.getD 0)
theorem axFrom_drop (l : List Int) (k : Nat) (h : k < l.length) : axFrom (prev l k) (l.drop k) = (wB (l[k]?.getD 0) (-1000000) 1000000 && (if k = 0 then true else wB (l[k]?.getD 0 - l[k-1]?.getD 0) 1 10000) && axFrom (prev l (k + 1)) (l.drop (k + 1))) := by
  rw [List.drop_eq_getElem_cons h]
  have e : l[k]?.getD 0 = l[k] := by simp [h]
  by_cases hk : k = 0
  · subst hk; simp [prev, e, axFrom]
  · simp [prev, hk, e, axFrom]
theorem wB_iff {a b c : Int} : wB a b c = true ↔ b ≤ a ∧ a ≤ c := by simp [wB]
set_option maxHeartbeats 1000000 in
theorem axis_any (A : Option Addr) (l : List Int) (c : Nat) (w : World) (hl : l.length ≤ 4611686018427387904) (hA : Ints w A l) :
    Calls Try.prog 137 #[.slice A l.length c] w fun e w' => e = .returned (.bool (axB l)) ∧ w' = w := by
  by_cases hw : wB l.length 2 12 = true
  · have E := Lib.hid hw
    obtain ⟨h2, h12⟩ := wB_iff.1 hw
    have R : Hid (axB l = axFrom none l) := by unfold Hid axB; rw [hw]; rfl
    obtain ⟨b, off, rfl, hbl, hc⟩ := hA (by omega)
    have HC := Lib.hid hc
    clear hw hc hA
    go_enter Try.func137, Try.ntmps137
    go_wp2_with (go_at_call 74; refine (within_any _ _ _ _).mono ?_; rintro e w' ⟨rfl, rfl⟩; rw [E.out])
    go_loop [3, 4, 11] (fun _ _ i => ∃ k : Nat, k ≤ l.length ∧ i = .int .i64 k ∧ axFrom (prev l k) (l.drop k) = axFrom none l ∧ (0 < k → -1000000 ≤ l[k-1]?.getD 0 ∧ l[k-1]?.getD 0 ≤ 1000000)) (fun _ _ i => l.length - (intOf i).toNat)
    case atStart => exact ⟨0, by omega, rfl, by simp [prev], by omega⟩
    case round =>
      obtain ⟨k, hk, rfl, hp, hbd⟩ := hrel
      have HP := Lib.hid hp
      have HB := Lib.hid hbd
      clear hp hbd
      by_cases hlt : k < l.length
      · have hd := Lib.hid (axFrom_drop l k hlt)
        have h1 := HC.out k hlt
        generalize hx : l[k]?.getD 0 = x at h1
        have HX := Lib.hid hx
        clear hx
        by_cases hv : wB x (-1000000) 1000000 = true
        · have hvb := wB_iff.1 hv
          have HV := Lib.hid hv
          clear hv
          by_cases hk0 : k = 0
          · subst hk0
            simp only [Nat.add_zero] at h1
            go_wp2_with (go_at_call 74; refine (within_any _ _ _ _).mono ?_; rintro e w' ⟨rfl, rfl⟩; rw [HV.out])
            go_round
            case rel => exact ⟨1, by omega, by go_num, by rw [← HP.out, hd.out, HX.out, HV.out]; simp, fun _ => by simpa [HX.out] using hvb⟩
            case measure => simp [intOf]; omega
          · obtain ⟨j, rfl⟩ : ∃ j, k = j + 1 := ⟨k - 1, by omega⟩
            have h3 := HC.out j (by omega)
            have hyb := HB.out (by omega)
            simp only [Nat.add_sub_cancel] at hyb
            generalize hy : l[j]?.getD 0 = y at h3 hyb
            have HY := Lib.hid hy
            clear hy hk0
            have hj0 : (0 : Int) < (j : Int) + 1 := by omega
            by_cases hv2 : wB (x - y) 1 10000 = true
            · have HV2 := Lib.hid hv2
              clear hv2
              go_wp2_with (go_at_call 74; refine (within_any _ _ _ _).mono ?_; rintro e w' ⟨rfl, rfl⟩; first | rw [HV.out] | rw [HV2.out])
              go_round
              case rel => exact ⟨j + 1 + 1, by omega, by go_num, by rw [← HP.out, hd.out, HX.out, HV.out]; simp [HY.out, HV2.out], fun _ => by simpa [HX.out] using hvb⟩
              case measure => simp [intOf]; omega
            · have hv3 : wB (x - y) 1 10000 = false := by simpa using hv2
              have HV2 := Lib.hid hv3
              clear hv2 hv3
              go_wp2_with (go_at_call 74; refine (within_any _ _ _ _).mono ?_; rintro e w' ⟨rfl, rfl⟩; first | rw [HV.out] | rw [HV2.out])
              go_ret
              exact ⟨by rw [R.out, ← HP.out, hd.out, HX.out, HV.out]; simp [HY.out, HV2.out], rfl⟩
        · have hv3 : wB x (-1000000) 1000000 = false := by simpa using hv
          have HV := Lib.hid hv3
          clear hv hv3
          go_wp2_with (go_at_call 74; refine (within_any _ _ _ _).mono ?_; rintro e w' ⟨rfl, rfl⟩; rw [HV.out])
          go_ret
          exact ⟨by rw [R.out, ← HP.out, hd.out, HX.out, HV.out]; simp, rfl⟩
      · go_wp2
        go_ret
        exact ⟨by rw [R.out, ← HP.out, List.drop_eq_nil_of_le (by omega)]; simp [axFrom], rfl⟩
  · have hw' : wB l.length 2 12 = false := by simpa using hw
    have E := Lib.hid hw'
    have R : Hid (axB l = false) := by unfold Hid axB; rw [hw']; rfl
    clear hw hw' hA
    go_enter Try.func137, Try.ntmps137
    go_wp2_with (go_at_call 74; refine (within_any _ _ _ _).mono ?_; rintro e w' ⟨rfl, rfl⟩; rw [E.out])
    go_ret
    exact ⟨by rw [R.out]; rfl, rfl⟩
end Go.Proofs.Ytgibbaadjbohdaa
/- The contract of spans.CheckTable: 0 or ErrTable; old memory stays. -/
namespace Go.Proofs.Ytgibbaadjbohdaa
open Go.RowKit

theorem ct1_any (n : Int) (w : World) :
    Calls Try.prog 135 #[.int .i64 n] w fun e w' => e = .returned (.bool (!wB n (-1000000) 1000000)) ∧ w' = w := by
  go_enter Try.func135, Try.ntmps135
  go_wp2_with (go_at_call 74; refine (within_any _ _ _ _).mono ?_; rintro e w' ⟨rfl, rfl⟩)
  go_ret
  exact ⟨rfl, rfl⟩
set_option maxHeartbeats 400000 in
theorem indexFuncInt (g : Nat) (p : Int → Bool) (A : Option Addr) (l : List Int) (c : Nat) (w : World) (hl : l.length ≤ 4611686018427387904) (hA : Ints w A l) (he : Enters Try.prog g)
   (hg : ∀ (x : Int) (w' : World), Calls Try.prog g #[.int .i64 x] w' fun e w'' => e = .returned (.bool (p x)) ∧ Below w'.heap.size w' w'') :
   Calls Try.prog 129 #[.slice A l.length c, .func (.func g) #[] #[]] w fun e w' => e = .returned (.int .i64 (idxP p l 0)) ∧ Below w.heap.size w w' := by
  have HG := Lib.hid hg
  have HA := Lib.hid hA
  clear hg hA
  unfold Enters at he
  go_enter Try.func129, Try.ntmps129
  go_wp2
  go_loopw [5, 8] (fun _ i wr => ∃ k : Nat, k ≤ l.length ∧ i = .int .i64 k ∧ idxP p (l.drop k) k = idxP p l 0 ∧ Below w.heap.size w wr) (fun _ i _ => l.length - (intOf i).toNat)
  case atStart => exact ⟨0, by omega, rfl, by simp, Below.refl _ _⟩
  case round =>
    obtain ⟨k, hk, rfl, hp, hb⟩ := hrel
    have HP := Lib.hid hp
    clear hp
    by_cases hlt : k < l.length
    · obtain ⟨b, off, rfl, hbl, hc⟩ := HA.out (by omega)
      have h1 := (hb.cell (p := ⟨b, off + k, none⟩) hbl).trans (hc k hlt)
      have hd := Lib.hid (idxP_drop p l 0 k hlt)
      clear hc
      generalize hx : l[k]?.getD 0 = x at h1
      have HX := Lib.hid hx
      clear hx
      go_wp2_with fail
      refine (HG.out x _).mono ?_
      rintro e w1 ⟨rfl, hb1⟩
      have hb2 := hb.trans (hb1.mono hb.size)
      clear hb1
      by_cases hpx : p x = true
      · rw [hpx]
        go_wp2
        go_ret
        refine ⟨?_, hb2⟩
        rw [← HP.out, hd.out, HX.out, if_pos hpx]; rfl
      · have hpx' : p x = false := by simpa using hpx
        rw [hpx']
        go_wp2
        go_roundw
        case rel => exact ⟨k + 1, by omega, by go_num, by rw [← HP.out, hd.out, HX.out, if_neg hpx], hb2⟩
        case measure => simp [intOf]; omega
    · go_wp2
      go_ret
      refine ⟨?_, hb⟩
      rw [← HP.out, List.drop_eq_nil_of_le (by omega)]; rfl
set_option maxHeartbeats 400000 in
theorem containsFuncInt (g : Nat) (p : Int → Bool) (A : Option Addr) (l : List Int) (c : Nat) (w : World) (hl : l.length ≤ 4611686018427387904) (hA : Ints w A l) (he : Enters Try.prog g)
   (hg : ∀ (x : Int) (w' : World), Calls Try.prog g #[.int .i64 x] w' fun e w'' => e = .returned (.bool (p x)) ∧ Below w'.heap.size w' w'') :
   Calls Try.prog 94 #[.slice A l.length c, .func (.func g) #[] #[]] w fun e w' => e = .returned (.bool (l.any p)) ∧ Below w.heap.size w w' := by
  have H := Lib.hid (indexFuncInt g p A l c w hl hA he hg)
  clear hg hA he
  go_enter Try.func94, Try.ntmps94
  go_wp2_with fail
  refine H.out.mono ?_
  rintro e w1 ⟨rfl, hb1⟩
  go_wp2
  go_ret
  exact ⟨by rw [← idxP_ge p l 0]; rfl, hb1⟩
theorem enters_ct1 : Enters Try.prog 135 := fun _ _ => by kernel_rfl
theorem enters_ct2 : Enters Try.prog 136 := fun _ _ => by kernel_rfl

/- rows and a function value that has caught two variables -/
set_option maxHeartbeats 400000 in
theorem indexFuncRow (g : Nat) (p : List Int → Bool) (u v : Value) (A : Option Addr) (l : List (List Int)) (c : Nat) (w : World) (hl : l.length ≤ 4611686018427387904) (hA : Mat w A l) (he : Enters Try.prog g)
   (hg : ∀ (B : Option Addr) (x : List Int) (d : Nat) (w' : World), x ∈ l → Below w.heap.size w w' → Ints w' B x → Calls Try.prog g #[.slice B x.length d, u, v] w' fun e w'' => e = .returned (.bool (p x)) ∧ Below w'.heap.size w' w'') :
   Calls Try.prog 149 #[.slice A l.length c, .func (.func g) #[] #[u, v]] w fun e w' => e = .returned (.int .i64 (idxP p l 0)) ∧ Below w.heap.size w w' := by
  have HG := Lib.hid hg
  have HA := Lib.hid hA
  clear hg hA
  unfold Enters at he
  go_enter Try.func149, Try.ntmps149
  go_wp2
  go_loopw [5, 8] (fun _ i wr => ∃ k : Nat, k ≤ l.length ∧ i = .int .i64 k ∧ idxP p (l.drop k) k = idxP p l 0 ∧ Below w.heap.size w wr) (fun _ i _ => l.length - (intOf i).toNat)
  case atStart => exact ⟨0, by omega, rfl, by simp, Below.refl _ _⟩
  case round =>
    obtain ⟨k, hk, rfl, hp, hb⟩ := hrel
    have HP := Lib.hid hp
    clear hp
    by_cases hlt : k < l.length
    · obtain ⟨b, off, rfl, hbl, hc⟩ := HA.out (by omega)
      obtain ⟨B, d, hc1, hB⟩ := hc k hlt
      have h1 := (hb.cell (p := ⟨b, off + k, none⟩) hbl).trans hc1
      have hd := Lib.hid (idxP_drop p l [] k hlt)
      have hm : l[k]?.getD [] ∈ l := by simp [hlt]
      have HI := Lib.hid (hB.below hb)
      clear hc hc1 hB
      generalize hx : l[k]?.getD [] = x at h1 HI hm
      have HX := Lib.hid hx
      have HM := Lib.hid hm
      clear hx hm
      go_wp2_with fail
      refine (HG.out B x d _ HM.out hb HI.out).mono ?_
      rintro e w1 ⟨rfl, hb1⟩
      have hb2 := hb.trans (hb1.mono hb.size)
      clear hb1
      by_cases hpx : p x = true
      · rw [hpx]
        go_wp2
        go_ret
        refine ⟨?_, hb2⟩
        rw [← HP.out, hd.out, HX.out, if_pos hpx]; rfl
      · have hpx' : p x = false := by simpa using hpx
        rw [hpx']
        go_wp2
        go_roundw
        case rel => exact ⟨k + 1, by omega, by go_num, by rw [← HP.out, hd.out, HX.out, if_neg hpx], hb2⟩
        case measure => simp [intOf]; omega
    · go_wp2
      go_ret
      refine ⟨?_, hb⟩
      rw [← HP.out, List.drop_eq_nil_of_le (by omega)]; rfl
set_option maxHeartbeats 400000 in
theorem containsFuncRow (g : Nat) (p : List Int → Bool) (u v : Value) (A : Option Addr) (l : List (List Int)) (c : Nat) (w : World) (hl : l.length ≤ 4611686018427387904) (hA : Mat w A l) (he : Enters Try.prog g)
   (hg : ∀ (B : Option Addr) (x : List Int) (d : Nat) (w' : World), x ∈ l → Below w.heap.size w w' → Ints w' B x → Calls Try.prog g #[.slice B x.length d, u, v] w' fun e w'' => e = .returned (.bool (p x)) ∧ Below w'.heap.size w' w'') :
   Calls Try.prog 138 #[.slice A l.length c, .func (.func g) #[] #[u, v]] w fun e w' => e = .returned (.bool (l.any p)) ∧ Below w.heap.size w w' := by
  have H := Lib.hid (indexFuncRow g p u v A l c w hl hA he hg)
  clear hg hA he
  go_enter Try.func138, Try.ntmps138
  go_wp2_with fail
  refine H.out.mono ?_
  rintro e w1 ⟨rfl, hb1⟩
  go_wp2
  go_ret
  exact ⟨by rw [← idxP_ge p l 0]; rfl, hb1⟩

def rowBad (n : Nat) (r : List Int) : Bool := ((r.length : Int) != (n : Int)) || r.any (fun x => !wB x (-1000000) 1000000)
set_option maxHeartbeats 400000 in
theorem ct2_any (B Y : Option Addr) (x ys : List Int) (d cy bt bo : Nat) (w : World) (hx : x.length ≤ 4611686018427387904) (hB : Ints w B x)
    (h1 : w.cell? ⟨bt, 1, none⟩ = some (.slice Y ys.length cy)) (h2 : w.cell? ⟨bo, 0, none⟩ = some (.func (.func 135) #[] #[])) :
    Calls Try.prog 136 #[.slice B x.length d, .pointer (some ⟨bt, 0, none⟩), .pointer (some ⟨bo, 0, none⟩)] w fun e w' => e = .returned (.bool (rowBad ys.length x)) ∧ Below w.heap.size w w' := by
  have H := Lib.hid (containsFuncInt 135 (fun x => !wB x (-1000000) 1000000) B x d w hx hB enters_ct1 (fun x w' => (ct1_any x w').mono (fun e w'' ⟨h, h'⟩ => ⟨h, h' ▸ Below.refl _ _⟩)))
  clear hB
  by_cases hn : ((x.length : Int) != (ys.length : Int)) = true
  · have R : Hid (rowBad ys.length x = true) := by unfold Hid rowBad; rw [hn]; rfl
    go_enter Try.func136, Try.ntmps136
    go_wp2
    go_ret
    exact ⟨by rw [R.out]; rfl, Below.refl _ _⟩
  · have hn' : ((x.length : Int) != (ys.length : Int)) = false := by simpa using hn
    have R : Hid (rowBad ys.length x = x.any (fun x => !wB x (-1000000) 1000000)) := by unfold Hid rowBad; rw [hn']; rfl
    clear hn
    go_enter Try.func136, Try.ntmps136
    go_wp2_with fail
    refine H.out.mono ?_
    rintro e w1 ⟨rfl, hb1⟩
    go_wp2
    go_ret
    exact ⟨by rw [R.out]; rfl, hb1⟩
end Go.Proofs.Ytgibbaadjbohdaa
