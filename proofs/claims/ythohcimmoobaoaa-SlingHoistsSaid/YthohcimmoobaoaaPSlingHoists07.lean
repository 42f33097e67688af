/- Texts of the law SlingHoists, part 7. No conditions. -/
import Derived.Test.YthohcimmoobaoaaPSlingHoists06
/- The checks of boxes, on abstract values: both sides. No conditions. -/
set_option linter.unusedSimpArgs false
set_option linter.unusedVariables false
namespace Go.Proofs.Ythohcimmoobaoaa
open Go.RowKit Lift

theorem within_ac (n a b : Int) : AC Try.prog 96 [dI n, dI a, dI b] [] [] (dB (decide (a ≤ n) && decide (n ≤ b))) := by
  refine kspans_within.ac (n0 := 0) (by simp) ⟨.val _, .val _, .val _, trivial⟩ trivial rfl ?_
  unfold cspans_within
  refine aw_seq (aw_region ?_)
  simp (config := {maxSteps := 10000000}) (disch := first | exact okYes (by kernel_rfl) | omega) only [thenQ, List.map, dB, List.length, Nat.zero_add, Nat.reduceMul, envOf, dI, Nat.reduceAdd, ARun_none, AOpRun, aexec, FSt.ev, AGo_ok, St.app, putO, eput_c, Nat.reduceBEq, eput_n, cond_false, hups, ARun_nil, dropE_c, inL_n, dropE_n]
  refine aw_seq (aw_region ?_)
  by_cases h1 : a ≤ n
  · have h1' : n ≥ a := h1
    simp (config := {maxSteps := 10000000}) (disch := first | exact okYes (by kernel_rfl) | omega) only [thenQ, h1', decide_true, Bool.true_and, List.length, Nat.zero_add, Nat.reduceAdd, Nat.reduceMul, ARun_none, AOpRun, aexec, FSt.ev, St.F, ↓eget_h, AGo_ok, St.app, putO, eput_c, Nat.reduceBEq, eput_n, cond_false, hups, List.map, eget_c, isSh, Bool.false_eq_true, ↓reduceIte, Option.map, abin, ARun_some, AG_tt, beq_self_eq_true, cond_true, ARun_nil, dropE_c, inL_c, inL_n, dropE_n]
    refine aw_ret ?_
    refine end_to [] [] (by first | exact .inl rfl | exact .inr rfl) rfl (by kernel_rfl) (by kernel_rfl) (by kernel_rfl) ?_ ?_ <;> repeat' (first | exact trivial | exact vrl_flat _ (by first | exact icells_in _ | exact rcells_in _ | exact scells_in _ | exact bcells_in _ | assumption) | exact vr_val _ | exact vr_list _ | exact vr_at _ | exact vr_nil | exact vr_cap0 | exact vr_vec _ _ _ _ rfl | exact vr_own _ _ _ _ _ rfl | exact vr_ptr _ _ _ rfl | exact vr_nilv _ _ _ rfl | exact vr_bot _ | exact vr_cap0v _ _ _ rfl | exact vr_cap0l | apply vr_agg | apply vr_tup | apply vr_fn | refine vr_yld _ _ _ rfl ?_ | exact Ren.bot _ | exact Ren.val _ | exact Ren.list _ | exact Ren.at_ _ | exact Ren.ptr _ _ _ rfl | refine Ren.yld _ _ _ _ _ rfl rfl (RenL.get ?_).2 (fun _ _ _ h => h) | refine vr_fl _ _ _ _ _ (by decide) rfl ?_ ?_ ?_ ?_ | refine And.intro ⟨_, rfl, .inl ⟨_, rfl, by decide, ?_⟩⟩ ?_ | refine And.intro ⟨_, rfl, _, rfl, by decide, ?_⟩ ?_ | refine And.intro ⟨_, rfl, .inr ⟨rfl, rfl, of_decide_eq_true (by kernel_rfl)⟩⟩ ?_ | apply And.intro)
  · have h1' : ¬ n ≥ a := h1
    simp (config := {maxSteps := 10000000}) (disch := first | exact okYes (by kernel_rfl) | omega) only [thenQ, h1', decide_false, Bool.false_and, List.length, Nat.zero_add, Nat.reduceAdd, Nat.reduceMul, ARun_none, AOpRun, aexec, FSt.ev, St.F, ↓eget_h, AGo_ok, St.app, putO, eput_c, Nat.reduceBEq, eput_n, cond_false, hups, List.map, eget_c, isSh, Bool.false_eq_true, ↓reduceIte, Option.map, abin, ARun_some, AG_ft, beq_self_eq_true, cond_true, ARun_nil, dropE_c, inL_c, inL_n, dropE_n]
    refine aw_ret ?_
    refine end_to [] [] (by first | exact .inl rfl | exact .inr rfl) rfl (by kernel_rfl) (by kernel_rfl) (by kernel_rfl) ?_ ?_ <;> repeat' (first | exact trivial | exact vrl_flat _ (by first | exact icells_in _ | exact rcells_in _ | exact scells_in _ | exact bcells_in _ | assumption) | exact vr_val _ | exact vr_list _ | exact vr_at _ | exact vr_nil | exact vr_cap0 | exact vr_vec _ _ _ _ rfl | exact vr_own _ _ _ _ _ rfl | exact vr_ptr _ _ _ rfl | exact vr_nilv _ _ _ rfl | exact vr_bot _ | exact vr_cap0v _ _ _ rfl | exact vr_cap0l | apply vr_agg | apply vr_tup | apply vr_fn | refine vr_yld _ _ _ rfl ?_ | exact Ren.bot _ | exact Ren.val _ | exact Ren.list _ | exact Ren.at_ _ | exact Ren.ptr _ _ _ rfl | refine Ren.yld _ _ _ _ _ rfl rfl (RenL.get ?_).2 (fun _ _ _ h => h) | refine vr_fl _ _ _ _ _ (by decide) rfl ?_ ?_ ?_ ?_ | refine And.intro ⟨_, rfl, .inl ⟨_, rfl, by decide, ?_⟩⟩ ?_ | refine And.intro ⟨_, rfl, _, rfl, by decide, ?_⟩ ?_ | refine And.intro ⟨_, rfl, .inr ⟨rfl, rfl, of_decide_eq_true (by kernel_rfl)⟩⟩ ?_ | apply And.intro)
theorem from_ac (n a b : Int) : AC Try.prog 94 [dI n, dI a, dI b] [] [] (dB (decide (a ≤ n) && decide (n ≤ b))) := by
  refine kref01_From.ac (n0 := 0) (by simp) ⟨.val _, .val _, .val _, trivial⟩ trivial rfl ?_
  unfold cref01_From
  refine aw_seq (aw_region ?_)
  simp (config := {maxSteps := 10000000}) (disch := first | exact okYes (by kernel_rfl) | omega) only [thenQ, List.map, dB, List.length, Nat.zero_add, Nat.reduceMul, envOf, dI, Nat.reduceAdd, ARun_none, AOpRun, aexec, FSt.ev, AGo_ok, St.app, putO, eput_c, Nat.reduceBEq, eput_n, cond_false, hups, ARun_nil, dropE_c, inL_n, dropE_n]
  refine aw_seq (aw_region ?_)
  by_cases h1 : a ≤ n
  · have h1' : n ≥ a := h1
    simp (config := {maxSteps := 10000000}) (disch := first | exact okYes (by kernel_rfl) | omega) only [thenQ, h1', decide_true, Bool.true_and, List.length, Nat.zero_add, Nat.reduceAdd, Nat.reduceMul, ARun_none, AOpRun, aexec, FSt.ev, St.F, ↓eget_h, AGo_ok, St.app, putO, eput_c, Nat.reduceBEq, eput_n, cond_false, hups, List.map, eget_c, isSh, Bool.false_eq_true, ↓reduceIte, Option.map, abin, ARun_some, AG_tt, beq_self_eq_true, cond_true, ARun_nil, dropE_c, inL_c, inL_n, dropE_n]
    refine aw_ret ?_
    refine end_to [] [] (by first | exact .inl rfl | exact .inr rfl) rfl (by kernel_rfl) (by kernel_rfl) (by kernel_rfl) ?_ ?_ <;> repeat' (first | exact trivial | exact vrl_flat _ (by first | exact icells_in _ | exact rcells_in _ | exact scells_in _ | exact bcells_in _ | assumption) | exact vr_val _ | exact vr_list _ | exact vr_at _ | exact vr_nil | exact vr_cap0 | exact vr_vec _ _ _ _ rfl | exact vr_own _ _ _ _ _ rfl | exact vr_ptr _ _ _ rfl | exact vr_nilv _ _ _ rfl | exact vr_bot _ | exact vr_cap0v _ _ _ rfl | exact vr_cap0l | apply vr_agg | apply vr_tup | apply vr_fn | refine vr_yld _ _ _ rfl ?_ | exact Ren.bot _ | exact Ren.val _ | exact Ren.list _ | exact Ren.at_ _ | exact Ren.ptr _ _ _ rfl | refine Ren.yld _ _ _ _ _ rfl rfl (RenL.get ?_).2 (fun _ _ _ h => h) | refine vr_fl _ _ _ _ _ (by decide) rfl ?_ ?_ ?_ ?_ | refine And.intro ⟨_, rfl, .inl ⟨_, rfl, by decide, ?_⟩⟩ ?_ | refine And.intro ⟨_, rfl, _, rfl, by decide, ?_⟩ ?_ | refine And.intro ⟨_, rfl, .inr ⟨rfl, rfl, of_decide_eq_true (by kernel_rfl)⟩⟩ ?_ | apply And.intro)
  · have h1' : ¬ n ≥ a := h1
    simp (config := {maxSteps := 10000000}) (disch := first | exact okYes (by kernel_rfl) | omega) only [thenQ, h1', decide_false, Bool.false_and, List.length, Nat.zero_add, Nat.reduceAdd, Nat.reduceMul, ARun_none, AOpRun, aexec, FSt.ev, St.F, ↓eget_h, AGo_ok, St.app, putO, eput_c, Nat.reduceBEq, eput_n, cond_false, hups, List.map, eget_c, isSh, Bool.false_eq_true, ↓reduceIte, Option.map, abin, ARun_some, AG_ft, beq_self_eq_true, cond_true, ARun_nil, dropE_c, inL_c, inL_n, dropE_n]
    refine aw_ret ?_
    refine end_to [] [] (by first | exact .inl rfl | exact .inr rfl) rfl (by kernel_rfl) (by kernel_rfl) (by kernel_rfl) ?_ ?_ <;> repeat' (first | exact trivial | exact vrl_flat _ (by first | exact icells_in _ | exact rcells_in _ | exact scells_in _ | exact bcells_in _ | assumption) | exact vr_val _ | exact vr_list _ | exact vr_at _ | exact vr_nil | exact vr_cap0 | exact vr_vec _ _ _ _ rfl | exact vr_own _ _ _ _ _ rfl | exact vr_ptr _ _ _ rfl | exact vr_nilv _ _ _ rfl | exact vr_bot _ | exact vr_cap0v _ _ _ rfl | exact vr_cap0l | apply vr_agg | apply vr_tup | apply vr_fn | refine vr_yld _ _ _ rfl ?_ | exact Ren.bot _ | exact Ren.val _ | exact Ren.list _ | exact Ren.at_ _ | exact Ren.ptr _ _ _ rfl | refine Ren.yld _ _ _ _ _ rfl rfl (RenL.get ?_).2 (fun _ _ _ h => h) | refine vr_fl _ _ _ _ _ (by decide) rfl ?_ ?_ ?_ ?_ | refine And.intro ⟨_, rfl, .inl ⟨_, rfl, by decide, ?_⟩⟩ ?_ | refine And.intro ⟨_, rfl, _, rfl, by decide, ?_⟩ ?_ | refine And.intro ⟨_, rfl, .inr ⟨rfl, rfl, of_decide_eq_true (by kernel_rfl)⟩⟩ ?_ | apply And.intro)
theorem valid_ac (x : Int × Int) : AC Try.prog 115 [spD x] [] [] (dB (okS x)) := by
  refine kspans_valid.ac (n0 := 0) (by simp) ⟨.agg _ (by intro d hd; simp at hd; rcases hd with rfl | rfl <;> exact .val _), trivial⟩ trivial rfl ?_
  unfold cspans_valid
  refine aw_seq (aw_region ?_)
  simp (config := {maxSteps := 10000000}) (disch := first | exact okYes (by kernel_rfl) | omega) only [thenQ, List.map, Int.reduceNeg, List.length, Nat.zero_add, Nat.reduceAdd, Nat.reduceMul, envOf, spD, ARun_none, AOpRun, aexec, D.isBot, FSt.ev, St.F, ↓eget_h, Bool.false_eq_true, Option.isSome, hget_n, or_self, ↓reduceIte, D.cells, AGo_ok, St.app, putO, eput_c, Nat.reduceBEq, eput_n, cond_false, hups, hput_n, ARun_nil, dropE_c, inL_n, dropE_n]
  refine aw_seq (aw_region ?_)
  simp (config := {maxSteps := 10000000}) (disch := first | exact okYes (by kernel_rfl) | omega) only [thenQ, List.length, Nat.zero_add, Nat.reduceAdd, Nat.reduceMul, Int.reduceNeg, ARun_none, AOpRun, aexec, FSt.ev, St.F, eget_c, Nat.reduceBEq, ↓eget_h, cond_false, AGo_ok, St.app, putO, eput_c, eput_n, hups, List.map, Option.map, run1, hget_c, beq_self_eq_true, hget_n, cond_true, List.getElem?_cons_zero, List.getElem?_cons_succ]
  refine acall0 (within_ac x.1 (-1000000) x.2) ?_
  by_cases h1 : (decide (-1000000 ≤ x.1) && decide (x.1 ≤ x.2)) = true
  · simp (config := {maxSteps := 10000000}) (disch := first | exact okYes (by kernel_rfl) | omega) only [dB, Nat.reduceAdd, St.app, putO, Int.reduceNeg, h1, eput_c, Nat.reduceBEq, eput_n, cond_false, hups, ARun_none, AOpRun, aexec, FSt.ev, St.F, eget_c, ↓eget_h, AGo_ok, List.map, ARun_some, AG_tt, Nat.zero_add, Option.map, run1, hget_c, beq_self_eq_true, hget_n, cond_true, List.getElem?_cons_succ, List.getElem?_cons_zero, isSh, Bool.false_eq_true, ↓reduceIte, abin, ARun_nil, dropE_c, inL_c, inL_n, dropE_n]
    refine aw_ret ?_
    have e : okS x = decide (x.2 ≤ 1000000) := by unfold okS; rw [h1]; rfl
    rw [e]
    refine end_to [] [] (by first | exact .inl rfl | exact .inr rfl) rfl (by kernel_rfl) (by kernel_rfl) (by kernel_rfl) ?_ ?_ <;> repeat' (first | exact trivial | exact vrl_flat _ (by first | exact icells_in _ | exact rcells_in _ | exact scells_in _ | exact bcells_in _ | assumption) | exact vr_val _ | exact vr_list _ | exact vr_at _ | exact vr_nil | exact vr_cap0 | exact vr_vec _ _ _ _ rfl | exact vr_own _ _ _ _ _ rfl | exact vr_ptr _ _ _ rfl | exact vr_nilv _ _ _ rfl | exact vr_bot _ | exact vr_cap0v _ _ _ rfl | exact vr_cap0l | apply vr_agg | apply vr_tup | apply vr_fn | refine vr_yld _ _ _ rfl ?_ | exact Ren.bot _ | exact Ren.val _ | exact Ren.list _ | exact Ren.at_ _ | exact Ren.ptr _ _ _ rfl | refine Ren.yld _ _ _ _ _ rfl rfl (RenL.get ?_).2 (fun _ _ _ h => h) | refine vr_fl _ _ _ _ _ (by decide) rfl ?_ ?_ ?_ ?_ | refine And.intro ⟨_, rfl, .inl ⟨_, rfl, by decide, ?_⟩⟩ ?_ | refine And.intro ⟨_, rfl, _, rfl, by decide, ?_⟩ ?_ | refine And.intro ⟨_, rfl, .inr ⟨rfl, rfl, of_decide_eq_true (by kernel_rfl)⟩⟩ ?_ | apply And.intro)
  · have h1' : (decide (-1000000 ≤ x.1) && decide (x.1 ≤ x.2)) = false := by simpa using h1
    simp (config := {maxSteps := 10000000}) (disch := first | exact okYes (by kernel_rfl) | omega) only [dB, Nat.reduceAdd, St.app, putO, Int.reduceNeg, h1', eput_c, Nat.reduceBEq, eput_n, cond_false, hups, ARun_none, AOpRun, aexec, FSt.ev, St.F, eget_c, ↓eget_h, AGo_ok, List.map, ARun_some, AG_ft, Bool.false_eq_true, ↓reduceIte, beq_self_eq_true, cond_true, ARun_nil, dropE_c, inL_c, inL_n, dropE_n]
    refine aw_ret ?_
    have e : okS x = false := by unfold okS; rw [h1']; rfl
    rw [e]
    refine end_to [] [] (by first | exact .inl rfl | exact .inr rfl) rfl (by kernel_rfl) (by kernel_rfl) (by kernel_rfl) ?_ ?_ <;> repeat' (first | exact trivial | exact vrl_flat _ (by first | exact icells_in _ | exact rcells_in _ | exact scells_in _ | exact bcells_in _ | assumption) | exact vr_val _ | exact vr_list _ | exact vr_at _ | exact vr_nil | exact vr_cap0 | exact vr_vec _ _ _ _ rfl | exact vr_own _ _ _ _ _ rfl | exact vr_ptr _ _ _ rfl | exact vr_nilv _ _ _ rfl | exact vr_bot _ | exact vr_cap0v _ _ _ rfl | exact vr_cap0l | apply vr_agg | apply vr_tup | apply vr_fn | refine vr_yld _ _ _ rfl ?_ | exact Ren.bot _ | exact Ren.val _ | exact Ren.list _ | exact Ren.at_ _ | exact Ren.ptr _ _ _ rfl | refine Ren.yld _ _ _ _ _ rfl rfl (RenL.get ?_).2 (fun _ _ _ h => h) | refine vr_fl _ _ _ _ _ (by decide) rfl ?_ ?_ ?_ ?_ | refine And.intro ⟨_, rfl, .inl ⟨_, rfl, by decide, ?_⟩⟩ ?_ | refine And.intro ⟨_, rfl, _, rfl, by decide, ?_⟩ ?_ | refine And.intro ⟨_, rfl, .inr ⟨rfl, rfl, of_decide_eq_true (by kernel_rfl)⟩⟩ ?_ | apply And.intro)
theorem rvalid2_ac (x : Int × Int) : AC Try.prog 61 [spD x] [] [] (dB (okS x)) := by
  refine kref01_Valid.ac (n0 := 0) (by simp) ⟨.agg _ (by intro d hd; simp at hd; rcases hd with rfl | rfl <;> exact .val _), trivial⟩ trivial rfl ?_
  unfold cref01_Valid
  refine aw_seq (aw_region ?_)
  simp (config := {maxSteps := 10000000}) (disch := first | exact okYes (by kernel_rfl) | omega) only [thenQ, List.map, Int.reduceNeg, List.length, Nat.zero_add, Nat.reduceAdd, Nat.reduceMul, envOf, spD, ARun_none, AOpRun, aexec, D.isBot, FSt.ev, St.F, ↓eget_h, Bool.false_eq_true, Option.isSome, hget_n, or_self, ↓reduceIte, D.cells, AGo_ok, St.app, putO, eput_c, Nat.reduceBEq, eput_n, cond_false, hups, hput_n, ARun_nil, dropE_c, inL_n, dropE_n]
  refine aw_seq (aw_region ?_)
  simp (config := {maxSteps := 10000000}) (disch := first | exact okYes (by kernel_rfl) | omega) only [thenQ, List.length, Nat.zero_add, Nat.reduceAdd, Nat.reduceMul, Int.reduceNeg, ARun_none, AOpRun, aexec, FSt.ev, St.F, eget_c, Nat.reduceBEq, ↓eget_h, cond_false, AGo_ok, St.app, putO, eput_c, eput_n, hups, List.map, Option.map, run1, hget_c, beq_self_eq_true, hget_n, cond_true, List.getElem?_cons_zero]
  refine acall0 (from_ac x.1 (-1000000) 1000000) ?_
  by_cases h1 : (decide (-1000000 ≤ x.1) && decide (x.1 ≤ 1000000)) = true
  · simp (config := {maxSteps := 10000000}) (disch := first | exact okYes (by kernel_rfl) | omega) only [dB, Nat.reduceAdd, St.app, putO, Int.reduceNeg, h1, eput_c, Nat.reduceBEq, eput_n, cond_false, hups, ARun_none, AOpRun, aexec, FSt.ev, St.F, eget_c, ↓eget_h, AGo_ok, List.map, ARun_some, AG_tt, Nat.zero_add, Option.map, run1, hget_c, beq_self_eq_true, hget_n, cond_true, List.getElem?_cons_succ, List.getElem?_cons_zero]
    refine acall0 (from_ac x.2 x.1 1000000) ?_
    simp (config := {maxSteps := 10000000}) (disch := first | exact okYes (by kernel_rfl) | omega) only [Nat.reduceAdd, St.app, putO, dB, eput_c, Nat.reduceBEq, eput_n, cond_false, hups, ARun_none, AOpRun, aexec, FSt.ev, St.F, eget_c, ↓eget_h, ↓reduceIte, AGo_ok, List.map, beq_self_eq_true, cond_true, ARun_nil, dropE_c, inL_c, inL_n, dropE_n]
    refine aw_ret ?_
    have e : okS x = (decide (x.1 ≤ x.2) && decide (x.2 ≤ 1000000)) := by
      simp only [Bool.and_eq_true, decide_eq_true_eq] at h1
      unfold okS; simp [h1.1]
    rw [e]
    refine end_to [] [] (by first | exact .inl rfl | exact .inr rfl) rfl (by kernel_rfl) (by kernel_rfl) (by kernel_rfl) ?_ ?_ <;> repeat' (first | exact trivial | exact vrl_flat _ (by first | exact icells_in _ | exact rcells_in _ | exact scells_in _ | exact bcells_in _ | assumption) | exact vr_val _ | exact vr_list _ | exact vr_at _ | exact vr_nil | exact vr_cap0 | exact vr_vec _ _ _ _ rfl | exact vr_own _ _ _ _ _ rfl | exact vr_ptr _ _ _ rfl | exact vr_nilv _ _ _ rfl | exact vr_bot _ | exact vr_cap0v _ _ _ rfl | exact vr_cap0l | apply vr_agg | apply vr_tup | apply vr_fn | refine vr_yld _ _ _ rfl ?_ | exact Ren.bot _ | exact Ren.val _ | exact Ren.list _ | exact Ren.at_ _ | exact Ren.ptr _ _ _ rfl | refine Ren.yld _ _ _ _ _ rfl rfl (RenL.get ?_).2 (fun _ _ _ h => h) | refine vr_fl _ _ _ _ _ (by decide) rfl ?_ ?_ ?_ ?_ | refine And.intro ⟨_, rfl, .inl ⟨_, rfl, by decide, ?_⟩⟩ ?_ | refine And.intro ⟨_, rfl, _, rfl, by decide, ?_⟩ ?_ | refine And.intro ⟨_, rfl, .inr ⟨rfl, rfl, of_decide_eq_true (by kernel_rfl)⟩⟩ ?_ | apply And.intro)
  · have h1' : (decide (-1000000 ≤ x.1) && decide (x.1 ≤ 1000000)) = false := by simpa using h1
    simp (config := {maxSteps := 10000000}) (disch := first | exact okYes (by kernel_rfl) | omega) only [dB, Nat.reduceAdd, St.app, putO, Int.reduceNeg, h1', eput_c, Nat.reduceBEq, eput_n, cond_false, hups, ARun_none, AOpRun, aexec, FSt.ev, St.F, eget_c, ↓eget_h, AGo_ok, List.map, ARun_some, AG_ft, Bool.false_eq_true, ↓reduceIte, beq_self_eq_true, cond_true, ARun_nil, dropE_c, inL_c, inL_n, dropE_n]
    refine aw_ret ?_
    have e : okS x = false := by
      unfold okS
      simp only [Bool.and_eq_false_iff, decide_eq_false_iff_not] at h1' ⊢
      omega
    rw [e]
    refine end_to [] [] (by first | exact .inl rfl | exact .inr rfl) rfl (by kernel_rfl) (by kernel_rfl) (by kernel_rfl) ?_ ?_ <;> repeat' (first | exact trivial | exact vrl_flat _ (by first | exact icells_in _ | exact rcells_in _ | exact scells_in _ | exact bcells_in _ | assumption) | exact vr_val _ | exact vr_list _ | exact vr_at _ | exact vr_nil | exact vr_cap0 | exact vr_vec _ _ _ _ rfl | exact vr_own _ _ _ _ _ rfl | exact vr_ptr _ _ _ rfl | exact vr_nilv _ _ _ rfl | exact vr_bot _ | exact vr_cap0v _ _ _ rfl | exact vr_cap0l | apply vr_agg | apply vr_tup | apply vr_fn | refine vr_yld _ _ _ rfl ?_ | exact Ren.bot _ | exact Ren.val _ | exact Ren.list _ | exact Ren.at_ _ | exact Ren.ptr _ _ _ rfl | refine Ren.yld _ _ _ _ _ rfl rfl (RenL.get ?_).2 (fun _ _ _ h => h) | refine vr_fl _ _ _ _ _ (by decide) rfl ?_ ?_ ?_ ?_ | refine And.intro ⟨_, rfl, .inl ⟨_, rfl, by decide, ?_⟩⟩ ?_ | refine And.intro ⟨_, rfl, _, rfl, by decide, ?_⟩ ?_ | refine And.intro ⟨_, rfl, .inr ⟨rfl, rfl, of_decide_eq_true (by kernel_rfl)⟩⟩ ?_ | apply And.intro)
theorem spanned1_ac (x : Int × Int) : AC Try.prog 114 [spD x] [] [] (dB (!okS x)) := by
  refine kspans_spanned_S1.ac (n0 := 0) (by simp) ⟨.agg _ (by intro d hd; simp at hd; rcases hd with rfl | rfl <;> exact .val _), trivial⟩ trivial rfl ?_
  unfold cspans_spanned_S1
  refine aw_seq (aw_region ?_)
  simp (config := {maxSteps := 10000000}) (disch := first | exact okYes (by kernel_rfl) | omega) only [thenQ, List.map, List.length, Nat.zero_add, Nat.reduceAdd, Nat.reduceMul, envOf, spD, ARun_none, AOpRun, aexec, D.isBot, FSt.ev, St.F, ↓eget_h, Bool.false_eq_true, Option.isSome, hget_n, or_self, ↓reduceIte, D.cells, AGo_ok, St.app, putO, eput_c, Nat.reduceBEq, eput_n, cond_false, hups, hput_n, ARun_nil, dropE_c, inL_n, dropE_n]
  refine aw_seq (aw_region ?_)
  simp (config := {maxSteps := 10000000}) (disch := first | exact okYes (by kernel_rfl) | omega) only [thenQ, List.length, Nat.zero_add, Nat.reduceAdd, Nat.reduceMul, ARun_none, AOpRun, aexec, FSt.ev, St.F, eget_c, Nat.reduceBEq, ↓eget_h, cond_false, hget_c, beq_self_eq_true, hget_n, cond_true, Nat.reduceLeDiff, ↓reduceIte, List.drop, List.take, AGo_ok, St.app, putO, eput_c, eput_n, hups, List.map]
  refine acall0 (valid_ac x) ?_
  simp (config := {maxSteps := 10000000}) (disch := first | exact okYes (by kernel_rfl) | omega) only [dB, Nat.reduceAdd, St.app, putO, eput_c, Nat.reduceBEq, eput_n, cond_false, hups, ARun_none, AOpRun, aexec, FSt.ev, St.F, eget_c, ↓eget_h, AGo_ok, List.map, beq_self_eq_true, cond_true, ARun_nil, dropE_c, inL_c, inL_n, dropE_n]
  refine aw_ret ?_
  refine end_to [] [] (by first | exact .inl rfl | exact .inr rfl) rfl (by kernel_rfl) (by kernel_rfl) (by kernel_rfl) ?_ ?_ <;> repeat' (first | exact trivial | exact vrl_flat _ (by first | exact icells_in _ | exact rcells_in _ | exact scells_in _ | exact bcells_in _ | assumption) | exact vr_val _ | exact vr_list _ | exact vr_at _ | exact vr_nil | exact vr_cap0 | exact vr_vec _ _ _ _ rfl | exact vr_own _ _ _ _ _ rfl | exact vr_ptr _ _ _ rfl | exact vr_nilv _ _ _ rfl | exact vr_bot _ | exact vr_cap0v _ _ _ rfl | exact vr_cap0l | apply vr_agg | apply vr_tup | apply vr_fn | refine vr_yld _ _ _ rfl ?_ | exact Ren.bot _ | exact Ren.val _ | exact Ren.list _ | exact Ren.at_ _ | exact Ren.ptr _ _ _ rfl | refine Ren.yld _ _ _ _ _ rfl rfl (RenL.get ?_).2 (fun _ _ _ h => h) | refine vr_fl _ _ _ _ _ (by decide) rfl ?_ ?_ ?_ ?_ | refine And.intro ⟨_, rfl, .inl ⟨_, rfl, by decide, ?_⟩⟩ ?_ | refine And.intro ⟨_, rfl, _, rfl, by decide, ?_⟩ ?_ | refine And.intro ⟨_, rfl, .inr ⟨rfl, rfl, of_decide_eq_true (by kernel_rfl)⟩⟩ ?_ | apply And.intro)
/-- the number of the first span that is not right -/
def badAt : Bx → Nat → Option Nat
  | [], _ => none
  | x :: b, k => if okS x = true then badAt b (k + 1) else some k
theorem badAt_none : ∀ (b : Bx) (k : Nat), badAt b k = none ↔ b.all okS = true
  | [], k => by simp [badAt]
  | x :: b, k => by
    unfold badAt
    have := badAt_none b (k + 1)
    by_cases h : okS x = true
    · rw [if_pos h, this]; simp [h]
    · rw [if_neg h]; simp [h]
theorem badAt_drop (b : Bx) (k : Nat) (h : k < b.length) : badAt (b.drop k) k = if okS (lo b k, hi b k) = true then badAt (b.drop (k + 1)) (k + 1) else some k := by
  have : b[k] = (lo b k, hi b k) := by simp [lo, hi, h]
  rw [List.drop_eq_getElem_cons h, this]
  rfl
def idxD : Option Nat → D
  | none => .val (.int .i64 (-1))
  | some k => .val (.int .i64 k)
set_option maxHeartbeats 1000000 in
theorem index_ac (b : Bx) (hl : b.length ≤ 1000) : AC Try.prog 126 [.list (sps b), .fn 114 [] []] [] [] (idxD (badAt b 0)) := by
  refine kslices_IndexFunc_L_L_Japi_Span_Kapi_Span_J.ac (n0 := 0) (by simp) ⟨.list _, .fn _ _ _ (by simp) (by simp), trivial⟩ trivial rfl ?_
  unfold cslices_IndexFunc_L_L_Japi_Span_Kapi_Span_J
  refine aw_seq (aw_region ?_)
  simp (config := {maxSteps := 10000000}) (disch := first | exact okYes (by kernel_rfl) | omega) only [thenQ, List.map, Int.reduceNeg, List.length, Nat.zero_add, Nat.reduceMul, envOf, ARun_none, AOpRun, aexec, FSt.ev, AGo_ok, St.app, putO, eput_c, Nat.reduceBEq, eput_n, cond_false, hups, ARun_nil, dropE_c, inL_n, dropE_n]
  refine aw_seq (aw_seq (aw_region ?_))
  simp (config := {maxSteps := 10000000}) (disch := first | exact okYes (by kernel_rfl) | omega) only [thenQ, Int.reduceNeg, List.length, Nat.zero_add, Nat.reduceAdd, Nat.reduceMul, ARun_none, AOpRun, aexec, FSt.ev, St.F, ↓eget_h, AGo_ok, St.app, putO, eput_c, Nat.reduceBEq, eput_n, cond_false, hups, List.map, eget_c, sps_len, ARun_nil, dropE_c, inL_c, inL_n, beq_self_eq_true, cond_true, dropE_n]
  refine aw_block (aw_loop (fun k : Nat => ⟨[(0, .list (sps b)), (1, .fn 114 [] []), (7, .val (.int .i64 b.length)), (8, .val (.int .i64 k))], [], 64⟩) (fun k => k ≤ b.length ∧ badAt b 0 = badAt (b.drop k) k) (fun k => b.length - k) ⟨0, ⟨by omega, rfl⟩, ?_⟩ ?_)
  · refine wk_to [] [] (by kernel_rfl) (by kernel_rfl) (by kernel_rfl) (by kernel_rfl) (by kernel_rfl) ?_ ?_ <;> repeat' (first | exact trivial | exact vrl_flat _ (by first | exact icells_in _ | exact rcells_in _ | exact scells_in _ | exact bcells_in _ | assumption) | exact vr_val _ | exact vr_list _ | exact vr_at _ | exact vr_nil | exact vr_cap0 | exact vr_vec _ _ _ _ rfl | exact vr_own _ _ _ _ _ rfl | exact vr_ptr _ _ _ rfl | exact vr_nilv _ _ _ rfl | exact vr_bot _ | exact vr_cap0v _ _ _ rfl | exact vr_cap0l | apply vr_agg | apply vr_tup | apply vr_fn | refine vr_yld _ _ _ rfl ?_ | exact Ren.bot _ | exact Ren.val _ | exact Ren.list _ | exact Ren.at_ _ | exact Ren.ptr _ _ _ rfl | refine Ren.yld _ _ _ _ _ rfl rfl (RenL.get ?_).2 (fun _ _ _ h => h) | refine vr_fl _ _ _ _ _ (by decide) rfl ?_ ?_ ?_ ?_ | refine And.intro ⟨_, rfl, .inl ⟨_, rfl, by decide, ?_⟩⟩ ?_ | refine And.intro ⟨_, rfl, _, rfl, by decide, ?_⟩ ?_ | refine And.intro ⟨_, rfl, .inr ⟨rfl, rfl, of_decide_eq_true (by kernel_rfl)⟩⟩ ?_ | apply And.intro)
  · rintro k ⟨hk, hb⟩
    refine aw_seq (aw_region ?_)
    simp (config := {maxSteps := 10000000}) (disch := first | exact okYes (by kernel_rfl) | omega) only [thenQ, Int.reduceNeg, List.length, Nat.zero_add, Nat.reduceMul, Nat.reduceAdd, ARun_none, AOpRun, aexec, FSt.ev, St.F, eget_c, Nat.reduceBEq, ↓eget_h, cond_false, isSh, Bool.false_eq_true, ↓reduceIte, Option.map, abin, AGo_ok, St.app, putO, eput_c, eput_n, hups, List.map, ARun_nil, dropE_c, inL_n, dropE_n]
    refine aw_seq (aw_cond rfl (fun hc => ?_) (fun hc => ?_))
    · have hk' : k < b.length := by have := of_decide_eq_true hc; omega
      refine aw_skip (aw_seq (aw_block (aw_seq (aw_region ?_))))
      simp (config := {maxSteps := 10000000}) (disch := first | exact okYes (by kernel_rfl) | omega) only [thenQ, Int.reduceNeg, List.length, Nat.zero_add, Nat.reduceAdd, Nat.reduceMul, ARun_none, AOpRun, aexec, FSt.ev, St.F, eget_c, Nat.reduceBEq, ↓eget_h, cond_false, AGo_ok, St.app, putO, eput_c, eput_n, hups, List.map, ARun_nil, dropE_c, inL_c, inL_n, beq_self_eq_true, cond_true, dropE_n]
      refine aw_seq (aw_region ?_)
      simp (config := {maxSteps := 10000000}) (disch := first | exact okYes (by kernel_rfl) | omega) only [thenQ, Int.reduceNeg, List.length, Nat.zero_add, Nat.reduceAdd, Nat.reduceMul, ARun_none, AOpRun, aexec, FSt.ev, St.F, eget_c, Nat.reduceBEq, ↓eget_h, cond_false, AGo_ok, St.app, putO, eput_c, eput_n, hups, List.map, Int.natCast_nonneg, sps_all, and_self, ↓reduceIte, opt1, Option.map, Int.toNat_natCast, sps_gd b k hk', Nat.reduceLeDiff, List.take]
      refine acall0 (spanned1_ac (lo b k, hi b k)) ?_
      simp (config := {maxSteps := 10000000}) (disch := first | exact okYes (by kernel_rfl) | omega) only [Int.reduceNeg, Nat.reduceAdd, St.app, putO, dB, eput_c, Nat.reduceBEq, eput_n, cond_false, hups, ARun_nil, dropE_c, inL_c, inL_n, beq_self_eq_true, cond_true, dropE_n]
      rw [badAt_drop b k hk'] at hb
      refine aw_cond rfl (fun hc => ?_) (fun hc => ?_)
      · have hn : okS (lo b k, hi b k) = false := by simpa using hc
        rw [hn] at hb
        refine aw_seq (aw_region ?_)
        simp (config := {maxSteps := 10000000}) (disch := first | exact okYes (by kernel_rfl) | omega) only [thenQ, Int.reduceNeg, List.length, Nat.zero_add, Nat.reduceAdd, Nat.reduceMul, ARun_none, AOpRun, aexec, FSt.ev, St.F, eget_c, Nat.reduceBEq, ↓eget_h, cond_false, AGo_ok, St.app, putO, eput_c, eput_n, hups, List.map, ARun_nil, dropE_c, inL_c, inL_n, beq_self_eq_true, cond_true, dropE_n]
        refine aw_ret ?_
        rw [hb]
        simp only [Bool.false_eq_true, if_false, idxD]
        refine end_to [] [] (by first | exact .inl rfl | exact .inr rfl) rfl (by kernel_rfl) (by kernel_rfl) (by kernel_rfl) ?_ ?_ <;> repeat' (first | exact trivial | exact vrl_flat _ (by first | exact icells_in _ | exact rcells_in _ | exact scells_in _ | exact bcells_in _ | assumption) | exact vr_val _ | exact vr_list _ | exact vr_at _ | exact vr_nil | exact vr_cap0 | exact vr_vec _ _ _ _ rfl | exact vr_own _ _ _ _ _ rfl | exact vr_ptr _ _ _ rfl | exact vr_nilv _ _ _ rfl | exact vr_bot _ | exact vr_cap0v _ _ _ rfl | exact vr_cap0l | apply vr_agg | apply vr_tup | apply vr_fn | refine vr_yld _ _ _ rfl ?_ | exact Ren.bot _ | exact Ren.val _ | exact Ren.list _ | exact Ren.at_ _ | exact Ren.ptr _ _ _ rfl | refine Ren.yld _ _ _ _ _ rfl rfl (RenL.get ?_).2 (fun _ _ _ h => h) | refine vr_fl _ _ _ _ _ (by decide) rfl ?_ ?_ ?_ ?_ | refine And.intro ⟨_, rfl, .inl ⟨_, rfl, by decide, ?_⟩⟩ ?_ | refine And.intro ⟨_, rfl, _, rfl, by decide, ?_⟩ ?_ | refine And.intro ⟨_, rfl, .inr ⟨rfl, rfl, of_decide_eq_true (by kernel_rfl)⟩⟩ ?_ | apply And.intro)
      · have hn : okS (lo b k, hi b k) = true := by simpa using hc
        rw [hn, if_pos rfl] at hb
        refine aw_skip (aw_region ?_)
        simp (config := {maxSteps := 10000000}) (disch := first | exact okYes (by kernel_rfl) | omega) only [thenQ, List.length, Nat.zero_add, Nat.reduceAdd, Nat.reduceMul, ARun_none, AOpRun, aexec, FSt.ev, St.F, eget_c, Nat.reduceBEq, ↓eget_h, cond_false, isSh, Bool.false_eq_true, ↓reduceIte, Option.map, abin, fits, AGo_ok, St.app, putO, eput_c, eput_n, hups, List.map, beq_self_eq_true, cond_true, ARun_nil, dropE_c, inL_c, inL_n, dropE_n]
        refine ⟨k + 1, ⟨hk', hb⟩, by omega, ?_⟩
        refine wk_to [] [] (by kernel_rfl) (by kernel_rfl) (by kernel_rfl) (by kernel_rfl) (by kernel_rfl) ?_ ?_ <;> repeat' (first | exact trivial | exact vrl_flat _ (by first | exact icells_in _ | exact rcells_in _ | exact scells_in _ | exact bcells_in _ | assumption) | exact vr_val _ | exact vr_list _ | exact vr_at _ | exact vr_nil | exact vr_cap0 | exact vr_vec _ _ _ _ rfl | exact vr_own _ _ _ _ _ rfl | exact vr_ptr _ _ _ rfl | exact vr_nilv _ _ _ rfl | exact vr_bot _ | exact vr_cap0v _ _ _ rfl | exact vr_cap0l | apply vr_agg | apply vr_tup | apply vr_fn | refine vr_yld _ _ _ rfl ?_ | exact Ren.bot _ | exact Ren.val _ | exact Ren.list _ | exact Ren.at_ _ | exact Ren.ptr _ _ _ rfl | refine Ren.yld _ _ _ _ _ rfl rfl (RenL.get ?_).2 (fun _ _ _ h => h) | refine vr_fl _ _ _ _ _ (by decide) rfl ?_ ?_ ?_ ?_ | refine And.intro ⟨_, rfl, .inl ⟨_, rfl, by decide, ?_⟩⟩ ?_ | refine And.intro ⟨_, rfl, _, rfl, by decide, ?_⟩ ?_ | refine And.intro ⟨_, rfl, .inr ⟨rfl, rfl, of_decide_eq_true (by kernel_rfl)⟩⟩ ?_ | apply And.intro)
    · have hk' : k = b.length := by have := of_decide_eq_false hc; omega
      subst hk'
      refine aw_exit (aw_seq (aw_region ?_))
      simp (config := {maxSteps := 10000000}) (disch := first | exact okYes (by kernel_rfl) | omega) only [thenQ, List.length, Nat.zero_add, Nat.reduceMul, Nat.reduceAdd, Int.reduceNeg, ARun_none, AOpRun, aexec, FSt.ev, AGo_ok, St.app, putO, eput_c, Nat.reduceBEq, eput_n, cond_false, hups, List.map, ARun_nil, dropE_c, inL_n, dropE_n]
      refine aw_ret ?_
      rw [hb, List.drop_length]
      refine end_to [] [] (by first | exact .inl rfl | exact .inr rfl) rfl (by kernel_rfl) (by kernel_rfl) (by kernel_rfl) ?_ ?_ <;> repeat' (first | exact trivial | exact vrl_flat _ (by first | exact icells_in _ | exact rcells_in _ | exact scells_in _ | exact bcells_in _ | assumption) | exact vr_val _ | exact vr_list _ | exact vr_at _ | exact vr_nil | exact vr_cap0 | exact vr_vec _ _ _ _ rfl | exact vr_own _ _ _ _ _ rfl | exact vr_ptr _ _ _ rfl | exact vr_nilv _ _ _ rfl | exact vr_bot _ | exact vr_cap0v _ _ _ rfl | exact vr_cap0l | apply vr_agg | apply vr_tup | apply vr_fn | refine vr_yld _ _ _ rfl ?_ | exact Ren.bot _ | exact Ren.val _ | exact Ren.list _ | exact Ren.at_ _ | exact Ren.ptr _ _ _ rfl | refine Ren.yld _ _ _ _ _ rfl rfl (RenL.get ?_).2 (fun _ _ _ h => h) | refine vr_fl _ _ _ _ _ (by decide) rfl ?_ ?_ ?_ ?_ | refine And.intro ⟨_, rfl, .inl ⟨_, rfl, by decide, ?_⟩⟩ ?_ | refine And.intro ⟨_, rfl, _, rfl, by decide, ?_⟩ ?_ | refine And.intro ⟨_, rfl, .inr ⟨rfl, rfl, of_decide_eq_true (by kernel_rfl)⟩⟩ ?_ | apply And.intro)
theorem contains_ac (b : Bx) (hl : b.length ≤ 1000) : AC Try.prog 113 [.list (sps b), .fn 114 [] []] [] [] (dB (!b.all okS)) := by
  refine kslices_ContainsFunc_L_L_Japi_Span_Kapi_Span_J.ac (n0 := 0) (by simp) ⟨.list _, .fn _ _ _ (by simp) (by simp), trivial⟩ trivial rfl ?_
  unfold cslices_ContainsFunc_L_L_Japi_Span_Kapi_Span_J
  refine aw_seq (aw_region ?_)
  simp (config := {maxSteps := 10000000}) (disch := first | exact okYes (by kernel_rfl) | omega) only [thenQ, List.map, List.length, Nat.zero_add, Nat.reduceMul, envOf, ARun_none, AOpRun, aexec, FSt.ev, AGo_ok, St.app, putO, eput_c, Nat.reduceBEq, eput_n, cond_false, hups, ARun_nil, dropE_c, inL_n, dropE_n]
  refine aw_seq (aw_region ?_)
  simp (config := {maxSteps := 10000000}) (disch := first | exact okYes (by kernel_rfl) | omega) only [thenQ, List.length, Nat.zero_add, Nat.reduceAdd, Nat.reduceMul, ARun_none, AOpRun, aexec, FSt.ev, St.F, ↓eget_h, AGo_ok, St.app, putO, eput_c, Nat.reduceBEq, eput_n, cond_false, hups, List.map, eget_c]
  refine acall0 (index_ac b hl) ?_
  have hb := badAt_none b 0
  cases hi : badAt b 0 with
  | none =>
    have h1 : b.all okS = true := hb.1 hi
    simp (config := {maxSteps := 10000000}) (disch := first | exact okYes (by kernel_rfl) | omega) only [Nat.reduceAdd, St.app, putO, idxD, Int.reduceNeg, eput_c, Nat.reduceBEq, eput_n, cond_false, hups, ARun_none, AOpRun, aexec, FSt.ev, St.F, eget_c, ↓eget_h, isSh, Bool.false_eq_true, ↓reduceIte, Option.map, abin, AGo_ok, List.map, beq_self_eq_true, cond_true, ARun_nil, dropE_c, inL_c, inL_n, dropE_n]
    refine aw_ret ?_
    rw [h1]
    refine end_to [] [] (by first | exact .inl rfl | exact .inr rfl) rfl (by kernel_rfl) (by kernel_rfl) (by kernel_rfl) ?_ ?_ <;> repeat' (first | exact trivial | exact vrl_flat _ (by first | exact icells_in _ | exact rcells_in _ | exact scells_in _ | exact bcells_in _ | assumption) | exact vr_val _ | exact vr_list _ | exact vr_at _ | exact vr_nil | exact vr_cap0 | exact vr_vec _ _ _ _ rfl | exact vr_own _ _ _ _ _ rfl | exact vr_ptr _ _ _ rfl | exact vr_nilv _ _ _ rfl | exact vr_bot _ | exact vr_cap0v _ _ _ rfl | exact vr_cap0l | apply vr_agg | apply vr_tup | apply vr_fn | refine vr_yld _ _ _ rfl ?_ | exact Ren.bot _ | exact Ren.val _ | exact Ren.list _ | exact Ren.at_ _ | exact Ren.ptr _ _ _ rfl | refine Ren.yld _ _ _ _ _ rfl rfl (RenL.get ?_).2 (fun _ _ _ h => h) | refine vr_fl _ _ _ _ _ (by decide) rfl ?_ ?_ ?_ ?_ | refine And.intro ⟨_, rfl, .inl ⟨_, rfl, by decide, ?_⟩⟩ ?_ | refine And.intro ⟨_, rfl, _, rfl, by decide, ?_⟩ ?_ | refine And.intro ⟨_, rfl, .inr ⟨rfl, rfl, of_decide_eq_true (by kernel_rfl)⟩⟩ ?_ | apply And.intro)
  | some k =>
    have h1 : b.all okS = false := by
      rw [hi] at hb
      cases h : b.all okS with
      | false => rfl
      | true => rw [h] at hb; simp at hb
    have h2 : ((k : Int) ≥ 0) := by omega
    simp (config := {maxSteps := 10000000}) (disch := first | exact okYes (by kernel_rfl) | omega) only [Nat.reduceAdd, St.app, putO, idxD, eput_c, Nat.reduceBEq, eput_n, cond_false, hups, ARun_none, AOpRun, aexec, FSt.ev, St.F, eget_c, ↓eget_h, isSh, Bool.false_eq_true, ↓reduceIte, Option.map, abin, h2, decide_true, AGo_ok, List.map, beq_self_eq_true, cond_true, ARun_nil, dropE_c, inL_c, inL_n, dropE_n]
    refine aw_ret ?_
    rw [h1]
    refine end_to [] [] (by first | exact .inl rfl | exact .inr rfl) rfl (by kernel_rfl) (by kernel_rfl) (by kernel_rfl) ?_ ?_ <;> repeat' (first | exact trivial | exact vrl_flat _ (by first | exact icells_in _ | exact rcells_in _ | exact scells_in _ | exact bcells_in _ | assumption) | exact vr_val _ | exact vr_list _ | exact vr_at _ | exact vr_nil | exact vr_cap0 | exact vr_vec _ _ _ _ rfl | exact vr_own _ _ _ _ _ rfl | exact vr_ptr _ _ _ rfl | exact vr_nilv _ _ _ rfl | exact vr_bot _ | exact vr_cap0v _ _ _ rfl | exact vr_cap0l | apply vr_agg | apply vr_tup | apply vr_fn | refine vr_yld _ _ _ rfl ?_ | exact Ren.bot _ | exact Ren.val _ | exact Ren.list _ | exact Ren.at_ _ | exact Ren.ptr _ _ _ rfl | refine Ren.yld _ _ _ _ _ rfl rfl (RenL.get ?_).2 (fun _ _ _ h => h) | refine vr_fl _ _ _ _ _ (by decide) rfl ?_ ?_ ?_ ?_ | refine And.intro ⟨_, rfl, .inl ⟨_, rfl, by decide, ?_⟩⟩ ?_ | refine And.intro ⟨_, rfl, _, rfl, by decide, ?_⟩ ?_ | refine And.intro ⟨_, rfl, .inr ⟨rfl, rfl, of_decide_eq_true (by kernel_rfl)⟩⟩ ?_ | apply And.intro)
theorem spanned_ac (b : Bx) (hl : b.length ≤ 1000) : AC Try.prog 101 [.list (sps b)] [] [] (dI (if b.all okS = true then 0 else 10)) := by
  refine kspans_spanned.ac (n0 := 0) (by simp) ⟨.list _, trivial⟩ trivial rfl ?_
  unfold cspans_spanned
  refine aw_seq (aw_region ?_)
  simp (config := {maxSteps := 10000000}) (disch := first | exact okYes (by kernel_rfl) | omega) only [thenQ, List.map, List.length, Nat.zero_add, Nat.reduceMul, envOf, ARun_none, AOpRun, aexec, FSt.ev, AGo_ok, St.app, putO, eput_c, Nat.reduceBEq, eput_n, cond_false, hups, ARun_nil, dropE_c, inL_n, dropE_n]
  refine aw_seq (aw_seq (aw_region ?_))
  simp (config := {maxSteps := 10000000}) (disch := first | exact okYes (by kernel_rfl) | omega) only [thenQ, List.length, Nat.zero_add, Nat.reduceAdd, Nat.reduceMul, ARun_none, AOpRun, aexec, FSt.ev, St.F, ↓eget_h, AGo_ok, St.app, putO, eput_c, Nat.reduceBEq, eput_n, cond_false, hups, List.map, eget_c]
  refine acall0 (contains_ac b hl) ?_
  simp (config := {maxSteps := 10000000}) (disch := first | exact okYes (by kernel_rfl) | omega) only [Nat.reduceAdd, St.app, putO, dB, eput_c, Nat.reduceBEq, eput_n, cond_false, hups, ARun_nil, dropE_c, inL_c, inL_n, beq_self_eq_true, cond_true, dropE_n]
  refine aw_cond rfl (fun hc => ?_) (fun hc => ?_)
  · have h1 : ¬ b.all okS = true := by simpa using hc
    refine aw_seq (aw_region ?_)
    simp (config := {maxSteps := 10000000}) (disch := first | exact okYes (by kernel_rfl) | omega) only [thenQ, List.length, Nat.zero_add, Nat.reduceMul, Nat.reduceAdd, ARun_none, AOpRun, aexec, FSt.ev, AGo_ok, St.app, putO, eput_c, Nat.reduceBEq, beq_self_eq_true, eput_n, cond_false, cond_true, hups, List.map, ARun_nil, dropE_c, inL_n, dropE_n]
    refine aw_ret ?_
    rw [if_neg h1]
    refine end_to [] [] (by first | exact .inl rfl | exact .inr rfl) rfl (by kernel_rfl) (by kernel_rfl) (by kernel_rfl) ?_ ?_ <;> repeat' (first | exact trivial | exact vrl_flat _ (by first | exact icells_in _ | exact rcells_in _ | exact scells_in _ | exact bcells_in _ | assumption) | exact vr_val _ | exact vr_list _ | exact vr_at _ | exact vr_nil | exact vr_cap0 | exact vr_vec _ _ _ _ rfl | exact vr_own _ _ _ _ _ rfl | exact vr_ptr _ _ _ rfl | exact vr_nilv _ _ _ rfl | exact vr_bot _ | exact vr_cap0v _ _ _ rfl | exact vr_cap0l | apply vr_agg | apply vr_tup | apply vr_fn | refine vr_yld _ _ _ rfl ?_ | exact Ren.bot _ | exact Ren.val _ | exact Ren.list _ | exact Ren.at_ _ | exact Ren.ptr _ _ _ rfl | refine Ren.yld _ _ _ _ _ rfl rfl (RenL.get ?_).2 (fun _ _ _ h => h) | refine vr_fl _ _ _ _ _ (by decide) rfl ?_ ?_ ?_ ?_ | refine And.intro ⟨_, rfl, .inl ⟨_, rfl, by decide, ?_⟩⟩ ?_ | refine And.intro ⟨_, rfl, _, rfl, by decide, ?_⟩ ?_ | refine And.intro ⟨_, rfl, .inr ⟨rfl, rfl, of_decide_eq_true (by kernel_rfl)⟩⟩ ?_ | apply And.intro)
  · have h1 : b.all okS = true := by simpa using hc
    refine aw_skip (aw_seq (aw_region ?_))
    simp (config := {maxSteps := 10000000}) (disch := first | exact okYes (by kernel_rfl) | omega) only [thenQ, List.length, Nat.zero_add, Nat.reduceMul, Nat.reduceAdd, ARun_none, AOpRun, aexec, FSt.ev, AGo_ok, St.app, putO, eput_c, Nat.reduceBEq, beq_self_eq_true, eput_n, cond_false, cond_true, hups, List.map, ARun_nil, dropE_c, inL_n, dropE_n]
    refine aw_ret ?_
    rw [if_pos h1]
    refine end_to [] [] (by first | exact .inl rfl | exact .inr rfl) rfl (by kernel_rfl) (by kernel_rfl) (by kernel_rfl) ?_ ?_ <;> repeat' (first | exact trivial | exact vrl_flat _ (by first | exact icells_in _ | exact rcells_in _ | exact scells_in _ | exact bcells_in _ | assumption) | exact vr_val _ | exact vr_list _ | exact vr_at _ | exact vr_nil | exact vr_cap0 | exact vr_vec _ _ _ _ rfl | exact vr_own _ _ _ _ _ rfl | exact vr_ptr _ _ _ rfl | exact vr_nilv _ _ _ rfl | exact vr_bot _ | exact vr_cap0v _ _ _ rfl | exact vr_cap0l | apply vr_agg | apply vr_tup | apply vr_fn | refine vr_yld _ _ _ rfl ?_ | exact Ren.bot _ | exact Ren.val _ | exact Ren.list _ | exact Ren.at_ _ | exact Ren.ptr _ _ _ rfl | refine Ren.yld _ _ _ _ _ rfl rfl (RenL.get ?_).2 (fun _ _ _ h => h) | refine vr_fl _ _ _ _ _ (by decide) rfl ?_ ?_ ?_ ?_ | refine And.intro ⟨_, rfl, .inl ⟨_, rfl, by decide, ?_⟩⟩ ?_ | refine And.intro ⟨_, rfl, _, rfl, by decide, ?_⟩ ?_ | refine And.intro ⟨_, rfl, .inr ⟨rfl, rfl, of_decide_eq_true (by kernel_rfl)⟩⟩ ?_ | apply And.intro)
theorem check_ac (b : Bx) : AC Try.prog 72 [.list (sps b)] [] [] (dI (boxE b)) := by
  refine kspans_Check.ac (n0 := 0) (by simp) ⟨.list _, trivial⟩ trivial rfl ?_
  unfold cspans_Check
  refine aw_seq (aw_region ?_)
  simp (config := {maxSteps := 10000000}) (disch := first | exact okYes (by kernel_rfl) | omega) only [thenQ, List.map, List.length, Nat.zero_add, Nat.reduceMul, envOf, ARun_none, AOpRun, aexec, FSt.ev, AGo_ok, St.app, putO, eput_c, Nat.reduceBEq, eput_n, cond_false, hups, ARun_nil, dropE_c, inL_n, dropE_n]
  refine aw_seq (aw_seq (aw_region ?_))
  simp (config := {maxSteps := 10000000}) (disch := first | exact okYes (by kernel_rfl) | omega) only [thenQ, List.length, Nat.zero_add, Nat.reduceAdd, Nat.reduceMul, ARun_none, AOpRun, aexec, FSt.ev, St.F, ↓eget_h, AGo_ok, St.app, putO, eput_c, Nat.reduceBEq, eput_n, cond_false, hups, List.map, eget_c, sps_len]
  refine acall0 (within_ac b.length 1 3) ?_
  simp (config := {maxSteps := 10000000}) (disch := first | exact okYes (by kernel_rfl) | omega) only [Nat.reduceAdd, St.app, putO, dB, eput_c, Nat.reduceBEq, eput_n, cond_false, hups, ARun_none, AOpRun, aexec, FSt.ev, St.F, eget_c, ↓eget_h, AGo_ok, List.map, ARun_nil, dropE_c, inL_c, inL_n, beq_self_eq_true, cond_true, dropE_n]
  refine aw_cond rfl (fun hc => ?_) (fun hc => ?_)
  · have h1 : ¬ (1 ≤ b.length ∧ b.length ≤ 3 ∧ b.all okS = true) := fun h => by
      simp only [Bool.not_eq_true', Bool.and_eq_false_iff, decide_eq_false_iff_not] at hc
      omega
    refine aw_seq (aw_region ?_)
    simp (config := {maxSteps := 10000000}) (disch := first | exact okYes (by kernel_rfl) | omega) only [thenQ, List.length, Nat.zero_add, Nat.reduceMul, Nat.reduceAdd, ARun_none, AOpRun, aexec, FSt.ev, AGo_ok, St.app, putO, eput_c, Nat.reduceBEq, beq_self_eq_true, eput_n, cond_false, cond_true, hups, List.map, ARun_nil, dropE_c, inL_n, dropE_n]
    refine aw_ret ?_
    unfold boxE
    rw [if_neg h1]
    refine end_to [] [] (by first | exact .inl rfl | exact .inr rfl) rfl (by kernel_rfl) (by kernel_rfl) (by kernel_rfl) ?_ ?_ <;> repeat' (first | exact trivial | exact vrl_flat _ (by first | exact icells_in _ | exact rcells_in _ | exact scells_in _ | exact bcells_in _ | assumption) | exact vr_val _ | exact vr_list _ | exact vr_at _ | exact vr_nil | exact vr_cap0 | exact vr_vec _ _ _ _ rfl | exact vr_own _ _ _ _ _ rfl | exact vr_ptr _ _ _ rfl | exact vr_nilv _ _ _ rfl | exact vr_bot _ | exact vr_cap0v _ _ _ rfl | exact vr_cap0l | apply vr_agg | apply vr_tup | apply vr_fn | refine vr_yld _ _ _ rfl ?_ | exact Ren.bot _ | exact Ren.val _ | exact Ren.list _ | exact Ren.at_ _ | exact Ren.ptr _ _ _ rfl | refine Ren.yld _ _ _ _ _ rfl rfl (RenL.get ?_).2 (fun _ _ _ h => h) | refine vr_fl _ _ _ _ _ (by decide) rfl ?_ ?_ ?_ ?_ | refine And.intro ⟨_, rfl, .inl ⟨_, rfl, by decide, ?_⟩⟩ ?_ | refine And.intro ⟨_, rfl, _, rfl, by decide, ?_⟩ ?_ | refine And.intro ⟨_, rfl, .inr ⟨rfl, rfl, of_decide_eq_true (by kernel_rfl)⟩⟩ ?_ | apply And.intro)
  · simp only [Bool.not_eq_false', Bool.and_eq_true, decide_eq_true_eq] at hc
    refine aw_skip (aw_seq (aw_region ?_))
    simp (config := {maxSteps := 10000000}) (disch := first | exact okYes (by kernel_rfl) | omega) only [thenQ, List.length, Nat.zero_add, Nat.reduceAdd, Nat.reduceMul, ARun_none, AOpRun, aexec, FSt.ev, St.F, ↓eget_h, AGo_ok, St.app, putO, eput_c, Nat.reduceBEq, eput_n, cond_false, hups, List.map, eget_c]
    refine acall0 (spanned_ac b (by omega)) ?_
    simp (config := {maxSteps := 10000000}) (disch := first | exact okYes (by kernel_rfl) | omega) only [dI, Nat.reduceAdd, St.app, putO, eput_c, Nat.reduceBEq, eput_n, cond_false, hups, ARun_none, AOpRun, aexec, FSt.ev, St.F, eget_c, ↓eget_h, AGo_ok, beq_self_eq_true, cond_true, List.map, ARun_nil, dropE_c, inL_c, inL_n, dropE_n]
    refine aw_ret ?_
    have e : boxE b = (if b.all okS = true then 0 else 10) := by
      unfold boxE
      by_cases h : b.all okS = true
      · rw [if_pos ⟨by omega, by omega, h⟩, if_pos h]
      · rw [if_neg (fun hh => h hh.2.2), if_neg h]
    rw [e]
    refine end_to [] [] (by first | exact .inl rfl | exact .inr rfl) rfl (by kernel_rfl) (by kernel_rfl) (by kernel_rfl) ?_ ?_ <;> repeat' (first | exact trivial | exact vrl_flat _ (by first | exact icells_in _ | exact rcells_in _ | exact scells_in _ | exact bcells_in _ | assumption) | exact vr_val _ | exact vr_list _ | exact vr_at _ | exact vr_nil | exact vr_cap0 | exact vr_vec _ _ _ _ rfl | exact vr_own _ _ _ _ _ rfl | exact vr_ptr _ _ _ rfl | exact vr_nilv _ _ _ rfl | exact vr_bot _ | exact vr_cap0v _ _ _ rfl | exact vr_cap0l | apply vr_agg | apply vr_tup | apply vr_fn | refine vr_yld _ _ _ rfl ?_ | exact Ren.bot _ | exact Ren.val _ | exact Ren.list _ | exact Ren.at_ _ | exact Ren.ptr _ _ _ rfl | refine Ren.yld _ _ _ _ _ rfl rfl (RenL.get ?_).2 (fun _ _ _ h => h) | refine vr_fl _ _ _ _ _ (by decide) rfl ?_ ?_ ?_ ?_ | refine And.intro ⟨_, rfl, .inl ⟨_, rfl, by decide, ?_⟩⟩ ?_ | refine And.intro ⟨_, rfl, _, rfl, by decide, ?_⟩ ?_ | refine And.intro ⟨_, rfl, .inr ⟨rfl, rfl, of_decide_eq_true (by kernel_rfl)⟩⟩ ?_ | apply And.intro)
end Go.Proofs.Ythohcimmoobaoaa
/- The first of a list of which something is so. No conditions. -/
namespace Go.Proofs.Ythohcimmoobaoaa

def ixOf {α : Type} (p : α → Bool) (l : List α) : Int := if l.any p = true then (l.findIdx p : Int) else -1
theorem ixOf_some {α : Type} {p : α → Bool} {l : List α} {d : α} {k : Nat} (hk : k < l.length) (h : ∀ j, j < k → p (l[j]?.getD d) = false) (hp : p (l[k]?.getD d) = true) : ixOf p l = k := by
  have e : p l[k] = true := by simpa [hk] using hp
  unfold ixOf
  rw [if_pos (List.any_eq_true.2 ⟨l[k], List.getElem_mem hk, e⟩)]
  have : l.findIdx p = k := (List.findIdx_eq hk).2 ⟨e, fun j hj => by
    have := h j hj
    simpa [show j < l.length by omega] using this⟩
  rw [this]
theorem ixOf_none {α : Type} {p : α → Bool} {l : List α} {d : α} (h : ∀ j, j < l.length → p (l[j]?.getD d) = false) : ixOf p l = -1 := by
  unfold ixOf
  rw [if_neg]
  intro hc
  obtain ⟨x, hx, hp⟩ := List.any_eq_true.1 hc
  obtain ⟨j, hj, rfl⟩ := List.getElem_of_mem hx
  have := h j hj
  simp [hj, hp] at this
theorem ixOf_ge {α : Type} (p : α → Bool) (l : List α) : decide (ixOf p l ≥ 0) = l.any p := by
  unfold ixOf
  cases h : l.any p <;> simp
theorem prev_next {α : Type} {p : α → Bool} {l : List α} {d : α} {k : Nat} (h : ∀ j, j < k → p (l[j]?.getD d) = false) (hp : p (l[k]?.getD d) = false) : ∀ j, j < k + 1 → p (l[j]?.getD d) = false := fun j hj => by
  rcases (by omega : j < k ∨ j = k) with h1 | rfl
  · exact h j h1
  · exact hp
/-- the first number below n of which something is so; -1: none -/
def ixR (p : Nat → Bool) (n : Nat) : Int := ixOf p (List.range n)
theorem ixR_some {p : Nat → Bool} {n k : Nat} (hk : k < n) (h : ∀ j, j < k → p j = false) (hp : p k = true) : ixR p n = k :=
  ixOf_some (d := 0) (by simpa using hk) (fun j hj => by simpa [show j < n by omega] using h j hj) (by simpa [hk] using hp)
theorem ixR_none {p : Nat → Bool} {n : Nat} (h : ∀ j, j < n → p j = false) : ixR p n = -1 :=
  ixOf_none (d := 0) fun j hj => by
    have hj' : j < n := by simpa using hj
    simpa [hj'] using h j hj'
end Go.Proofs.Ythohcimmoobaoaa
/- A list of gusts: is one not right? No conditions. -/
set_option linter.unusedSimpArgs false
set_option linter.unusedVariables false
namespace Go.Proofs.Ythohcimmoobaoaa
open Go.RowKit Lift

set_option maxRecDepth 100000 in
set_option maxHeartbeats 1000000 in
theorem gustI_ac  (l : List Int) (hl : l.length ≤ 1000000) : AC Try.prog 92 [.list (ints l), .fn 52 [] []] [] [] (dI (ixOf (fun g => !wI g (-100) 100) l)) := by
  refine kslices_IndexFunc_L_L_Jint_Kint_J.ac (n0 := 0) (by simp) ⟨.list _, .fn _ _ _ (by simp) (by simp), trivial⟩ trivial rfl ?_
  unfold cslices_IndexFunc_L_L_Jint_Kint_J
  generalize hp : (fun g => !wI g (-100) 100) = p
  have hpa : ∀ x, p x = (fun g => !wI g (-100) 100) x := fun x => by rw [hp]
  generalize hR : ixOf p l = R
  (have hg : (987654321 : Nat) - 987654321 = 0 := rfl; have hr := hg; repeat' (first | refine aw_seq ?_ | (refine aw_skip ?_; try simp only [thenQ, blockQ, if_true, if_false, Nat.reduceEqDiff, reduceCtorEq]) | (refine aw_exit ?_; try simp only [thenQ, blockQ, if_true, if_false, Nat.reduceEqDiff, reduceCtorEq]) | refine aw_ret ?_ | refine aw_block ?_ | refine aw_condT rfl ?_ | refine aw_condF rfl ?_ | (refine aw_cond rfl (fun hg => ?_) (fun hg => ?_) <;> (try (have hq := hg; simp only [Bool.not_eq_true', Bool.not_eq_false', Bool.and_eq_true, Bool.and_eq_false_iff, Bool.or_eq_true, Bool.or_eq_false_iff, decide_eq_true_eq, decide_eq_false_iff_not, bne_iff_ne, beq_iff_eq, beq_eq_false_iff_ne, bne_eq_false_iff_eq, ne_eq, Int.not_lt, Int.not_le, Decidable.not_not] at hq)) <;> (try (have hr := hg; simp only [decide_eq_true_eq, decide_eq_false_iff_not] at hr)) <;> (try (exfalso; omega))) | ((first | refine aw_region ?_ | refine ago_if (by omega) ?_ | skip); simp (config := {maxSteps := 10000000}) (disch := first | exact okYes (by kernel_rfl) | omega) only [thenQ, List.map, Int.reduceNeg, List.length, Nat.zero_add, Nat.reduceMul, envOf, ARun_none, AOpRun, aexec, FSt.ev, AGo_ok, St.app, putO, eput_c, Nat.reduceBEq, eput_n, cond_false, hups, ARun_nil, dropE_c, inL_n, dropE_n, Nat.reduceAdd, St.F, ↓eget_h, eget_c, ints_len, inL_c, beq_self_eq_true, cond_true])))
  refine aw_loop (fun k : Nat => ⟨[(0, .list (ints l)), (1, .fn 52 [] []), (7, dI l.length), (8, dI k)], [], 400⟩) (fun k => k ≤ l.length ∧ ∀ j, j < k → p (l[j]?.getD 0) = false) (fun k => l.length - k) ⟨0, ⟨by omega, by omega⟩, ?_⟩ ?_
  · refine wk_to [] [] (by kernel_rfl) (by kernel_rfl) (by kernel_rfl) (by kernel_rfl) (by kernel_rfl) ?_ ?_ <;> repeat' (first | exact trivial | exact vrl_flat _ (by first | exact icells_in _ | exact rcells_in _ | exact scells_in _ | exact bcells_in _ | assumption) | exact vr_val _ | exact vr_list _ | exact vr_at _ | exact vr_nil | exact vr_cap0 | exact vr_vec _ _ _ _ rfl | exact vr_own _ _ _ _ _ rfl | exact vr_ptr _ _ _ rfl | exact vr_nilv _ _ _ rfl | exact vr_bot _ | exact vr_cap0v _ _ _ rfl | exact vr_cap0l | apply vr_agg | apply vr_tup | apply vr_fn | refine vr_yld _ _ _ rfl ?_ | exact Ren.bot _ | exact Ren.val _ | exact Ren.list _ | exact Ren.at_ _ | exact Ren.ptr _ _ _ rfl | refine Ren.yld _ _ _ _ _ rfl rfl (RenL.get ?_).2 (fun _ _ _ h => h) | refine vr_fl _ _ _ _ _ (by decide) rfl ?_ ?_ ?_ ?_ | refine And.intro ⟨_, rfl, .inl ⟨_, rfl, by decide, ?_⟩⟩ ?_ | refine And.intro ⟨_, rfl, _, rfl, by decide, ?_⟩ ?_ | refine And.intro ⟨_, rfl, .inr ⟨rfl, rfl, of_decide_eq_true (by kernel_rfl)⟩⟩ ?_ | apply And.intro)
  · rintro k ⟨hk, hv⟩
    by_cases hk2 : k < l.length
    · have g1 := ints_gd l k hk2
      cases hx : p (l[k]?.getD 0) with
      | true =>
        have hx2 := hx
        rw [hpa] at hx2
        rw [← hR, ixOf_some hk2 hv hx]
        (have hg : (987654321 : Nat) - 987654321 = 0 := rfl; have hr := hg; repeat' (first | refine aw_seq ?_ | (refine aw_skip ?_; try simp only [thenQ, blockQ, if_true, if_false, Nat.reduceEqDiff, reduceCtorEq]) | (refine aw_exit ?_; try simp only [thenQ, blockQ, if_true, if_false, Nat.reduceEqDiff, reduceCtorEq]) | refine aw_ret ?_ | refine aw_block ?_ | refine aw_condT rfl ?_ | refine aw_condF rfl ?_ | (refine aw_cond rfl (fun hg => ?_) (fun hg => ?_) <;> (try (have hq := hg; simp only [Bool.not_eq_true', Bool.not_eq_false', Bool.and_eq_true, Bool.and_eq_false_iff, Bool.or_eq_true, Bool.or_eq_false_iff, decide_eq_true_eq, decide_eq_false_iff_not, bne_iff_ne, beq_iff_eq, beq_eq_false_iff_ne, bne_eq_false_iff_eq, ne_eq, Int.not_lt, Int.not_le, Decidable.not_not] at hq)) <;> (try (have hr := hg; simp only [decide_eq_true_eq, decide_eq_false_iff_not] at hr)) <;> (try (exfalso; omega))) | ((first | refine aw_region ?_ | refine acall0 (s1_ac _) ?_ | refine ago_if (by omega) ?_ | skip); simp (config := {maxSteps := 10000000}) (disch := first | exact okYes (by kernel_rfl) | omega) only [thenQ, dI, Int.reduceNeg, List.length, Nat.zero_add, Nat.reduceMul, Nat.reduceAdd, ARun_none, AOpRun, aexec, FSt.ev, St.F, eget_c, Nat.reduceBEq, ↓eget_h, cond_false, isSh, Bool.false_eq_true, ↓reduceIte, Option.map, abin, AGo_ok, St.app, putO, eput_c, eput_n, hups, List.map, ARun_nil, dropE_c, inL_n, dropE_n, hr, decide_true, inL_c, beq_self_eq_true, cond_true, Int.natCast_nonneg, ints_all, and_self, opt1, Int.toNat_natCast, g1, run1, List.getElem?_cons_zero, dB, hx2, blockQ])))
        all_goals (refine end_to [] [] (by first | exact .inl rfl | exact .inr rfl) rfl (by kernel_rfl) (by kernel_rfl) (by kernel_rfl) ?_ ?_ <;> repeat' (first | exact trivial | exact vrl_flat _ (by first | exact icells_in _ | exact rcells_in _ | exact scells_in _ | exact bcells_in _ | assumption) | exact vr_val _ | exact vr_list _ | exact vr_at _ | exact vr_nil | exact vr_cap0 | exact vr_vec _ _ _ _ rfl | exact vr_own _ _ _ _ _ rfl | exact vr_ptr _ _ _ rfl | exact vr_nilv _ _ _ rfl | exact vr_bot _ | exact vr_cap0v _ _ _ rfl | exact vr_cap0l | apply vr_agg | apply vr_tup | apply vr_fn | refine vr_yld _ _ _ rfl ?_ | exact Ren.bot _ | exact Ren.val _ | exact Ren.list _ | exact Ren.at_ _ | exact Ren.ptr _ _ _ rfl | refine Ren.yld _ _ _ _ _ rfl rfl (RenL.get ?_).2 (fun _ _ _ h => h) | refine vr_fl _ _ _ _ _ (by decide) rfl ?_ ?_ ?_ ?_ | refine And.intro ⟨_, rfl, .inl ⟨_, rfl, by decide, ?_⟩⟩ ?_ | refine And.intro ⟨_, rfl, _, rfl, by decide, ?_⟩ ?_ | refine And.intro ⟨_, rfl, .inr ⟨rfl, rfl, of_decide_eq_true (by kernel_rfl)⟩⟩ ?_ | apply And.intro | refine vr_valq ?_ | refine vr_listq ?_))
      | false =>
        have hx2 := hx
        rw [hpa] at hx2
        (have hg : (987654321 : Nat) - 987654321 = 0 := rfl; have hr := hg; repeat' (first | refine aw_seq ?_ | (refine aw_skip ?_; try simp only [thenQ, blockQ, if_true, if_false, Nat.reduceEqDiff, reduceCtorEq]) | (refine aw_exit ?_; try simp only [thenQ, blockQ, if_true, if_false, Nat.reduceEqDiff, reduceCtorEq]) | refine aw_ret ?_ | refine aw_block ?_ | refine aw_condT rfl ?_ | refine aw_condF rfl ?_ | (refine aw_cond rfl (fun hg => ?_) (fun hg => ?_) <;> (try (have hq := hg; simp only [Bool.not_eq_true', Bool.not_eq_false', Bool.and_eq_true, Bool.and_eq_false_iff, Bool.or_eq_true, Bool.or_eq_false_iff, decide_eq_true_eq, decide_eq_false_iff_not, bne_iff_ne, beq_iff_eq, beq_eq_false_iff_ne, bne_eq_false_iff_eq, ne_eq, Int.not_lt, Int.not_le, Decidable.not_not] at hq)) <;> (try (have hr := hg; simp only [decide_eq_true_eq, decide_eq_false_iff_not] at hr)) <;> (try (exfalso; omega))) | ((first | refine aw_region ?_ | refine acall0 (s1_ac _) ?_ | refine ago_if (by omega) ?_ | skip); simp (config := {maxSteps := 10000000}) (disch := first | exact okYes (by kernel_rfl) | omega) only [thenQ, dI, Int.reduceNeg, List.length, Nat.zero_add, Nat.reduceMul, Nat.reduceAdd, ARun_none, AOpRun, aexec, FSt.ev, St.F, eget_c, Nat.reduceBEq, ↓eget_h, cond_false, isSh, Bool.false_eq_true, ↓reduceIte, Option.map, abin, AGo_ok, St.app, putO, eput_c, eput_n, hups, List.map, ARun_nil, dropE_c, inL_n, dropE_n, hr, decide_true, inL_c, beq_self_eq_true, cond_true, Int.natCast_nonneg, ints_all, and_self, opt1, Int.toNat_natCast, g1, run1, List.getElem?_cons_zero, dB, hx2, fits])))
        exact ⟨k + 1, ⟨by omega, prev_next hv hx⟩, by omega, by refine wk_to [] [] (by kernel_rfl) (by kernel_rfl) (by kernel_rfl) (by kernel_rfl) (by kernel_rfl) ?_ ?_ <;> repeat' (first | exact trivial | exact vrl_flat _ (by first | exact icells_in _ | exact rcells_in _ | exact scells_in _ | exact bcells_in _ | assumption) | exact vr_val _ | exact vr_list _ | exact vr_at _ | exact vr_nil | exact vr_cap0 | exact vr_vec _ _ _ _ rfl | exact vr_own _ _ _ _ _ rfl | exact vr_ptr _ _ _ rfl | exact vr_nilv _ _ _ rfl | exact vr_bot _ | exact vr_cap0v _ _ _ rfl | exact vr_cap0l | apply vr_agg | apply vr_tup | apply vr_fn | refine vr_yld _ _ _ rfl ?_ | exact Ren.bot _ | exact Ren.val _ | exact Ren.list _ | exact Ren.at_ _ | exact Ren.ptr _ _ _ rfl | refine Ren.yld _ _ _ _ _ rfl rfl (RenL.get ?_).2 (fun _ _ _ h => h) | refine vr_fl _ _ _ _ _ (by decide) rfl ?_ ?_ ?_ ?_ | refine And.intro ⟨_, rfl, .inl ⟨_, rfl, by decide, ?_⟩⟩ ?_ | refine And.intro ⟨_, rfl, _, rfl, by decide, ?_⟩ ?_ | refine And.intro ⟨_, rfl, .inr ⟨rfl, rfl, of_decide_eq_true (by kernel_rfl)⟩⟩ ?_ | apply And.intro)⟩
    · obtain rfl : k = l.length := by omega
      rw [← hR, ixOf_none hv]
      (have hg : (987654321 : Nat) - 987654321 = 0 := rfl; have hr := hg; repeat' (first | refine aw_seq ?_ | (refine aw_skip ?_; try simp only [thenQ, blockQ, if_true, if_false, Nat.reduceEqDiff, reduceCtorEq]) | (refine aw_exit ?_; try simp only [thenQ, blockQ, if_true, if_false, Nat.reduceEqDiff, reduceCtorEq]) | refine aw_ret ?_ | refine aw_block ?_ | refine aw_condT rfl ?_ | refine aw_condF rfl ?_ | (refine aw_cond rfl (fun hg => ?_) (fun hg => ?_) <;> (try (have hq := hg; simp only [Bool.not_eq_true', Bool.not_eq_false', Bool.and_eq_true, Bool.and_eq_false_iff, Bool.or_eq_true, Bool.or_eq_false_iff, decide_eq_true_eq, decide_eq_false_iff_not, bne_iff_ne, beq_iff_eq, beq_eq_false_iff_ne, bne_eq_false_iff_eq, ne_eq, Int.not_lt, Int.not_le, Decidable.not_not] at hq)) <;> (try (have hr := hg; simp only [decide_eq_true_eq, decide_eq_false_iff_not] at hr)) <;> (try (exfalso; omega))) | ((first | refine aw_region ?_ | refine ago_if (by omega) ?_ | skip); simp (config := {maxSteps := 10000000}) (disch := first | exact okYes (by kernel_rfl) | omega) only [thenQ, dI, Int.reduceNeg, List.length, Nat.zero_add, Nat.reduceMul, Nat.reduceAdd, ARun_none, AOpRun, aexec, FSt.ev, St.F, eget_c, Nat.reduceBEq, ↓eget_h, cond_false, isSh, Bool.false_eq_true, ↓reduceIte, Option.map, abin, AGo_ok, St.app, putO, eput_c, eput_n, hups, List.map, ARun_nil, dropE_c, inL_n, dropE_n, hr, decide_false])))
      all_goals (refine end_to [] [] (by first | exact .inl rfl | exact .inr rfl) rfl (by kernel_rfl) (by kernel_rfl) (by kernel_rfl) ?_ ?_ <;> repeat' (first | exact trivial | exact vrl_flat _ (by first | exact icells_in _ | exact rcells_in _ | exact scells_in _ | exact bcells_in _ | assumption) | exact vr_val _ | exact vr_list _ | exact vr_at _ | exact vr_nil | exact vr_cap0 | exact vr_vec _ _ _ _ rfl | exact vr_own _ _ _ _ _ rfl | exact vr_ptr _ _ _ rfl | exact vr_nilv _ _ _ rfl | exact vr_bot _ | exact vr_cap0v _ _ _ rfl | exact vr_cap0l | apply vr_agg | apply vr_tup | apply vr_fn | refine vr_yld _ _ _ rfl ?_ | exact Ren.bot _ | exact Ren.val _ | exact Ren.list _ | exact Ren.at_ _ | exact Ren.ptr _ _ _ rfl | refine Ren.yld _ _ _ _ _ rfl rfl (RenL.get ?_).2 (fun _ _ _ h => h) | refine vr_fl _ _ _ _ _ (by decide) rfl ?_ ?_ ?_ ?_ | refine And.intro ⟨_, rfl, .inl ⟨_, rfl, by decide, ?_⟩⟩ ?_ | refine And.intro ⟨_, rfl, _, rfl, by decide, ?_⟩ ?_ | refine And.intro ⟨_, rfl, .inr ⟨rfl, rfl, of_decide_eq_true (by kernel_rfl)⟩⟩ ?_ | apply And.intro | refine vr_valq ?_ | refine vr_listq ?_))
set_option maxRecDepth 100000 in
set_option maxHeartbeats 1000000 in
theorem gustC_ac  (l : List Int) (hl : l.length ≤ 1000000) : AC Try.prog 51 [.list (ints l), .fn 52 [] []] [] [] (dB (l.any (fun g => !wI g (-100) 100))) := by
  refine kslices_ContainsFunc_L_L_Jint_Kint_J.ac (n0 := 0) (by simp) ⟨.list _, .fn _ _ _ (by simp) (by simp), trivial⟩ trivial rfl ?_
  unfold cslices_ContainsFunc_L_L_Jint_Kint_J
  rw [← ixOf_ge]
  (have hg : (987654321 : Nat) - 987654321 = 0 := rfl; have hr := hg; repeat' (first | refine aw_seq ?_ | (refine aw_skip ?_; try simp only [thenQ, blockQ, if_true, if_false, Nat.reduceEqDiff, reduceCtorEq]) | (refine aw_exit ?_; try simp only [thenQ, blockQ, if_true, if_false, Nat.reduceEqDiff, reduceCtorEq]) | refine aw_ret ?_ | refine aw_block ?_ | refine aw_condT rfl ?_ | refine aw_condF rfl ?_ | (refine aw_cond rfl (fun hg => ?_) (fun hg => ?_) <;> (try (have hq := hg; simp only [Bool.not_eq_true', Bool.not_eq_false', Bool.and_eq_true, Bool.and_eq_false_iff, Bool.or_eq_true, Bool.or_eq_false_iff, decide_eq_true_eq, decide_eq_false_iff_not, bne_iff_ne, beq_iff_eq, beq_eq_false_iff_ne, bne_eq_false_iff_eq, ne_eq, Int.not_lt, Int.not_le, Decidable.not_not] at hq)) <;> (try (have hr := hg; simp only [decide_eq_true_eq, decide_eq_false_iff_not] at hr)) <;> (try (exfalso; omega))) | ((first | refine aw_region ?_ | refine acall0 (gustI_ac  l hl) ?_ | refine ago_if (by omega) ?_ | skip); simp (config := {maxSteps := 10000000}) (disch := first | exact okYes (by kernel_rfl) | omega) only [thenQ, List.map, Int.reduceNeg, List.length, Nat.zero_add, Nat.reduceMul, envOf, ARun_none, AOpRun, aexec, FSt.ev, AGo_ok, St.app, putO, eput_c, Nat.reduceBEq, eput_n, cond_false, hups, ARun_nil, dropE_c, inL_n, dropE_n, Nat.reduceAdd, St.F, ↓eget_h, eget_c, dI, isSh, Bool.false_eq_true, ↓reduceIte, Option.map, abin, beq_self_eq_true, cond_true, inL_c])))
  all_goals (refine end_to [] [] (by first | exact .inl rfl | exact .inr rfl) rfl (by kernel_rfl) (by kernel_rfl) (by kernel_rfl) ?_ ?_ <;> repeat' (first | exact trivial | exact vrl_flat _ (by first | exact icells_in _ | exact rcells_in _ | exact scells_in _ | exact bcells_in _ | assumption) | exact vr_val _ | exact vr_list _ | exact vr_at _ | exact vr_nil | exact vr_cap0 | exact vr_vec _ _ _ _ rfl | exact vr_own _ _ _ _ _ rfl | exact vr_ptr _ _ _ rfl | exact vr_nilv _ _ _ rfl | exact vr_bot _ | exact vr_cap0v _ _ _ rfl | exact vr_cap0l | apply vr_agg | apply vr_tup | apply vr_fn | refine vr_yld _ _ _ rfl ?_ | exact Ren.bot _ | exact Ren.val _ | exact Ren.list _ | exact Ren.at_ _ | exact Ren.ptr _ _ _ rfl | refine Ren.yld _ _ _ _ _ rfl rfl (RenL.get ?_).2 (fun _ _ _ h => h) | refine vr_fl _ _ _ _ _ (by decide) rfl ?_ ?_ ?_ ?_ | refine And.intro ⟨_, rfl, .inl ⟨_, rfl, by decide, ?_⟩⟩ ?_ | refine And.intro ⟨_, rfl, _, rfl, by decide, ?_⟩ ?_ | refine And.intro ⟨_, rfl, .inr ⟨rfl, rfl, of_decide_eq_true (by kernel_rfl)⟩⟩ ?_ | apply And.intro | refine vr_valq ?_ | refine vr_listq ?_))
end Go.Proofs.Ythohcimmoobaoaa
/- A call that takes one slice of one's own, to look at. No conditions. -/
namespace Go.Proofs.Ythohcimmoobaoaa.Lift
open Go Go.RowKit

theorem flat_len {sz : Nat} : ∀ l : List (List D), (∀ e ∈ l, e.length = sz) → l.flatten.length = l.length * sz
  | [], _ => by simp
  | x :: l, h => by
    simp only [List.flatten_cons, List.length_append, List.length_cons, flat_len l fun e he => h e (List.mem_cons_of_mem _ he), h x (List.mem_cons_self ..)]
    rw [Nat.succ_mul]; omega
section
variable {P : Program} {dr : Bool} {b : Nat} {Q : St → Prop} {dst : Option Nat} {anc : List Nat} {l : List AOper} {k : Nat} {s : St} {log : Lg}
theorem acallV1 {f : FuncId} {g n sz : Nat} {L : List (List D)} {c : List D} {d : D} (hA : AC P f [.list L] [] [] d) (hF : Flat d) (hc : hget s.hp g = some c) (h4 : ∀ e ∈ L, e.length = sz) (h5 : L.length = n) (h6 : L.flatten = c) (h7 : ∀ x ∈ c, In (fun _ => False) x)
    (hl : okLog dr log anc [g] [] = true) (h : ARun P dr b Q l (k + 1) (s.app dst d []) ((k, [g], []) :: log)) : ACallK P dr b Q (.fn f [] []) [.vec g n sz] dst anc l k s log :=
  acall (args' := [.list L]) hA [g] ⟨by
    have := flat_len L h4
    rw [h6, h5] at this
    exact .vec g n sz c L (List.mem_singleton.2 rfl) hc (by omega) h4 h5 (by rw [h6, List.take_of_length_le (by omega)]) h7, trivial⟩ (.inr hF) (fun x hx => by rw [List.mem_singleton.1 hx]; exact ⟨c, hc⟩) hl h
end
end Go.Proofs.Ythohcimmoobaoaa.Lift
/- Sets of starts and gusts: what is right; how one is made. No conditions. -/
set_option linter.unusedSimpArgs false
set_option linter.unusedVariables false
namespace Go.Proofs.Ythohcimmoobaoaa
open Go.RowKit Lift

theorem box1 (x : Int × Int) : boxE [x] = if okS x = true then 0 else 10 := by
  unfold boxE; by_cases h : okS x = true <;> simp [h]
theorem okS_t {x : Int × Int} (h : okS x = true) : -1000000 ≤ x.1 ∧ x.1 ≤ x.2 ∧ x.2 ≤ 1000000 := by
  simp only [okS, Bool.and_eq_true, decide_eq_true_eq] at h; omega
end Go.Proofs.Ythohcimmoobaoaa
/- The contracts of spans.Bound and spans.Worst. -/
namespace Go.Proofs.Ythohcimmoobaoaa
open Go.RowKit

def pts (xs ys : List Int) (vs : List (List Int)) (x y : Int × Int) : List Pt := allPts xs ys vs (stopsL xs x.1 x.2) (stopsL ys y.1 y.2)
def bnd (xs ys : List Int) (vs : List (List Int)) (x y : Int × Int) : Int × Int :=
  match extrE (pts xs ys vs x y) with
  | some (l, m) => (l.n / l.d, -(-m.n / m.d))
  | none => (0, 0)
def wst (xs ys : List Int) (vs : List (List Int)) (x y : Int × Int) : Int × Int :=
  match extrE (pts xs ys vs x y) with
  | some (_, m) => (m.x, m.y)
  | none => (0, 0)
theorem bnd_eq {xs ys : List Int} {vs : List (List Int)} {x y : Int × Int} {l m : Pt} (h : extrE (pts xs ys vs x y) = some (l, m)) : bnd xs ys vs x y = (l.n / l.d, -(-m.n / m.d)) := by unfold bnd; rw [h]
theorem wst_eq {xs ys : List Int} {vs : List (List Int)} {x y : Int × Int} {l m : Pt} (h : extrE (pts xs ys vs x y) = some (l, m)) : wst xs ys vs x y = (m.x, m.y) := by unfold wst; rw [h]
theorem vB_iff {x : Int × Int} : vB x = true ↔ -1000000 ≤ x.1 ∧ x.1 ≤ x.2 ∧ x.2 ≤ 1000000 := by simp [vB, wB, and_assoc]
/-- what a box on a table owes -/
structure OnT (xs ys : List Int) (vs : List (List Int)) (x y : Int × Int) : Prop where
  t : Tbl xs ys vs
  x1 : xs[0]?.getD 0 ≤ x.1
  x2 : x.2 ≤ xs[xs.length-1]?.getD 0
  x3 : x.1 ≤ x.2
  y1 : ys[0]?.getD 0 ≤ y.1
  y2 : y.2 ≤ ys[ys.length-1]?.getD 0
  y3 : y.1 ≤ y.2
theorem liesB_iff {l : List Int} {x : Int × Int} : liesB l x = true ↔ l[0]?.getD 0 ≤ x.1 ∧ x.2 ≤ l[l.length - 1]?.getD 0 := by simp [liesB]
theorem cp_zero {xs ys : List Int} {vs : List (List Int)} {x y : Int × Int} (h : cpErr xs ys vs x y = 0) : OnT xs ys vs x y := by
  unfold cpErr at h
  by_cases ht : tabB xs ys vs = true
  · rw [if_pos ht] at h
    by_cases hs : (spErr [x, y] != 0) = true
    · rw [if_pos hs] at h
      simp at hs
      exact absurd h hs
    · rw [if_neg hs] at h
      by_cases hl : (liesB xs x && liesB ys y) = true
      · simp only [Bool.and_eq_true] at hl
        have h1 := liesB_iff.1 hl.1
        have h2 := liesB_iff.1 hl.2
        have hs' : spErr [x, y] = 0 := by simpa using hs
        unfold spErr at hs'
        by_cases ha : [x, y].any (fun x => !vB x) = true
        · rw [if_pos ha] at hs'; omega
        · have ha' : [x, y].any (fun x => !vB x) = false := by simpa using ha
          simp at ha'
          have v1 := vB_iff.1 ha'.1
          have v2 := vB_iff.1 ha'.2
          exact ⟨tbl_of ht, h1.1, h1.2, v1.2.1, h2.1, h2.2, v2.2.1⟩
      · rw [if_neg hl] at h; omega
  · rw [if_neg ht] at h; omega
theorem extremesR {xs ys : List Int} {vs : List (List Int)} {x y : Int × Int} {X Y V : Option Addr} {cx cy cv : Nat} {w : World} (h : OnT xs ys vs x y) (hR : TabR w X Y V cx cy cv xs ys vs) :
    Calls Try.prog 77 #[.agg #[.slice X xs.length cx, .slice Y ys.length cy, .slice V vs.length cv], .agg #[.int .i64 x.1, .int .i64 x.2], .agg #[.int .i64 y.1, .int .i64 y.2]] w (ExtPost (pts xs ys vs x y) w) :=
  extremes_any xs ys vs X Y V cx cy cv x.1 x.2 y.1 y.2 w h.t h.x1 h.x2 h.x3 h.y1 h.y2 h.y3 hR
def boundR (xs ys : List Int) (vs : List (List Int)) (x y : Int × Int) : (Int × Int) × Int := if cpErr xs ys vs x y != 0 then ((0, 0), cpErr xs ys vs x y) else (bnd xs ys vs x y, 0)
set_option maxRecDepth 100000 in
set_option maxHeartbeats 2000000 in
theorem bound_any (xs ys : List Int) (vs : List (List Int)) (X Y V : Option Addr) (cx cy cv : Nat) (x y : Int × Int) (w : World) (hS : TSz xs ys vs) (hR : TabR w X Y V cx cy cv xs ys vs) :
   Calls Try.prog 35 #[.agg #[.slice X xs.length cx, .slice Y ys.length cy, .slice V vs.length cv], .agg #[.int .i64 x.1, .int .i64 x.2], .agg #[.int .i64 y.1, .int .i64 y.2]] w fun e w' =>
     e = .returned (.tuple #[.agg #[.int .i64 (boundR xs ys vs x y).1.1, .int .i64 (boundR xs ys vs x y).1.2], .int .i64 (boundR xs ys vs x y).2]) ∧ Below w.heap.size w w' := by
  obtain ⟨xl, xh⟩ := x
  obtain ⟨yl, yh⟩ := y
  show Calls Try.prog 35 #[.agg #[.slice X xs.length cx, .slice Y ys.length cy, .slice V vs.length cv], .agg #[.int .i64 xl, .int .i64 xh], .agg #[.int .i64 yl, .int .i64 yh]] w _
  have HRR := Lib.hid hR
  have HS := Lib.hid hS
  obtain ⟨W, hW⟩ : ∃ W, (w3 w (.slice X xs.length cx) (.slice Y ys.length cy) (.slice V vs.length cv) (.int .i64 xl) (.int .i64 xh) (.int .i64 yl) (.int .i64 yh)).alloc (.cells #[.int .i64 0, .int .i64 0] 27) = W := ⟨_, rfl⟩
  have hWz : W.heap.size = w.heap.size + 4 := by rw [← hW]; simp [w3]
  have hWb : Below w.heap.size w W := by rw [← hW]; exact (w3_below w _ _ _ _ _ _ _).alloc w3_le _
  have hW3 : Below (w.heap.size + 3) (w3 w (.slice X xs.length cx) (.slice Y ys.length cy) (.slice V vs.length cv) (.int .i64 xl) (.int .i64 xh) (.int .i64 yl) (.int .i64 yh)) W := by rw [← hW]; exact (Below.refl _ _).alloc w3_le3 _
  have hWc : W.heap[w.heap.size + 1 + 1 + 1]? = some (.cells #[.int .i64 0, .int .i64 0] 27) := by rw [← hW, heap_alloc_at, w3_size, if_pos (by omega)]
  have HWz := Lib.hid hWz
  have HWb := Lib.hid hWb
  have HW3 := Lib.hid hW3
  have HWc := Lib.hid hWc
  have HW := Lib.hid hW
  clear hR hS hWz hWb hW3 hWc hW
  go_enter Try.func35, Try.ntmps35
  go_wp2_with fail
  have hW := HW.out
  unfold w3 at hW
  rw [hW]
  clear hW
  refine (checkPoints_any xs ys vs X Y V cx cy cv (xl, xh) (yl, yh) W HS.out (HRR.out.below HWb.out)).mono ?_
  rintro e w1 ⟨rfl, hb1⟩
  have hz1 := HWz.out
  obtain ⟨⟨a1, a2, a3⟩, ⟨a4, a5⟩, ⟨a6, a7⟩, hz⟩ := boxes3 (N := w.heap.size + 3) (HW3.out.trans (hb1.mono (by omega))) (by omega)
  have hc := (hb1.block (w.heap.size + 1 + 1 + 1) (by omega)).trans HWc.out
  have r0 : w1.cell? ⟨w.heap.size + 1 + 1 + 1, 0, none⟩ = some (.int .i64 0) := by rw [cell_of_row w1 _ 0 _ _ _ hc]; rfl
  have r1 : w1.cell? ⟨w.heap.size + 1 + 1 + 1, 1, none⟩ = some (.int .i64 0) := by rw [cell_of_row w1 _ 1 _ _ _ hc]; rfl
  have f0 : w1.frozen? ⟨w.heap.size + 1 + 1 + 1, 0, none⟩ = false := by simp [World.frozen?, hc]
  have f1 : w1.frozen? ⟨w.heap.size + 1 + 1 + 1, 1, none⟩ = false := by simp [World.frozen?, hc]
  have HB1 := Lib.hid hb1
  have HC1 := Lib.hid hc
  have hz4 : w.heap.size + 1 + 1 + 1 < w1.heap.size := by have := hb1.size; omega
  clear hz1 hc hb1
  by_cases he : (cpErr xs ys vs (xl, xh) (yl, yh) != 0) = true
  · have R : Hid (boundR xs ys vs (xl, xh) (yl, yh) = ((0, 0), cpErr xs ys vs (xl, xh) (yl, yh))) := by unfold Hid boundR; rw [if_pos he]
    generalize cpErr xs ys vs (xl, xh) (yl, yh) = ce at *
    go_wp2_with fail
    refine bodyPost_ret (v := .tuple #[.agg #[.int .i64 0, .int .i64 0], .int .i64 ce]) (by simp [results, Try.results35, go_sem, r0, r1]) rfl ⟨by rw [R.out], ?_⟩
    exact ((HWb.out.trans (HB1.out.mono HWb.out.size)).setCell (p := ⟨w.heap.size + 1 + 1 + 1, 0, none⟩) (by show _ ≤ _ + 1 + 1 + 1; omega) _).setCell (p := ⟨w.heap.size + 1 + 1 + 1, 1, none⟩) (by show _ ≤ _ + 1 + 1 + 1; omega) _
  · have he' : (cpErr xs ys vs (xl, xh) (yl, yh) != 0) = false := by simpa using he
    have h0 : cpErr xs ys vs (xl, xh) (yl, yh) = 0 := by simpa using he'
    have HO := Lib.hid (cp_zero h0)
    have R : Hid (boundR xs ys vs (xl, xh) (yl, yh) = (bnd xs ys vs (xl, xh) (yl, yh), 0)) := by unfold Hid boundR; rw [if_neg he]
    rw [h0]
    clear he he' h0
    go_wp2_with fail
    refine (extremesR HO.out ((HRR.out.below HWb.out).below HB1.out)).mono ?_
    rintro e w2 ⟨lo, mo, hlm, rfl, hb2⟩
    have HLM := Lib.hid hlm
    have HB2 := Lib.hid hb2
    clear hlm hb2 a1 a2 a3 a4 a5 a6 a7 r0 r1 f0 f1
    have hc := (HB2.out.block (w.heap.size + 1 + 1 + 1) (by omega)).trans HC1.out
    have r0 : w2.cell? ⟨w.heap.size + 1 + 1 + 1, 0, none⟩ = some (.int .i64 0) := by rw [cell_of_row w2 _ 0 _ _ _ hc]; rfl
    have r1 : w2.cell? ⟨w.heap.size + 1 + 1 + 1, 1, none⟩ = some (.int .i64 0) := by rw [cell_of_row w2 _ 1 _ _ _ hc]; rfl
    have f0 : w2.frozen? ⟨w.heap.size + 1 + 1 + 1, 0, none⟩ = false := by simp [World.frozen?, hc]
    have f1 : w2.frozen? ⟨w.heap.size + 1 + 1 + 1, 1, none⟩ = false := by simp [World.frozen?, hc]
    have hz2 : w.heap.size + 1 + 1 + 1 < w2.heap.size := by have := HB2.out.size; omega
    have HC2 := Lib.hid hc
    obtain ⟨hl1, hl2, hl3, hl4⟩ := lo.ok
    obtain ⟨hm1, hm2, hm3, hm4⟩ := mo.ok
    clear hc
    unfold vP
    go_wp2_with fail
    refine wp_region_tail 9 (by kernel_rfl) (by kernel_rfl) ?_
    simp only [List.take_succ_cons, List.take_zero, List.drop_succ_cons, List.drop_zero]
    iterate 6 still_step
    still_call (floor_any _ _ _ (by omega) (by omega) (by omega) (by omega))
    iterate 2 still_step
    refine wpStill_nil ?_
    go_wp2_with fail
    refine (up_any mo.n mo.d _ (by omega) (by omega) (by omega) (by omega)).mono ?_
    rintro e w4 ⟨rfl, hb4⟩
    have hb5 : Below w2.heap.size w2 w4 := ((((Below.refl _ w2).alloc (Nat.le_refl _) _).alloc (by simp) _).drew).trans (hb4.mono (by simp; omega))
    have hc := (hb5.block (w.heap.size + 1 + 1 + 1) (by omega)).trans HC2.out
    clear r0 r1 f0 f1
    have r0 : w4.cell? ⟨w.heap.size + 1 + 1 + 1, 0, none⟩ = some (.int .i64 0) := by rw [cell_of_row w4 _ 0 _ _ _ hc]; rfl
    have r1 : w4.cell? ⟨w.heap.size + 1 + 1 + 1, 1, none⟩ = some (.int .i64 0) := by rw [cell_of_row w4 _ 1 _ _ _ hc]; rfl
    have f0 : w4.frozen? ⟨w.heap.size + 1 + 1 + 1, 0, none⟩ = false := by simp [World.frozen?, hc]
    have f1 : w4.frozen? ⟨w.heap.size + 1 + 1 + 1, 1, none⟩ = false := by simp [World.frozen?, hc]
    have HB4 := Lib.hid ((HWb.out.trans (HB1.out.mono HWb.out.size)).trans ((HB2.out.trans (hb5.mono HB2.out.size)).mono (by have := HWb.out.size; have := HB1.out.size; omega)))
    clear hb4 hb5 hc
    go_wp2_with fail
    refine bodyPost_ret (v := .tuple #[.agg #[.int .i64 (lo.n / lo.d), .int .i64 (-(-mo.n / mo.d))], .int .i64 0]) (by simp [results, Try.results35, go_sem, r0, r1]) rfl ⟨by rw [R.out, bnd_eq HLM.out], ?_⟩
    exact (HB4.out.setCell (p := ⟨w.heap.size + 1 + 1 + 1, 0, none⟩) (by show _ ≤ _ + 1 + 1 + 1; omega) _).setCell (p := ⟨w.heap.size + 1 + 1 + 1, 1, none⟩) (by show _ ≤ _ + 1 + 1 + 1; omega) _
end Go.Proofs.Ythohcimmoobaoaa
/- The contracts of Meet and Hull, and of what the reference has for them. -/
namespace Go.Proofs.Ythohcimmoobaoaa
open Go.RowKit

theorem from_any (a b c : Int) (w : World) :
    Calls Try.prog 94 #[.int .i64 a, .int .i64 b, .int .i64 c] w fun e w' => e = .returned (.bool (wB a b c)) ∧ w' = w := by
  by_cases h1 : b ≤ a <;> by_cases h2 : a ≤ c
  all_goals
    go_enter Try.func94, Try.ntmps94
    go_wp2
    go_ret
    simp [wB, h1, h2]
theorem vB_eq (lo hi : Int) : vB (lo, hi) = (wB lo (-1000000) 1000000 && wB hi lo 1000000) := by
  rw [Bool.eq_iff_iff, vB_iff, Bool.and_eq_true, wB_iff, wB_iff]
  constructor
  · rintro ⟨h1, h2, h3⟩; simp only at h1 h2 h3; omega
  · rintro ⟨⟨h1, h2⟩, h3, h4⟩; simp only; omega
set_option maxHeartbeats 400000 in
theorem rvalid_any (x : Int × Int) (w : World) :
    Calls Try.prog 61 #[.agg #[.int .i64 x.1, .int .i64 x.2]] w fun e w' => e = .returned (.bool (vB x)) ∧ Below w.heap.size w w' := by
  obtain ⟨lo, hi⟩ := x
  show Calls Try.prog 61 #[.agg #[.int .i64 lo, .int .i64 hi]] w _
  have key : ∀ b : Bool, wB lo (-1000000) 1000000 = b → Calls Try.prog 61 #[.agg #[.int .i64 lo, .int .i64 hi]] w fun e w' => e = .returned (.bool (b && wB hi lo 1000000)) ∧ Below w.heap.size w w' := by
    intro b hb
    have H := Lib.hid hb
    clear hb
    cases b
    all_goals
      go_enter Try.func61, Try.ntmps61
      go_wp2_with fail
      refine (from_any _ _ _ _).mono ?_
      rintro e w' ⟨rfl, rfl⟩
      rw [H.out]
    · go_wp2_with fail
      go_ret
      exact ⟨by simp, (Below.refl _ _).alloc (Nat.le_refl _) _⟩
    · go_wp2_with fail
      refine (from_any _ _ _ _).mono ?_
      rintro e w' ⟨rfl, rfl⟩
      go_wp2_with fail
      go_ret
      exact ⟨by simp, (Below.refl _ _).alloc (Nat.le_refl _) _⟩
  rw [vB_eq]
  exact key _ rfl
theorem spErr2 (a b : Int × Int) : spErr [a, b] = if vB a && vB b then 0 else 10 := by
  unfold spErr
  cases h1 : vB a <;> cases h2 : vB b <;> simp [h1, h2]
set_option maxHeartbeats 400000 in
theorem two_any (a b : Int × Int) (w : World) :
    Calls Try.prog 119 #[.agg #[.int .i64 a.1, .int .i64 a.2], .agg #[.int .i64 b.1, .int .i64 b.2]] w fun e w' => e = .returned (.int .i64 (spErr [a, b])) ∧ Below w.heap.size w w' := by
  obtain ⟨a1, a2⟩ := a
  obtain ⟨b1, b2⟩ := b
  show Calls Try.prog 119 #[.agg #[.int .i64 a1, .int .i64 a2], .agg #[.int .i64 b1, .int .i64 b2]] w _
  have HE := Lib.hid (spErr2 (a1, a2) (b1, b2))
  have HB0 := Lib.hid (show Below w.heap.size w ((w.alloc (.cells #[.int .i64 a1, .int .i64 a2] 27)).alloc (.cells #[.int .i64 b1, .int .i64 b2] 27)) from ((Below.refl _ w).alloc (Nat.le_refl _) _).alloc (by simp) _)
  go_enter Try.func119, Try.ntmps119
  go_wp2_with fail
  refine (rvalid_any (a1, a2) _).mono ?_
  rintro e w1 ⟨rfl, hb1⟩
  have c0 : w1.cell? ⟨w.heap.size + 1, 0, none⟩ = some (.int .i64 b1) := (hb1.cell (p := ⟨w.heap.size + 1, 0, none⟩) (by simp)).trans (by simp)
  have c1 : w1.cell? ⟨w.heap.size + 1, 1, none⟩ = some (.int .i64 b2) := (hb1.cell (p := ⟨w.heap.size + 1, 1, none⟩) (by simp)).trans (by simp)
  have HB1 := Lib.hid (HB0.out.trans (hb1.mono HB0.out.size))
  clear hb1
  by_cases h1 : vB (a1, a2) = true
  · rw [h1] at HE ⊢
    clear h1
    go_wp2_with fail
    refine (rvalid_any (b1, b2) _).mono ?_
    rintro e w2 ⟨rfl, hb2⟩
    have HB2 := Lib.hid (HB1.out.trans (hb2.mono HB1.out.size))
    clear hb2
    by_cases h2 : vB (b1, b2) = true
    · rw [h2] at HE ⊢
      clear h2
      go_wp2_with fail
      go_ret
      exact ⟨by rw [HE.out]; rfl, HB2.out⟩
    · have h2' : vB (b1, b2) = false := by simpa using h2
      rw [h2'] at HE ⊢
      clear h2 h2'
      go_wp2_with fail
      go_ret
      exact ⟨by rw [HE.out]; rfl, HB2.out⟩
  · have h1' : vB (a1, a2) = false := by simpa using h1
    rw [h1'] at HE ⊢
    clear h1 h1'
    go_wp2_with fail
    go_ret
    exact ⟨by rw [HE.out]; rfl, HB1.out⟩

theorem cells2 {W : World} {B : Nat} {t : TypeId} {a b : Value} (h : W.heap[B]? = some (.cells #[a, b] t)) :
    (W.cell? ⟨B, 0, none⟩ = some a ∧ W.cell? ⟨B, 1, none⟩ = some b) ∧ (W.frozen? ⟨B, 0, none⟩ = false ∧ W.frozen? ⟨B, 1, none⟩ = false) := by
  refine ⟨⟨?_, ?_⟩, ?_, ?_⟩
  · rw [cell_of_row W _ 0 _ _ _ h]; rfl
  · rw [cell_of_row W _ 1 _ _ _ h]; rfl
  all_goals simp [World.frozen?, h]
/-- Go's max and min as the walk has them -/
def mx (a b : Int) : Int := if a < b then b else a
def mn (a b : Int) : Int := if b < a then b else a
theorem mx_eq (a b : Int) : mx a b = max a b := by unfold mx; split <;> omega
theorem mn_eq (a b : Int) : mn a b = min a b := by unfold mn; split <;> omega
end Go.Proofs.Ythohcimmoobaoaa
/- The contracts of Far, and of the reference's knots and CheckTable. -/
namespace Go.Proofs.Ythohcimmoobaoaa
open Go.RowKit

/-- one box of a table at the head of a call -/
theorem cells3 {W : World} {B : Nat} {t : TypeId} {a b c : Value} (h : W.heap[B]? = some (.cells #[a, b, c] t)) :
    (W.cell? ⟨B, 0, none⟩ = some a ∧ W.cell? ⟨B, 1, none⟩ = some b ∧ W.cell? ⟨B, 2, none⟩ = some c) ∧ (W.frozen? ⟨B, 0, none⟩ = false ∧ W.frozen? ⟨B, 1, none⟩ = false ∧ W.frozen? ⟨B, 2, none⟩ = false) := by
  refine ⟨⟨?_, ?_, ?_⟩, ?_, ?_, ?_⟩
  · rw [cell_of_row W _ 0 _ _ _ h]; rfl
  · rw [cell_of_row W _ 1 _ _ _ h]; rfl
  · rw [cell_of_row W _ 2 _ _ _ h]; rfl
  all_goals simp [World.frozen?, h]
theorem blk' {W W' : World} {B : Nat} {o : Obj} (hb : Below W.heap.size W W') (h : W.heap[B]? = some o) : W'.heap[B]? = some o := (hb.block _ (Array.getElem?_eq_some_iff.1 h).1).trans h
theorem blk_new' (W : World) (o : Obj) : (W.alloc o).heap[W.heap.size]? = some o := World.alloc_heap_new W o
theorem cell_b' {W W' : World} {B o : Nat} {v : Value} (hb : Below W.heap.size W W') (h : W.cell? ⟨B, o, none⟩ = some v) : W'.cell? ⟨B, o, none⟩ = some v := by
  obtain ⟨ob, ho, _⟩ := cells_of_cell h
  exact (hb.cell (p := ⟨B, o, none⟩) (Array.getElem?_eq_some_iff.1 ho).1).trans h
set_option maxRecDepth 100000 in
set_option maxHeartbeats 2000000 in
theorem knots_any (A : Option Addr) (l : List Int) (c : Nat) (w : World) (hl : l.length ≤ maxLen) (hA : Ints w A l) :
    Calls Try.prog 102 #[.slice A l.length c] w fun e w' => e = .returned (.bool (axB l)) ∧ Below w.heap.size w w' := by
  unfold maxLen at hl
  by_cases hw : wB l.length 2 12 = true
  · have E := Lib.hid hw
    obtain ⟨h2, h12⟩ := wB_iff.1 hw
    have R : Hid (axB l = axFrom none l) := by unfold Hid axB; rw [hw]; rfl
    obtain ⟨b, off, rfl, hbl, hc⟩ := hA (by omega)
    have HC := Lib.hid hc
    have HB0 := Lib.hid (Below.refl w.heap.size w)
    clear hw hc hA
    go_enter Try.func102, Try.ntmps102
    go_wp2_with fail
    refine (from_any _ _ _ _).mono ?_
    rintro e w' ⟨rfl, rfl⟩
    rw [E.out]
    go_wp2_with fail
    go_loopw [3] (fun i wr => ∃ k : Nat, k ≤ l.length ∧ i = .int .i64 k ∧ axFrom (prev l k) (l.drop k) = axFrom none l ∧ (0 < k → -1000000 ≤ l[k-1]?.getD 0 ∧ l[k-1]?.getD 0 ≤ 1000000) ∧ Below w'.heap.size w' wr) (fun i _ => l.length - (intOf i).toNat)
    case atStart => exact ⟨0, by omega, rfl, by simp [prev], by omega, Below.refl _ _⟩
    case round =>
      obtain ⟨k, hk, rfl, hp, hbd, hbr⟩ := hrel
      have HP := Lib.hid hp
      have HBD := Lib.hid hbd
      have HBR := Lib.hid hbr
      clear hp hbd hbr
      by_cases hlt : k < l.length
      · have hd := Lib.hid (axFrom_drop l k hlt)
        have h1 := (HBR.out.cell (p := ⟨b, off + k, none⟩) hbl).trans (HC.out k hlt)
        generalize hx : l[k]?.getD 0 = x at h1
        have HX := Lib.hid hx
        have t1 : (k : Int) < (l.length : Int) := by omega
        have t2 : (0 : Int) ≤ (k : Int) := by omega
        clear hx
        by_cases hv : wB x (-1000000) 1000000 = true
        · have hvb := wB_iff.1 hv
          have HV := Lib.hid hv
          clear hv
          have HQ1 : Hid (∀ W, Calls Try.prog 94 #[.int .i64 x, .int .i64 (-1000000), .int .i64 1000000] W fun e w' => e = .returned (.bool true) ∧ w' = W) := fun W => by have := from_any x (-1000000) 1000000 W; rw [HV.out] at this; exact this
          by_cases hk0 : k = 0
          · subst hk0
            simp only [Nat.add_zero] at h1
            go_wp2_with fail
            go_quiet ((go_at_call 94; first | (with_reducible exact Calls.quiet_of_same (HQ1.out _))))
            go_wp2_with fail
            go_roundw
            case rel => exact ⟨1, by omega, by go_num, by rw [← HP.out, hd.out, HX.out, HV.out]; simp, fun _ => by simpa [HX.out] using hvb, Below.drewN' HBR.out _⟩
            case measure => simp [intOf]; omega
          · obtain ⟨j, rfl⟩ : ∃ j, k = j + 1 := ⟨k - 1, by omega⟩
            have h3 := (HBR.out.cell (p := ⟨b, off + j, none⟩) hbl).trans (HC.out j (by omega))
            have hyb := HBD.out (by omega)
            simp only [Nat.add_sub_cancel] at hyb
            generalize hy : l[j]?.getD 0 = y at h3 hyb
            have HY := Lib.hid hy
            clear hy hk0
            have u1 : IntKind.i64.wrap ((j : Int) + 1 - 1) = (j : Int) := by rw [IntWalk.i64_in _ (by omega)]; omega
            have u2 : IntKind.i64.wrap (x - y) = x - y := IntWalk.i64_in _ (by omega)
            have t3 : (0 : Int) < (j : Int) + 1 := by omega
            have t4 : (j : Int) < (l.length : Int) := by omega
            have t5 : (j : Int) + 1 < (l.length : Int) := by omega
            have t6 : (0 : Int) ≤ (j : Int) + 1 := by omega
            have t7 : ((j : Int) + 1).toNat = j + 1 := by omega
            by_cases hv2 : wB (x - y) 1 10000 = true
            · have HV2 := Lib.hid hv2
              clear hv2
              have HQ2 : Hid (∀ W, Calls Try.prog 94 #[.int .i64 (x - y), .int .i64 1, .int .i64 10000] W fun e w' => e = .returned (.bool true) ∧ w' = W) := fun W => by have := from_any (x - y) 1 10000 W; rw [HV2.out] at this; exact this
              go_wp2_with fail
              go_quiet ((go_at_call 94; first | (with_reducible exact Calls.quiet_of_same (HQ1.out _)) | (with_reducible exact Calls.quiet_of_same (HQ2.out _))))
              go_wp2_with fail
              go_roundw
              case rel => exact ⟨j + 1 + 1, by omega, by go_num, by rw [← HP.out, hd.out, HX.out, HV.out]; simp [HY.out, HV2.out], fun _ => by simpa [HX.out] using hvb, Below.drewN' HBR.out _⟩
              case measure => simp [intOf]; omega
            · have hv3 : wB (x - y) 1 10000 = false := by simpa using hv2
              have HV2 := Lib.hid hv3
              clear hv2 hv3
              have HQ2 : Hid (∀ W, Calls Try.prog 94 #[.int .i64 (x - y), .int .i64 1, .int .i64 10000] W fun e w' => e = .returned (.bool false) ∧ w' = W) := fun W => by have := from_any (x - y) 1 10000 W; rw [HV2.out] at this; exact this
              go_wp2_with fail
              go_quiet ((go_at_call 94; first | (with_reducible exact Calls.quiet_of_same (HQ1.out _)) | (with_reducible exact Calls.quiet_of_same (HQ2.out _))))
              go_wp2_with fail
              go_ret
              exact ⟨by rw [R.out, ← HP.out, hd.out, HX.out, HV.out]; simp [HY.out, HV2.out], Below.drewN' HBR.out _⟩
        · have hv3 : wB x (-1000000) 1000000 = false := by simpa using hv
          have HV := Lib.hid hv3
          clear hv hv3
          have HQ1 : Hid (∀ W, Calls Try.prog 94 #[.int .i64 x, .int .i64 (-1000000), .int .i64 1000000] W fun e w' => e = .returned (.bool false) ∧ w' = W) := fun W => by have := from_any x (-1000000) 1000000 W; rw [HV.out] at this; exact this
          go_wp2_with fail
          go_quiet ((go_at_call 94; first | (with_reducible exact Calls.quiet_of_same (HQ1.out _))))
          go_wp2_with fail
          go_ret
          exact ⟨by rw [R.out, ← HP.out, hd.out, HX.out, HV.out]; simp, Below.drewN' HBR.out _⟩
      · go_wp2_with fail
        go_ret
        exact ⟨by rw [R.out, ← HP.out, List.drop_eq_nil_of_le (by omega)]; simp [axFrom], HBR.out⟩
  · have hw' : wB l.length 2 12 = false := by simpa using hw
    have E := Lib.hid hw'
    have R : Hid (axB l = false) := by unfold Hid axB; rw [hw']; rfl
    clear hw hw' hA
    go_enter Try.func102, Try.ntmps102
    go_wp2_with fail
    refine (from_any _ _ _ _).mono ?_
    rintro e w' ⟨rfl, rfl⟩
    rw [E.out]
    go_wp2_with fail
    go_ret
    exact ⟨by rw [R.out]; rfl, Below.refl _ _⟩
end Go.Proofs.Ythohcimmoobaoaa
/- The contracts of the reference's part, Between and Value. -/
namespace Go.Proofs.Ythohcimmoobaoaa
open Go.RowKit

set_option maxHeartbeats 400000 in
theorem between_any (A : Option Addr) (l : List Int) (c : Nat) (lo hi : Int) (w : World) (h1 : 1 ≤ l.length) (hl : l.length ≤ 1000000) (hA : Ints w A l) :
    Calls Try.prog 62 #[.slice A l.length c, .agg #[.int .i64 lo, .int .i64 hi]] w fun e w' => e = .returned (.bool (liesB l (lo, hi))) ∧ Below w.heap.size w w' := by
  obtain ⟨b, off, rfl, hbl, hc⟩ := hA (by omega)
  have c0 := hc 0 (by omega)
  have c1 := hc (l.length - 1) (by omega)
  simp only [Nat.add_zero] at c0
  have hR : liesB l (lo, hi) = (decide (l[0]?.getD 0 ≤ lo) && decide (hi ≤ l[l.length - 1]?.getD 0)) := rfl
  generalize l[0]?.getD 0 = a at *
  generalize l[l.length - 1]?.getD 0 = z at *
  have t1 : ((l.length : Int) - 1).toNat = l.length - 1 := by omega
  have t2 : (0 : Int) ≤ (l.length : Int) - 1 := by omega
  have t3 : (l.length : Int) - 1 < (l.length : Int) := by omega
  have t4 : (0 : Int) < (l.length : Int) := by omega
  have u1 : IntKind.i64.wrap ((l.length : Int) - 1) = (l.length : Int) - 1 := IntWalk.i64_in _ (by omega)
  have HR := Lib.hid hR
  have hB : ∀ (o : Obj) (n : Nat), Below w.heap.size w ((w.alloc o).drewN n) := fun o n => Below.drewN' ((Below.refl _ w).alloc (Nat.le_refl _) _) n
  have HB := Lib.hid hB
  clear hR hc hA hB
  by_cases g1 : a ≤ lo
  · have g1' : decide (a ≤ lo) = true := by simpa using g1
    by_cases g2 : hi ≤ z
    · have g2' : decide (hi ≤ z) = true := by simpa using g2
      go_enter Try.func62, Try.ntmps62
      go_wp2_with fail
      go_quiet (fail)
      go_wp2_with fail
      go_ret
      exact ⟨by rw [HR.out, g1', g2']; rfl, HB.out _ _⟩
    · have g2' : decide (hi ≤ z) = false := by simpa using g2
      go_enter Try.func62, Try.ntmps62
      go_wp2_with fail
      go_quiet (fail)
      go_wp2_with fail
      go_ret
      exact ⟨by rw [HR.out, g1', g2']; rfl, HB.out _ _⟩
  · have g1' : decide (a ≤ lo) = false := by simpa using g1
    go_enter Try.func62, Try.ntmps62
    go_wp2_with fail
    go_quiet (fail)
    go_wp2_with fail
    go_ret
    exact ⟨by rw [HR.out, g1']; rfl, HB.out _ _⟩

def PartAt (l : List Int) (x : Int) (i : Nat) : Prop := i + 2 ≤ l.length ∧ (0 < i → l[i]?.getD 0 ≤ x) ∧ (i + 2 < l.length → x < l[i+1]?.getD 0)
theorem Axis.part_unique {l : List Int} (h : Axis l) {x : Int} {i j : Nat} (hi : PartAt l x i) (hj : PartAt l x j) : i = j := by
  have key : ∀ {i j : Nat}, PartAt l x i → PartAt l x j → ¬ i < j := by
    intro i j hi hj hlt
    have h1 := hi.2.2 (by have := hj.1; omega)
    have h2 := hj.2.1 (by omega)
    have h3 := h.mono (i + 1) j (by omega) (by have := hj.1; omega)
    omega
  have h1 := key hi hj
  have h2 := key hj hi
  omega
instance (l : List Int) (x : Int) (i : Nat) : Decidable (PartAt l x i) := by unfold PartAt; exact inferInstance
def partI (l : List Int) (x : Int) : Nat := ((List.range l.length).find? (fun i => decide (PartAt l x i))).getD 0
theorem Axis.partI_eq {l : List Int} (h : Axis l) {x : Int} {i : Nat} (hi : PartAt l x i) : partI l x = i := by
  unfold partI
  cases e : (List.range l.length).find? (fun i => decide (PartAt l x i)) with
  | none =>
    have := List.find?_eq_none.1 e i (by have := hi.1; simp; omega)
    simp [hi] at this
  | some j =>
    have := List.find?_some e
    exact h.part_unique (by simpa using this) hi
theorem Axis.part_exists {l : List Int} (h : Axis l) (x : Int) : ∃ i, PartAt l x i := by
  have key : ∀ n i, i + n + 2 = l.length → (0 < i → l[i]?.getD 0 ≤ x) → ∃ j, PartAt l x j := by
    intro n
    induction n with
    | zero => intro i hi h0; exact ⟨i, by omega, h0, by omega⟩
    | succ n ih =>
      intro i hi h0
      by_cases hx : x < l[i+1]?.getD 0
      · exact ⟨i, by omega, h0, fun _ => hx⟩
      · exact ih (i + 1) (by omega) (fun _ => by omega)
  exact key (l.length - 2) 0 (by have := h.two; omega) (by omega)
theorem Axis.partI_at {l : List Int} (h : Axis l) (x : Int) : PartAt l x (partI l x) := by
  obtain ⟨i, hi⟩ := h.part_exists x
  rw [h.partI_eq hi]; exact hi
theorem Axis.part_on {l : List Int} (h : Axis l) {x : Int} (ho : OnAx l x) : partI l x + 1 < l.length ∧ l[partI l x]?.getD 0 ≤ x ∧ x ≤ l[partI l x + 1]?.getD 0 ∧ l[partI l x + 1]?.getD 0 - l[partI l x]?.getD 0 ≤ 10000 ∧ 1 ≤ l[partI l x + 1]?.getD 0 - l[partI l x]?.getD 0 := by
  obtain ⟨h1, h2, h3⟩ := h.partI_at x
  generalize partI l x = i at *
  have g := h.gap i (by omega)
  refine ⟨by omega, ?_, ?_, g.2, g.1⟩
  · by_cases h0 : 0 < i
    · have := h2 h0; omega
    · obtain rfl : i = 0 := by omega
      exact ho.1
  · by_cases h0 : i + 2 < l.length
    · have := h3 h0; omega
    · have : i + 1 = l.length - 1 := by omega
      rw [this]; exact ho.2
def PartPost (l : List Int) (x : Int) (w : World) (e : Ending) (w' : World) : Prop := ∃ i : Nat, PartAt l x i ∧ e = .returned (.int .i64 i) ∧ w' = w
set_option maxHeartbeats 400000 in
theorem part_any' (A : Option Addr) (l : List Int) (c : Nat) (x : Int) (w : World) (h2 : 2 ≤ l.length) (hl : l.length ≤ 1000000) (hA : Ints w A l) :
    Calls Try.prog 127 #[.slice A l.length c, .int .i64 x] w (PartPost l x w) := by
  obtain ⟨b, off, rfl, hbl, hc⟩ := hA (by omega)
  have HC := Lib.hid hc
  clear hc hA
  go_enter Try.func127, Try.ntmps127
  go_wp2
  go_loop [5] (fun i => ∃ k : Nat, k + 2 ≤ l.length ∧ i = .int .i64 k ∧ (0 < k → l[k]?.getD 0 ≤ x)) (fun i => l.length - (intOf i).toNat)
  case atStart => exact ⟨0, by omega, rfl, by omega⟩
  case round =>
    obtain ⟨k, hk, rfl, hp⟩ := hrel
    have HP := Lib.hid hp
    clear hp
    by_cases hlt : k + 2 < l.length
    · have h1 := HC.out (k + 1) (by omega)
      generalize hy : l[k + 1]?.getD 0 = y at h1
      have HY := Lib.hid hy
      clear hy
      by_cases hyx : y ≤ x
      · go_wp2_with fail
        go_round
        case rel => exact ⟨k + 1, by omega, by go_num, fun _ => by rw [HY.out]; exact hyx⟩
        case measure => simp [intOf]; omega
      · go_wp2_with fail
        go_ret
        exact ⟨k, ⟨hk, HP.out, fun _ => by rw [HY.out]; omega⟩, rfl, rfl⟩
    · have hge : ¬ ((k : Int) + 2 < (l.length : Int)) := by omega
      go_wp2_with fail
      go_ret
      exact ⟨k, ⟨hk, HP.out, fun h => by omega⟩, rfl, rfl⟩
theorem partI_any (A : Option Addr) (l : List Int) (c : Nat) (x : Int) (w : World) (h : Axis l) (_hlc : l.length ≤ c) (hA : Ints w A l) :
    Calls Try.prog 127 #[.slice A l.length c, .int .i64 x] w fun e w' => e = .returned (.int .i64 (partI l x)) ∧ w' = w :=
  (part_any' A l c x w h.two (by have := h.twelve; omega) hA).mono fun _ _ ⟨i, hi, he, hw⟩ => ⟨by rw [h.partI_eq hi]; exact he, hw⟩
def valN (xs ys : List Int) (vs : List (List Int)) (x y : Int) : Int :=
  let i := partI xs x; let k := partI ys y
  numF (xs[i+1]?.getD 0 - x) (x - xs[i]?.getD 0) (ys[k+1]?.getD 0 - y) (y - ys[k]?.getD 0)
    ((vs[i]?.getD [])[k]?.getD 0) ((vs[i+1]?.getD [])[k]?.getD 0) ((vs[i]?.getD [])[k+1]?.getD 0) ((vs[i+1]?.getD [])[k+1]?.getD 0)
def valD (xs ys : List Int) (x y : Int) : Int :=
  let i := partI xs x; let k := partI ys y
  (xs[i+1]?.getD 0 - xs[i]?.getD 0) * (ys[k+1]?.getD 0 - ys[k]?.getD 0)
set_option maxHeartbeats 2000000 in
set_option maxRecDepth 100000 in
theorem value_any (xs ys : List Int) (vs : List (List Int)) (X Y V : Option Addr) (cx cy cv : Nat) (x y : Int) (w : World)
   (hT : Tbl xs ys vs) (hR : TabR w X Y V cx cy cv xs ys vs) (hx : OnAx xs x) (hy : OnAx ys y) :
   Calls Try.prog 121 #[.agg #[.slice X xs.length cx, .slice Y ys.length cy, .slice V vs.length cv], .int .i64 x, .int .i64 y] w
     fun e w' => e = .returned (.tuple #[.int .i64 (valN xs ys vs x y), .int .i64 (valD xs ys x y)]) ∧ Below w.heap.size w w' := by
  have q1 := hT.ax.part_on hx
  have q2 := hT.ay.part_on hy
  have hq1 : ∀ W, Below w.heap.size w W → Calls Try.prog 127 #[.slice X xs.length cx, .int .i64 x] W fun e w' => e = .returned (.int .i64 (partI xs x)) ∧ w' = W :=
    fun W hb => partI_any X xs cx x W hT.ax hR.lx (hR.hX.below hb)
  have hq2 : ∀ W, Below w.heap.size w W → Calls Try.prog 127 #[.slice Y ys.length cy, .int .i64 y] W fun e w' => e = .returned (.int .i64 (partI ys y)) ∧ w' = W :=
    fun W hb => partI_any Y ys cy y W hT.ay hR.ly (hR.hY.below hb)
  have hN : valN xs ys vs x y = numF (xs[partI xs x + 1]?.getD 0 - x) (x - xs[partI xs x]?.getD 0) (ys[partI ys y + 1]?.getD 0 - y) (y - ys[partI ys y]?.getD 0)
    ((vs[partI xs x]?.getD [])[partI ys y]?.getD 0) ((vs[partI xs x + 1]?.getD [])[partI ys y]?.getD 0) ((vs[partI xs x]?.getD [])[partI ys y + 1]?.getD 0) ((vs[partI xs x + 1]?.getD [])[partI ys y + 1]?.getD 0) := rfl
  have hD : valD xs ys x y = (xs[partI xs x + 1]?.getD 0 - xs[partI xs x]?.getD 0) * (ys[partI ys y + 1]?.getD 0 - ys[partI ys y]?.getD 0) := rfl
  generalize partI xs x = i at *
  generalize partI ys y = k at *
  have t12x := hT.ax.twelve
  have t12y := hT.ay.twelve
  have lenv := hT.len
  have r0 := hT.row i (by omega)
  have r1 := hT.row (i+1) (by omega)
  have b00 := hT.val i k (by omega) (by omega)
  have b01 := hT.val i (k+1) (by omega) (by omega)
  have b10 := hT.val (i+1) k (by omega) (by omega)
  have b11 := hT.val (i+1) (k+1) (by omega) (by omega)
  obtain ⟨bx, ox, rfl, hbx, hcx⟩ := hR.hX (by omega)
  obtain ⟨bY, oy, rfl, hby, hcy⟩ := hR.hY (by omega)
  obtain ⟨bv, ov, rfl, hbv, hcv⟩ := hR.hV (by omega)
  obtain ⟨R0, c0, e0, hR0⟩ := hcv i (by omega)
  obtain ⟨R1, c1, e1, hR1⟩ := hcv (i+1) (by omega)
  obtain ⟨b0, o0, rfl, hb0, hc0⟩ := hR0 (by omega)
  obtain ⟨b1, o1, rfl, hb1, hc1⟩ := hR1 (by omega)
  have cx0 := hcx i (by omega)
  have cx1 := hcx (i+1) (by omega)
  have cy0 := hcy k (by omega)
  have cy1 := hcy (k+1) (by omega)
  have v00 := hc0 k (by omega)
  have v01 := hc0 (k+1) (by omega)
  have v10 := hc1 k (by omega)
  have v11 := hc1 (k+1) (by omega)
  rw [r0] at e0
  rw [r1] at e1
  generalize xs[i]?.getD 0 = x0 at *
  generalize xs[i+1]?.getD 0 = x1 at *
  generalize ys[k]?.getD 0 = y0 at *
  generalize ys[k+1]?.getD 0 = y1 at *
  generalize (vs[i]?.getD [])[k]?.getD 0 = z00 at *
  generalize (vs[i]?.getD [])[k+1]?.getD 0 = z01 at *
  generalize (vs[i+1]?.getD [])[k]?.getD 0 = z10 at *
  generalize (vs[i+1]?.getD [])[k+1]?.getD 0 = z11 at *
  obtain ⟨hi, hx0, hx1, hgx, _⟩ := q1
  obtain ⟨hk, hy0, hy1, hgy, _⟩ := q2
  have p1 := mul_bd (a := x1 - x) (b := y1 - y) (A := 10000) (B := 10000) (by omega) (by omega) (by omega) (by omega)
  have p2 := mul_bd (a := x - x0) (b := y1 - y) (A := 10000) (B := 10000) (by omega) (by omega) (by omega) (by omega)
  have p3 := mul_bd (a := x1 - x) (b := y - y0) (A := 10000) (B := 10000) (by omega) (by omega) (by omega) (by omega)
  have p4 := mul_bd (a := x - x0) (b := y - y0) (A := 10000) (B := 10000) (by omega) (by omega) (by omega) (by omega)
  have p5 := mul_bd (a := x1 - x0) (b := y1 - y0) (A := 10000) (B := 10000) (by omega) (by omega) (by omega) (by omega)
  have s1 := mul_bd2 (A := 100000000) (B := 1000000) p1.1 (by omega) b00.1 b00.2 (by omega)
  have s2 := mul_bd2 (A := 100000000) (B := 1000000) p2.1 (by omega) b10.1 b10.2 (by omega)
  have s3 := mul_bd2 (A := 100000000) (B := 1000000) p3.1 (by omega) b01.1 b01.2 (by omega)
  have s4 := mul_bd2 (A := 100000000) (B := 1000000) p4.1 (by omega) b11.1 b11.2 (by omega)
  have HN := Lib.hid hN
  have HD := Lib.hid hD
  have HQ1 := Lib.hid hq1
  have HQ2 := Lib.hid hq2
  have hlv : i + 1 < vs.length := by omega
  have hlv2 : vs.length ≤ 12 := by omega
  clear hN hD hq1 hq2 hcx hcy hcv hc0 hc1 hR0 hR1 hR hT hx hy lenv r0 r1 
  have hBd : ∀ (o1 : Obj) (n : Nat), Below w.heap.size w ((w.alloc o1).drewN n) := fun o1 n => Below.drewN' ((Below.refl _ w).alloc (Nat.le_refl _) _) n
  have HBd := Lib.hid hBd
  clear hBd
  go_enter Try.func121, Try.ntmps121
  go_wp2_with fail
  go_quiet ((go_at_call 127; first | (with_reducible exact Calls.quiet_of_same (HQ1.out _ (HBd.out _ _))) | (with_reducible exact Calls.quiet_of_same (HQ2.out _ (HBd.out _ _)))))
  go_wp2_with fail
  go_quiet (fail)
  go_wp2_with fail
  go_quiet (fail)
  go_wp2_with fail
  have t1 : ((i : Int) + 1).toNat = i + 1 := by omega
  have t2 : ((k : Int) + 1).toNat = k + 1 := by omega
  have t3 : (0 : Int) ≤ (i : Int) + 1 := by omega
  have t4 : (0 : Int) ≤ (k : Int) + 1 := by omega
  have t5 : (i : Int) < (vs.length : Int) := by omega
  have t6 : (i : Int) + 1 < (vs.length : Int) := by omega
  have t7 : (k : Int) < (ys.length : Int) := by omega
  have t8 : (k : Int) + 1 < (ys.length : Int) := by omega
  have u1 : IntKind.i64.wrap ((i : Int) + 1) = (i : Int) + 1 := IntWalk.i64_in _ (by omega)
  have u2 : IntKind.i64.wrap ((k : Int) + 1) = (k : Int) + 1 := IntWalk.i64_in _ (by omega)
  have u3 : IntKind.i64.wrap ((x1 - x) * (y1 - y)) = (x1 - x) * (y1 - y) := IntWalk.i64_in _ (by omega)
  have u4 : IntKind.i64.wrap ((x - x0) * (y1 - y)) = (x - x0) * (y1 - y) := IntWalk.i64_in _ (by omega)
  have u5 : IntKind.i64.wrap ((x1 - x) * (y - y0)) = (x1 - x) * (y - y0) := IntWalk.i64_in _ (by omega)
  have u6 : IntKind.i64.wrap ((x - x0) * (y - y0)) = (x - x0) * (y - y0) := IntWalk.i64_in _ (by omega)
  have u7 : IntKind.i64.wrap ((x1 - x) * (y1 - y) * z00) = (x1 - x) * (y1 - y) * z00 := IntWalk.i64_in _ (by omega)
  have u8 : IntKind.i64.wrap ((x - x0) * (y1 - y) * z10) = (x - x0) * (y1 - y) * z10 := IntWalk.i64_in _ (by omega)
  have u9 : IntKind.i64.wrap ((x1 - x) * (y - y0) * z01) = (x1 - x) * (y - y0) * z01 := IntWalk.i64_in _ (by omega)
  have u10 : IntKind.i64.wrap ((x - x0) * (y - y0) * z11) = (x - x0) * (y - y0) * z11 := IntWalk.i64_in _ (by omega)
  have u11 : IntKind.i64.wrap ((x1 - x) * (y1 - y) * z00 + (x - x0) * (y1 - y) * z10) = (x1 - x) * (y1 - y) * z00 + (x - x0) * (y1 - y) * z10 := IntWalk.i64_in _ (by omega)
  have u12 : IntKind.i64.wrap ((x1 - x) * (y1 - y) * z00 + (x - x0) * (y1 - y) * z10 + (x1 - x) * (y - y0) * z01) = (x1 - x) * (y1 - y) * z00 + (x - x0) * (y1 - y) * z10 + (x1 - x) * (y - y0) * z01 := IntWalk.i64_in _ (by omega)
  have u13 : IntKind.i64.wrap ((x1 - x) * (y1 - y) * z00 + (x - x0) * (y1 - y) * z10 + (x1 - x) * (y - y0) * z01 + (x - x0) * (y - y0) * z11) = (x1 - x) * (y1 - y) * z00 + (x - x0) * (y1 - y) * z10 + (x1 - x) * (y - y0) * z01 + (x - x0) * (y - y0) * z11 := IntWalk.i64_in _ (by omega)
  have u14 : IntKind.i64.wrap (x1 - x0) = x1 - x0 := IntWalk.i64_in _ (by omega)
  have u15 : IntKind.i64.wrap (y1 - y0) = y1 - y0 := IntWalk.i64_in _ (by omega)
  have u16 : IntKind.i64.wrap ((x1 - x0) * (y1 - y0)) = (x1 - x0) * (y1 - y0) := IntWalk.i64_in _ (by omega)
  have t9 : (i : Int) < (xs.length : Int) := by omega
  have t10 : (i : Int) + 1 < (xs.length : Int) := by omega
  go_quiet (fail)
  clear t1 t2 t3 t4 t5 t6 t7 t8 t9 t10 u1 u2 u3 u4 u5 u6 u7 u8 u9 u10 u11 u12 u13 u14 u15 u16
  go_wp2_with fail
  go_ret2
  refine ⟨?_, Below.drewN' (HBd.out _ _) _⟩
  rw [HN.out, HD.out]
  rfl
end Go.Proofs.Ythohcimmoobaoaa
/- Plain laws of fractions, and that the reference's value of a table is the program's. -/
namespace Go.Proofs.Ythohcimmoobaoaa

theorem floor_cross {n d m f : Int} (hd : 1 ≤ d) (hf : 1 ≤ f) (h : n * f = m * d) : n / d = m / f := by
  have h1 : n * f / (d * f) = n / d := Int.mul_ediv_mul_of_pos_left n d (by omega)
  have h2 : m * d / (f * d) = m / f := Int.mul_ediv_mul_of_pos_left m f (by omega)
  rw [← h1, ← h2, h, Int.mul_comm f d]
theorem ceil_cross {n d m f : Int} (hd : 1 ≤ d) (hf : 1 ≤ f) (h : n * f = m * d) : -(-n / d) = -(-m / f) := by
  rw [floor_cross (n := -n) (m := -m) hd hf (by rw [Int.neg_mul, Int.neg_mul, h])]
theorem cmpV_sign {n d m f : Int} (hd : 1 ≤ d) (hf : 1 ≤ f) : (cmpV n d m f < 0 ↔ n * f < m * d) ∧ (0 < cmpV n d m f ↔ m * d < n * f) := by
  have r1 := rem_bd n d hd
  have r2 := rem_bd m f hf
  have hC : cmpV n d m f = if n / d - m / f = 0 then (if (n - n / d * d) * f - (m - m / f * f) * d = 0 then 0 else (n - n / d * d) * f - (m - m / f * f) * d) else n / d - m / f := rfl
  rw [hC]
  clear hC
  generalize n / d = a at *
  generalize m / f = b at *
  have hdf : 1 ≤ d * f := by
    have := Int.mul_le_mul hd hf (by omega) (by omega : (0 : Int) ≤ d)
    omega
  have e1 : n * f - m * d = (a - b) * (d * f) + ((n - a * d) * f - (m - b * f) * d) := by grind
  have p1 : (n - a * d) * f ≤ (d - 1) * f := Int.mul_le_mul_of_nonneg_right (by omega) (by omega)
  have p2 : 0 ≤ (n - a * d) * f := Int.mul_nonneg (by omega) (by omega)
  have p3 : (m - b * f) * d ≤ (f - 1) * d := Int.mul_le_mul_of_nonneg_right (by omega) (by omega)
  have p4 : 0 ≤ (m - b * f) * d := Int.mul_nonneg (by omega) (by omega)
  have p5 : (d - 1) * f = d * f - f := by rw [Int.sub_mul]; omega
  have p6 : (f - 1) * d = d * f - d := by rw [Int.sub_mul, Int.mul_comm f d]; omega
  by_cases h0 : a - b = 0
  · rw [if_pos h0]
    rw [h0, Int.zero_mul] at e1
    split <;> constructor <;> omega
  · rw [if_neg h0]
    rcases Int.lt_or_gt_of_ne h0 with hlt | hgt
    · have p7 : (a - b) * (d * f) ≤ (-1) * (d * f) := Int.mul_le_mul_of_nonneg_right (by omega) (by omega)
      constructor <;> omega
    · have p7 : 1 * (d * f) ≤ (a - b) * (d * f) := Int.mul_le_mul_of_nonneg_right (by omega) (by omega)
      constructor <;> omega
theorem Axis.cell_part {l : List Int} (h : Axis l) {x : Int} : partI l x = cellI l x ∨ (partI l x = cellI l x + 1 ∧ x = l[cellI l x + 1]?.getD 0) := by
  obtain ⟨h1, h2, h3⟩ := h.cellI_at x
  generalize cellI l x = i at *
  by_cases hi : i + 2 < l.length
  · by_cases hx : x = l[i + 1]?.getD 0
    · refine .inr ⟨h.partI_eq ⟨by omega, fun _ => by omega, fun hlt => ?_⟩, hx⟩
      have := h.gap (i + 1) (by omega)
      omega
    · exact .inl (h.partI_eq ⟨h1, fun h0 => by have := h2 h0; omega, fun _ => by have := h3 hi; omega⟩)
  · exact .inl (h.partI_eq ⟨h1, fun h0 => by have := h2 h0; omega, fun hlt => by omega⟩)
theorem frac_eq {xs ys : List Int} {vs : List (List Int)} {x y : Int} (hT : Tbl xs ys vs) : atN xs ys vs x y * valD xs ys x y = valN xs ys vs x y * atD xs ys x y := by
  have hx := hT.ax.cell_part (x := x)
  have hy := hT.ay.cell_part (x := y)
  unfold atN atD valN valD numF denF
  simp only
  generalize cellI xs x = i at *
  generalize cellI ys y = k at *
  rcases hx with hx | ⟨hx, hx2⟩ <;> rcases hy with hy | ⟨hy, hy2⟩ <;> rw [hx, hy]
  · generalize xs[i]?.getD 0 = x0 at *
    generalize xs[i+1]?.getD 0 = x1 at *
    generalize ys[k]?.getD 0 = y0 at *
    generalize ys[k+1]?.getD 0 = y1 at *
    grind
  · generalize xs[i]?.getD 0 = x0 at *
    generalize xs[i+1]?.getD 0 = x1 at *
    generalize ys[k]?.getD 0 = y0 at *
    generalize ys[k+1]?.getD 0 = y1 at *
    generalize ys[k+1+1]?.getD 0 = y2 at *
    subst hy2
    grind
  · generalize xs[i]?.getD 0 = x0 at *
    generalize xs[i+1]?.getD 0 = x1 at *
    generalize xs[i+1+1]?.getD 0 = x2 at *
    generalize ys[k]?.getD 0 = y0 at *
    generalize ys[k+1]?.getD 0 = y1 at *
    subst hx2
    grind
  · generalize xs[i]?.getD 0 = x0 at *
    generalize xs[i+1]?.getD 0 = x1 at *
    generalize xs[i+1+1]?.getD 0 = x2 at *
    generalize ys[k]?.getD 0 = y0 at *
    generalize ys[k+1]?.getD 0 = y1 at *
    generalize ys[k+1+1]?.getD 0 = y2 at *
    subst hx2 hy2
    grind
theorem val_bd {xs ys : List Int} {vs : List (List Int)} {x y : Int} (hT : Tbl xs ys vs) (hx : OnAx xs x) (hy : OnAx ys y) :
    1 ≤ valD xs ys x y ∧ valD xs ys x y ≤ 100000000 ∧ -1000000000000000 ≤ valN xs ys vs x y ∧ valN xs ys vs x y ≤ 1000000000000000 := by
  have q1 := hT.ax.part_on hx
  have q2 := hT.ay.part_on hy
  unfold valD valN
  generalize partI xs x = i at *
  generalize partI ys y = k at *
  have lenv := hT.len
  have b00 := hT.val i k (by omega) (by omega)
  have b01 := hT.val i (k+1) (by omega) (by omega)
  have b10 := hT.val (i+1) k (by omega) (by omega)
  have b11 := hT.val (i+1) (k+1) (by omega) (by omega)
  simp only
  generalize xs[i]?.getD 0 = x0 at *
  generalize xs[i+1]?.getD 0 = x1 at *
  generalize ys[k]?.getD 0 = y0 at *
  generalize ys[k+1]?.getD 0 = y1 at *
  generalize (vs[i]?.getD [])[k]?.getD 0 = z00 at *
  generalize (vs[i]?.getD [])[k+1]?.getD 0 = z01 at *
  generalize (vs[i+1]?.getD [])[k]?.getD 0 = z10 at *
  generalize (vs[i+1]?.getD [])[k+1]?.getD 0 = z11 at *
  obtain ⟨hi, hx0, hx1, hgx, hgx'⟩ := q1
  obtain ⟨hk, hy0, hy1, hgy, hgy'⟩ := q2
  have p1 := mul_bd (a := x1 - x) (b := y1 - y) (A := 10000) (B := 10000) (by omega) (by omega) (by omega) (by omega)
  have p2 := mul_bd (a := x - x0) (b := y1 - y) (A := 10000) (B := 10000) (by omega) (by omega) (by omega) (by omega)
  have p3 := mul_bd (a := x1 - x) (b := y - y0) (A := 10000) (B := 10000) (by omega) (by omega) (by omega) (by omega)
  have p4 := mul_bd (a := x - x0) (b := y - y0) (A := 10000) (B := 10000) (by omega) (by omega) (by omega) (by omega)
  have p5 := mul_bd (a := x1 - x0) (b := y1 - y0) (A := 10000) (B := 10000) (by omega) (by omega) (by omega) (by omega)
  have p6 : 0 < (x1 - x0) * (y1 - y0) := Int.mul_pos (by omega) (by omega)
  have s1 := mul_bd2 (A := 100000000) (B := 1000000) p1.1 (by omega) b00.1 b00.2 (by omega)
  have s2 := mul_bd2 (A := 100000000) (B := 1000000) p2.1 (by omega) b10.1 b10.2 (by omega)
  have s3 := mul_bd2 (A := 100000000) (B := 1000000) p3.1 (by omega) b01.1 b01.2 (by omega)
  have s4 := mul_bd2 (A := 100000000) (B := 1000000) p4.1 (by omega) b11.1 b11.2 (by omega)
  unfold numF
  omega
end Go.Proofs.Ythohcimmoobaoaa
