/- Texts of the law TopHeard, part 13. No conditions. -/
import Derived.Test.YtgibbaadjbohdaaPTopHeard12
/- law12: copies, comparisons, what is too large. No conditions. -/
set_option linter.unusedSimpArgs false
set_option linter.unusedVariables false
namespace Go.Proofs.Ytgibbaadjbohdaa
open Go Go.RowKit Lift

set_option maxRecDepth 100000 in
set_option maxHeartbeats 2000000 in
theorem copyF_ac (frs : List (List Int)) (hn : frs.length ≤ 1000) (hm : ∀ k, (frm frs k).length ≤ 1000000) : AC Try.prog 25 [.list (rows frs)] [] [] (.list (rows frs)) := by
  refine kref12_CopyFrames.ac (n0 := 0) (by simp) ⟨.list _, trivial⟩ trivial rfl ?_
  unfold cref12_CopyFrames
  refine aw_seq (aw_region ?_)
  simp (config := {maxSteps := 10000000}) (disch := first | exact okYes (by kernel_rfl) | omega) only [thenQ, List.map, List.length, Nat.zero_add, Nat.reduceMul, envOf, ARun_none, AOpRun, aexec, FSt.ev, AGo_ok, St.app, putO, eput_c, Nat.reduceBEq, eput_n, cond_false, hups, ARun_nil, dropE_c, inL_n, dropE_n]
  refine aw_seq (aw_region ?_)
  simp (config := {maxSteps := 10000000}) (disch := first | exact okYes (by kernel_rfl) | omega) only [thenQ, List.length, Nat.zero_add, Nat.reduceMul, Nat.reduceAdd, ARun_none, AOpRun, aexec, FSt.ev, AGo_ok, St.app, putO, eput_c, Nat.reduceBEq, eput_n, cond_false, hups, List.map, ARun_nil, dropE_c, inL_n, dropE_n]
  refine aw_seq (aw_seq (aw_region ?_))
  simp (config := {maxSteps := 10000000}) (disch := first | exact okYes (by kernel_rfl) | omega) only [thenQ, List.length, Nat.zero_add, Nat.reduceMul, Nat.reduceAdd, ARun_none, AOpRun, aexec, FSt.ev, AGo_ok, St.app, putO, eput_c, Nat.reduceBEq, eput_n, cond_false, hups, List.map, ARun_nil, dropE_c, inL_n, dropE_n]
  refine aw_block (aw_loop (fun k : Nat => ⟨[(0, .list (rows frs)), (3, .vec 40 k 1), (4, dI k)], [(40, rcells (frs.take k))], 400⟩) (fun k => k ≤ frs.length) (fun k => frs.length - k) ⟨0, by omega, ?_⟩ ?_)
  · show Wk _ _ ⟨_, [(40, [])], _⟩
    refine wk_to [] [(40, 900)] (by kernel_rfl) (by kernel_rfl) (by kernel_rfl) (by kernel_rfl) (by kernel_rfl) ?_ ?_ <;> repeat' (first | exact trivial | exact vr_val _ | exact vr_list _ | exact vr_nilv _ _ _ rfl | refine And.intro ⟨_, rfl, .inr ⟨rfl, rfl, of_decide_eq_true (by kernel_rfl)⟩⟩ ?_ | apply And.intro)
  intro k hk
  by_cases hk2 : k < frs.length
  case neg =>
    obtain rfl : k = frs.length := by omega
    have e : frs.take frs.length = frs := List.take_of_length_le (by omega)
    rw [e]
    (have hg : (987654321 : Nat) - 987654321 = 0 := rfl; have hr := hg; repeat' (first | refine aw_seq ?_ | (refine aw_skip ?_; try simp only [thenQ, blockQ, if_true, if_false, Nat.reduceEqDiff, reduceCtorEq]) | (refine aw_exit ?_; try simp only [thenQ, blockQ, if_true, if_false, Nat.reduceEqDiff, reduceCtorEq]) | refine aw_ret ?_ | refine aw_block ?_ | refine aw_condT rfl ?_ | refine aw_condF rfl ?_ | (refine aw_cond rfl (fun hg => ?_) (fun hg => ?_) <;> (try (have hq := hg; simp only [Bool.not_eq_true', Bool.not_eq_false', Bool.and_eq_true, Bool.and_eq_false_iff, Bool.or_eq_true, Bool.or_eq_false_iff, decide_eq_true_eq, decide_eq_false_iff_not, bne_iff_ne, beq_iff_eq, beq_eq_false_iff_ne, bne_eq_false_iff_eq, ne_eq, Int.not_lt, Int.not_le, Decidable.not_not] at hq)) <;> (try (have hr := hg; simp only [decide_eq_true_eq, decide_eq_false_iff_not] at hr)) <;> (try (exfalso; omega))) | ((first | refine aw_region ?_ | refine ago_if (by omega) ?_ | skip); simp (config := {maxSteps := 10000000}) (disch := first | exact okYes (by kernel_rfl) | omega) only [thenQ, dI, List.length, Nat.zero_add, Nat.reduceAdd, Nat.reduceMul, ARun_none, AOpRun, aexec, FSt.ev, St.F, eget_c, Nat.reduceBEq, ↓eget_h, cond_false, AGo_ok, St.app, putO, eput_c, eput_n, hups, List.map, rows_len, isSh, Bool.false_eq_true, ↓reduceIte, Option.map, abin, ARun_nil, dropE_c, inL_c, inL_n, beq_self_eq_true, cond_true, dropE_n, hr, decide_false])))
    refine end_to [40] [] (by first | exact .inl rfl | exact .inr rfl) rfl (by kernel_rfl) (by kernel_rfl) (by kernel_rfl) ?_ ?_ <;> repeat' (first | exact trivial | refine vr_fl _ _ _ _ _ (by decide) rfl ?_ ?_ ?_ ?_)
    all_goals first | exact rows_one _ | exact rows_len _ | exact rows_flat _ | exact rcells_in _
  have g1 := rows_gd frs k hk2
  rw [show frs[k]?.getD [] = frm frs k from rfl] at g1
  have hfl := hm k
  have e : rcells (frs.take (k + 1)) = rcells (frs.take k) ++ [.list (ints (frm frs k))] := by
    unfold rcells
    rw [List.take_add_one, List.map_append]
    simp [hk2, frm]
  have hcin := rcells_in (frs.take (k + 1))
  have hrl : (rcells (frs.take k)).length = k := by rw [rcells_len, List.length_take]; omega
  have hrt : (rcells (frs.take k)).take k = rcells (frs.take k) := List.take_of_length_le (by omega)
  have ki : (k : Int) < (frs.length : Int) := by omega
  rw [e] at hcin
  generalize frm frs k = fr at *
  generalize rcells (frs.take k) = R at *
  refine aw_seq (aw_seq (aw_region ?_))
  simp (config := {maxSteps := 10000000}) (disch := first | exact okYes (by kernel_rfl) | omega) only [thenQ, dI, List.length, Nat.zero_add, Nat.reduceAdd, Nat.reduceMul, ARun_none, AOpRun, aexec, FSt.ev, St.F, eget_c, Nat.reduceBEq, ↓eget_h, cond_false, AGo_ok, St.app, putO, eput_c, eput_n, hups, List.map, rows_len, isSh, Bool.false_eq_true, ↓reduceIte, Option.map, abin, ki, decide_true, ARun_nil, dropE_c, inL_c, inL_n, beq_self_eq_true, cond_true, dropE_n]
  refine aw_condT rfl (aw_skip ?_)
  refine aw_seq (aw_block ?_)
  refine aw_region_cut [⟨some 11, .mv (.tmp 3), none, []⟩,
            ⟨some 12, .buildSl 1 0 [] [], none, []⟩,
            ⟨some 13, .mv (.tmp 0), none, []⟩,
            ⟨some 14, .mv (.tmp 4), none, []⟩,
            ⟨some 15, .iadS 1 (.tmp 13) (.tmp 14), none, []⟩,
            ⟨some 16, .load1 (.tmp 15), none, []⟩,
            ⟨some 17, .app 1 8 (.tmp 12) (.tmp 16), none, []⟩] [⟨some 18, .buildSl 1 1 [(.val (.slice none 0 0))] [(0, 1, (.tmp 17))], none, []⟩,
            ⟨some 19, .app 1 24 (.tmp 11) (.tmp 18), none, []⟩,
            ⟨some 3, .mv (.tmp 19), none, []⟩] ?_
  simp (config := {maxSteps := 10000000}) (disch := first | exact okYes (by kernel_rfl) | omega) only [List.length, Nat.zero_add, Nat.reduceAdd, Nat.reduceMul, blockQ, thenQ, ARun_none, AOpRun, aexec, Option.isSome, Option.map, fillD, D.isBot, FSt.ev, St.F, D.cells, ne_eq, Nat.reduceGT, or_false, splice, List.take, List.nil_append, eget_c, Nat.reduceBEq, ↓eget_h, cond_false, AGo_ok, St.app, putO, eput_c, eput_n, hups, List.map, hget_c, hget_n, Bool.false_eq_true, ↓reduceIte, hput_c, hput_n, Int.natCast_nonneg, rows_all, and_self, opt1, Int.toNat_natCast, g1, run1, List.getElem?_cons_zero, base, ↓hget_h, Nat.zero_le, elems, ints_all, ints_len, ints_flat, icells_leaf, and_true, ups, List.cons_append]
  refine ago_if (by omega) ?_
  simp (config := {maxSteps := 10000000}) (disch := first | exact okYes (by kernel_rfl) | omega) only [AGo_ok, Nat.reduceAdd, St.app, putO, eput_c, Nat.reduceBEq, eput_n, cond_false, hups, hput_c, hput_n, hdel_c, beq_self_eq_true, hdel_n, cond_true, List.map, ARun_nil]
  refine ⟨⟨[(0, .list (rows frs)), (4, dI k), (11, .vec 40 k 1), (17, .list (ints fr))], [(40, R)], 600⟩, ?_, of_decide_eq_true (by kernel_rfl), ?_⟩
  · unfold dI
    refine wk_to [480] [(40, 40)] (by kernel_rfl) (by kernel_rfl) (by kernel_rfl) (by kernel_rfl) (by kernel_rfl) ?_ ?_ <;> repeat' (first | exact trivial | exact vr_val _ | exact vr_list _ | exact vr_vec _ _ _ _ rfl | refine vr_fl _ _ _ _ _ (by decide) rfl ?_ ?_ ?_ ?_ | refine And.intro ⟨_, rfl, .inl ⟨_, rfl, by decide, ?_⟩⟩ ?_ | apply And.intro)
    all_goals first | exact ints_one _ | exact ints_len _ | exact ints_flat _ | exact icells_in _ | (refine vrl_flat _ fun d hd => hcin d ?_; simp [hd])
  simp (config := {maxSteps := 10000000}) (disch := first | exact okYes (by kernel_rfl) | omega) only [Nat.reduceSub, Nat.reduceAdd, hget_c, Nat.reduceBEq, hget_n, cond_false, Bool.false_eq_true, ↓reduceIte, dI, eget_c, ↓eget_h, List.length, Nat.zero_add, not_true_eq_false, or_self, List.drop, List.append_nil, AGo_ok, St.app, putO, eput_c, eput_n, hups, hput_c, hput_n, List.map, ARun_none, AOpRun, aexec, base, FSt.ev, St.F, beq_self_eq_true, cond_true, Nat.mul_one, hrl, Nat.le_refl, and_self, hrt, elems, ↓hget_h, List.take, Option.isSome, Nat.reduceMul, List.all, D.leaf, Bool.and_true, and_true, ups, List.cons_append, List.nil_append]
  refine ago_if (by omega) ?_
  simp (config := {maxSteps := 10000000}) (disch := first | exact okYes (by kernel_rfl) | omega) only [AGo_ok, Nat.reduceAdd, St.app, putO, eput_c, Nat.reduceBEq, eput_n, cond_false, hups, hput_c, hput_n, hdel_c, beq_self_eq_true, hdel_n, cond_true, List.map, ARun_none, AOpRun, aexec, FSt.ev, St.F, eget_c, ↓eget_h, ARun_nil, dropE_c, inL_c, inL_n, dropE_n]
  refine aw_region ?_
  simp (config := {maxSteps := 10000000}) (disch := first | exact okYes (by kernel_rfl) | omega) only [thenQ, List.length, Nat.zero_add, Nat.reduceAdd, Nat.reduceMul, ARun_none, AOpRun, aexec, FSt.ev, St.F, eget_c, Nat.reduceBEq, ↓eget_h, cond_false, AGo_ok, St.app, putO, eput_c, eput_n, hups, List.map, isSh, Bool.false_eq_true, ↓reduceIte, Option.map, abin, fits, beq_self_eq_true, cond_true, ARun_nil, dropE_c, inL_c, inL_n, dropE_n]
  refine ⟨k + 1, by omega, by omega, ?_⟩
  rw [e]
  refine wk_to [] [(40, 608)] (by kernel_rfl) (by kernel_rfl) (by kernel_rfl) (by kernel_rfl) (by kernel_rfl) ?_ ?_ <;> repeat' (first | exact trivial | exact vr_val _ | exact vr_list _ | exact vr_vec _ _ _ _ rfl | refine And.intro ⟨_, rfl, .inl ⟨_, rfl, by decide, ?_⟩⟩ ?_ | apply And.intro | exact vrl_flat _ (by first | exact icells_in _ | exact rcells_in _ | exact scells_in _ | exact bcells_in _ | assumption) | fail)
  all_goals exact vrl_flat _ hcin
/-- a tape -/
def tpD (l : Lay) (frs : List (List Int)) : D := .agg [dI l.words, dI l.s0, dI l.s1, dI l.s2, dI l.s3, .list (fls l.fl), .list (rows frs)]
theorem in_tpD (S : Nat → Prop) (l : Lay) (frs : List (List Int)) : In S (tpD l frs) := .agg _ (vals_in rfl)
/-- larger than a statement looks at -/
def farTp (l : Lay) (frs : List (List Int)) : Bool := decide ((l.fl.length : Int) > 20) || decide ((frs.length : Int) > 220) || frs.any fun f => decide ((f.length : Int) > 50)
theorem far_small {l : Lay} {frs : List (List Int)} (h : farTp l frs = false) : l.fl.length ≤ 20 ∧ frs.length ≤ 220 ∧ ∀ k, (frm frs k).length ≤ 50 := by
  unfold farTp at h
  simp only [Bool.or_eq_false_iff, decide_eq_false_iff_not, List.any_eq_false] at h
  obtain ⟨⟨h1, h2⟩, h3⟩ := h
  refine ⟨by omega, by omega, fun k => ?_⟩
  unfold frm
  by_cases hk : k < frs.length
  · have := h3 _ (List.getElem_mem hk)
    simp [hk] at this ⊢
    omega
  · simp [List.getElem?_eq_none (by omega : frs.length ≤ k)]
set_option maxRecDepth 100000 in
set_option maxHeartbeats 2000000 in
theorem far_ac (l : Lay) (frs : List (List Int)) (m1 : l.fl.length ≤ maxLen) (m2 : frs.length ≤ maxLen) (m3 : ∀ k, (frm frs k).length ≤ maxLen) : AC Try.prog 22 [tpD l frs] [] [] (dB (farTp l frs)) := by
  refine klaw12_Far.ac (n0 := 0) (by simp) ⟨in_tpD _ _ _, trivial⟩ trivial rfl ?_
  unfold claw12_Far tpD farTp
  have hmax : maxLen = 9223372036854775807 := rfl
  cases q1 : decide ((l.fl.length : Int) > 20) with
  | true =>
    simp only [Bool.true_or]
    (have hg : (987654321 : Nat) - 987654321 = 0 := rfl; have hr := hg; repeat' (first | refine aw_seq ?_ | (refine aw_skip ?_; try simp only [thenQ, blockQ, if_true, if_false, Nat.reduceEqDiff, reduceCtorEq]) | (refine aw_exit ?_; try simp only [thenQ, blockQ, if_true, if_false, Nat.reduceEqDiff, reduceCtorEq]) | refine aw_ret ?_ | refine aw_block ?_ | refine aw_condT rfl ?_ | refine aw_condF rfl ?_ | ((first | refine aw_region ?_ | refine ago_if (by omega) ?_ | skip); simp (config := {maxSteps := 10000000}) (disch := first | exact okYes (by kernel_rfl) | omega) only [thenQ, List.map, dB, List.length, Nat.zero_add, Nat.reduceAdd, Nat.reduceMul, envOf, dI, ARun_none, AOpRun, aexec, D.isBot, FSt.ev, St.F, ↓eget_h, Bool.false_eq_true, Option.isSome, hget_n, or_self, ↓reduceIte, D.cells, AGo_ok, St.app, putO, eput_c, Nat.reduceBEq, eput_n, cond_false, hups, hput_n, ARun_nil, dropE_c, inL_n, dropE_n, eget_c, Option.map, run1, hget_c, beq_self_eq_true, cond_true, List.getElem?_cons_succ, List.getElem?_cons_zero, fls_len, isSh, abin, q1, ARun_some, AG_tf, inL_c])))
    all_goals (refine end_to [] [] (by first | exact .inl rfl | exact .inr rfl) rfl (by kernel_rfl) (by kernel_rfl) (by kernel_rfl) ?_ ?_ <;> repeat' (first | exact trivial | exact vr_val _))
  | false =>
  cases q2 : decide ((frs.length : Int) > 220) with
  | true =>
    simp only [Bool.true_or, Bool.or_true]
    (have hg : (987654321 : Nat) - 987654321 = 0 := rfl; have hr := hg; repeat' (first | refine aw_seq ?_ | (refine aw_skip ?_; try simp only [thenQ, blockQ, if_true, if_false, Nat.reduceEqDiff, reduceCtorEq]) | (refine aw_exit ?_; try simp only [thenQ, blockQ, if_true, if_false, Nat.reduceEqDiff, reduceCtorEq]) | refine aw_ret ?_ | refine aw_block ?_ | refine aw_condT rfl ?_ | refine aw_condF rfl ?_ | ((first | refine aw_region ?_ | refine ago_if (by omega) ?_ | skip); simp (config := {maxSteps := 10000000}) (disch := first | exact okYes (by kernel_rfl) | omega) only [thenQ, List.map, dB, List.length, Nat.zero_add, Nat.reduceAdd, Nat.reduceMul, envOf, dI, ARun_none, AOpRun, aexec, D.isBot, FSt.ev, St.F, ↓eget_h, Bool.false_eq_true, Option.isSome, hget_n, or_self, ↓reduceIte, D.cells, AGo_ok, St.app, putO, eput_c, Nat.reduceBEq, eput_n, cond_false, hups, hput_n, ARun_nil, dropE_c, inL_n, dropE_n, eget_c, Option.map, run1, hget_c, beq_self_eq_true, cond_true, List.getElem?_cons_succ, List.getElem?_cons_zero, fls_len, isSh, abin, q1, ARun_some, AG_ff, rows_len, q2, inL_c])))
    all_goals (refine end_to [] [] (by first | exact .inl rfl | exact .inr rfl) rfl (by kernel_rfl) (by kernel_rfl) (by kernel_rfl) ?_ ?_ <;> repeat' (first | exact trivial | exact vr_val _))
  | false =>
  simp only [Bool.or_self, Bool.false_or]
  refine aw_seq (aw_region ?_)
  simp (config := {maxSteps := 10000000}) (disch := first | exact okYes (by kernel_rfl) | omega) only [thenQ, List.map, List.length, Nat.zero_add, Nat.reduceAdd, Nat.reduceMul, envOf, dI, ARun_none, AOpRun, aexec, D.isBot, FSt.ev, St.F, ↓eget_h, Bool.false_eq_true, Option.isSome, hget_n, or_self, ↓reduceIte, D.cells, AGo_ok, St.app, putO, eput_c, Nat.reduceBEq, eput_n, cond_false, hups, hput_n, ARun_nil, dropE_c, inL_n, dropE_n]
  refine aw_seq (aw_seq (aw_region ?_))
  simp (config := {maxSteps := 10000000}) (disch := first | exact okYes (by kernel_rfl) | omega) only [thenQ, List.length, Nat.zero_add, Nat.reduceAdd, Nat.reduceMul, ARun_none, AOpRun, aexec, FSt.ev, St.F, eget_c, Nat.reduceBEq, ↓eget_h, cond_false, AGo_ok, St.app, putO, eput_c, eput_n, hups, List.map, Option.map, run1, hget_c, beq_self_eq_true, hget_n, cond_true, List.getElem?_cons_succ, List.getElem?_cons_zero, fls_len, isSh, Bool.false_eq_true, ↓reduceIte, abin, q1, ARun_some, AG_ff, rows_len, q2, ARun_nil, dropE_c, inL_c, inL_n, dropE_n]
  refine aw_condF rfl (aw_skip ?_)
  refine aw_seq (aw_seq (aw_region ?_))
  simp (config := {maxSteps := 10000000}) (disch := first | exact okYes (by kernel_rfl) | omega) only [thenQ, List.length, Nat.zero_add, Nat.reduceMul, Nat.reduceAdd, ARun_none, AOpRun, aexec, FSt.ev, AGo_ok, St.app, putO, eput_c, Nat.reduceBEq, eput_n, cond_false, hups, List.map, ARun_nil, dropE_c, inL_n, dropE_n]
  refine aw_block (aw_loop (fun k : Nat => ⟨[(1, .ptr 0 0), (3, dI k)], [(0, [dI l.words, dI l.s0, dI l.s1, dI l.s2, dI l.s3, .list (fls l.fl), .list (rows frs)])], 400⟩) (fun k => k ≤ frs.length ∧ ∀ j, j < k → decide (((frm frs j).length : Int) > 50) = false) (fun k => frs.length - k) ⟨0, ⟨by omega, fun j hj => by omega⟩, ?_⟩ ?_)
  · unfold dI
    refine wk_to [] [(0, 0)] (by kernel_rfl) (by kernel_rfl) (by kernel_rfl) (by kernel_rfl) (by kernel_rfl) ?_ ?_ <;> repeat' (first | exact trivial | exact vr_val _ | exact vr_list _ | exact vr_ptr _ _ _ rfl | refine And.intro ⟨_, rfl, .inl ⟨_, rfl, by decide, ?_⟩⟩ ?_ | apply And.intro)
  rintro k ⟨hk, hin⟩
  have hm := m3 k
  by_cases hk2 : k < frs.length
  case neg =>
    obtain rfl : k = frs.length := by omega
    have e : frs.any (fun f => decide ((f.length : Int) > 50)) = false := List.any_eq_false.2 fun x hx => by
      obtain ⟨j, hj, rfl⟩ := List.getElem_of_mem hx
      have := hin j hj
      simp only [frm, hj, List.getElem?_eq_getElem, Option.getD_some] at this
      rw [this]; simp
    rw [e]
    (have hg : (987654321 : Nat) - 987654321 = 0 := rfl; have hr := hg; repeat' (first | refine aw_seq ?_ | (refine aw_skip ?_; try simp only [thenQ, blockQ, if_true, if_false, Nat.reduceEqDiff, reduceCtorEq]) | (refine aw_exit ?_; try simp only [thenQ, blockQ, if_true, if_false, Nat.reduceEqDiff, reduceCtorEq]) | refine aw_ret ?_ | refine aw_block ?_ | refine aw_condT rfl ?_ | refine aw_condF rfl ?_ | (refine aw_cond rfl (fun hg => ?_) (fun hg => ?_) <;> (try (have hq := hg; simp only [Bool.not_eq_true', Bool.not_eq_false', Bool.and_eq_true, Bool.and_eq_false_iff, Bool.or_eq_true, Bool.or_eq_false_iff, decide_eq_true_eq, decide_eq_false_iff_not, bne_iff_ne, beq_iff_eq, beq_eq_false_iff_ne, bne_eq_false_iff_eq, ne_eq, Int.not_lt, Int.not_le, Decidable.not_not] at hq)) <;> (try (have hr := hg; simp only [decide_eq_true_eq, decide_eq_false_iff_not] at hr)) <;> (try (exfalso; omega))) | ((first | refine aw_region ?_ | refine ago_if (by omega) ?_ | skip); simp (config := {maxSteps := 10000000}) (disch := first | exact okYes (by kernel_rfl) | omega) only [thenQ, dI, dB, List.length, Nat.zero_add, Nat.reduceAdd, Nat.reduceMul, ARun_none, AOpRun, aexec, FSt.ev, St.F, eget_c, Nat.reduceBEq, ↓eget_h, cond_false, AGo_ok, St.app, putO, eput_c, eput_n, hups, List.map, Option.map, run1, hget_c, beq_self_eq_true, hget_n, cond_true, List.getElem?_cons_succ, List.getElem?_cons_zero, rows_len, isSh, Bool.false_eq_true, ↓reduceIte, abin, ARun_nil, dropE_c, inL_c, inL_n, dropE_n, hr, decide_false])))
    all_goals (refine end_to [] [] (by first | exact .inl rfl | exact .inr rfl) rfl (by kernel_rfl) (by kernel_rfl) (by kernel_rfl) ?_ ?_ <;> repeat' (first | exact trivial | exact vr_val _))
  have g1 := rows_gd frs k hk2
  rw [show frs[k]?.getD [] = frm frs k from rfl] at g1
  cases he : decide (((frm frs k).length : Int) > 50) with
  | true =>
    have e : frs.any (fun f => decide ((f.length : Int) > 50)) = true := List.any_eq_true.2 ⟨frs[k], List.getElem_mem hk2, by
      simp only [frm, hk2, List.getElem?_eq_getElem, Option.getD_some] at he
      exact he⟩
    rw [e]
    (have hg : (987654321 : Nat) - 987654321 = 0 := rfl; have hr := hg; repeat' (first | refine aw_seq ?_ | (refine aw_skip ?_; try simp only [thenQ, blockQ, if_true, if_false, Nat.reduceEqDiff, reduceCtorEq]) | (refine aw_exit ?_; try simp only [thenQ, blockQ, if_true, if_false, Nat.reduceEqDiff, reduceCtorEq]) | refine aw_ret ?_ | refine aw_block ?_ | refine aw_condT rfl ?_ | refine aw_condF rfl ?_ | (refine aw_cond rfl (fun hg => ?_) (fun hg => ?_) <;> (try (have hq := hg; simp only [Bool.not_eq_true', Bool.not_eq_false', Bool.and_eq_true, Bool.and_eq_false_iff, Bool.or_eq_true, Bool.or_eq_false_iff, decide_eq_true_eq, decide_eq_false_iff_not, bne_iff_ne, beq_iff_eq, beq_eq_false_iff_ne, bne_eq_false_iff_eq, ne_eq, Int.not_lt, Int.not_le, Decidable.not_not] at hq)) <;> (try (have hr := hg; simp only [decide_eq_true_eq, decide_eq_false_iff_not] at hr)) <;> (try (exfalso; omega))) | ((first | refine aw_region ?_ | refine ago_if (by omega) ?_ | skip); simp (config := {maxSteps := 10000000}) (disch := first | exact okYes (by kernel_rfl) | omega) only [thenQ, dI, dB, List.length, Nat.zero_add, Nat.reduceAdd, Nat.reduceMul, ARun_none, AOpRun, aexec, FSt.ev, St.F, eget_c, Nat.reduceBEq, ↓eget_h, cond_false, AGo_ok, St.app, putO, eput_c, eput_n, hups, List.map, Option.map, run1, hget_c, beq_self_eq_true, hget_n, cond_true, List.getElem?_cons_succ, List.getElem?_cons_zero, rows_len, isSh, Bool.false_eq_true, ↓reduceIte, abin, ARun_nil, dropE_c, inL_c, inL_n, dropE_n, hr, decide_true, Int.natCast_nonneg, rows_all, and_self, opt1, Int.toNat_natCast, g1, ints_len, he, blockQ])))
    all_goals (refine end_to [] [] (by first | exact .inl rfl | exact .inr rfl) rfl (by kernel_rfl) (by kernel_rfl) (by kernel_rfl) ?_ ?_ <;> repeat' (first | exact trivial | exact vr_val _))
  | false =>
    (have hg : (987654321 : Nat) - 987654321 = 0 := rfl; have hr := hg; repeat' (first | refine aw_seq ?_ | (refine aw_skip ?_; try simp only [thenQ, blockQ, if_true, if_false, Nat.reduceEqDiff, reduceCtorEq]) | (refine aw_exit ?_; try simp only [thenQ, blockQ, if_true, if_false, Nat.reduceEqDiff, reduceCtorEq]) | refine aw_ret ?_ | refine aw_block ?_ | refine aw_condT rfl ?_ | refine aw_condF rfl ?_ | (refine aw_cond rfl (fun hg => ?_) (fun hg => ?_) <;> (try (have hq := hg; simp only [Bool.not_eq_true', Bool.not_eq_false', Bool.and_eq_true, Bool.and_eq_false_iff, Bool.or_eq_true, Bool.or_eq_false_iff, decide_eq_true_eq, decide_eq_false_iff_not, bne_iff_ne, beq_iff_eq, beq_eq_false_iff_ne, bne_eq_false_iff_eq, ne_eq, Int.not_lt, Int.not_le, Decidable.not_not] at hq)) <;> (try (have hr := hg; simp only [decide_eq_true_eq, decide_eq_false_iff_not] at hr)) <;> (try (exfalso; omega))) | ((first | refine aw_region ?_ | refine ago_if (by omega) ?_ | skip); simp (config := {maxSteps := 10000000}) (disch := first | exact okYes (by kernel_rfl) | omega) only [thenQ, dI, dB, List.length, Nat.zero_add, Nat.reduceAdd, Nat.reduceMul, ARun_none, AOpRun, aexec, FSt.ev, St.F, eget_c, Nat.reduceBEq, ↓eget_h, cond_false, AGo_ok, St.app, putO, eput_c, eput_n, hups, List.map, Option.map, run1, hget_c, beq_self_eq_true, hget_n, cond_true, List.getElem?_cons_succ, List.getElem?_cons_zero, rows_len, isSh, Bool.false_eq_true, ↓reduceIte, abin, ARun_nil, dropE_c, inL_c, inL_n, dropE_n, hr, decide_true, Int.natCast_nonneg, rows_all, and_self, opt1, Int.toNat_natCast, g1, ints_len, he, fits])))
    refine ⟨k + 1, ⟨by omega, fun j hj => ?_⟩, by omega, ?_⟩
    · rcases (by omega : j < k ∨ j = k) with h | rfl
      · exact hin j h
      · exact he
    · refine wk_to [] [(0, 0)] (by kernel_rfl) (by kernel_rfl) (by kernel_rfl) (by kernel_rfl) (by kernel_rfl) ?_ ?_ <;> repeat' (first | exact trivial | exact vr_val _ | exact vr_list _ | exact vr_ptr _ _ _ rfl | refine And.intro ⟨_, rfl, .inl ⟨_, rfl, by decide, ?_⟩⟩ ?_ | apply And.intro)
end Go.Proofs.Ytgibbaadjbohdaa
/- Arguments that came in: what their cells are. No conditions. -/
namespace Go.Proofs.Ytgibbaadjbohdaa
open Go.RowKit Lift

theorem in_ints {l : List (List D)} (h : ∀ x ∈ l, CfL [.int] x) : ∃ xs, l = ints xs ∧ ∀ x ∈ xs, -9223372036854775808 ≤ x ∧ x ≤ 9223372036854775807 := by
  induction l with
  | nil => exact ⟨[], rfl, by simp⟩
  | cons x l ih =>
    obtain ⟨xs, rfl, hx⟩ := ih fun y hy => h y (List.mem_cons_of_mem _ hy)
    have h0 := h x (List.mem_cons_self ..)
    cases h0 with
    | int n ss ds h1 h2 h3 =>
      cases h3
      exact ⟨n :: xs, rfl, fun y hy => by
        rcases List.mem_cons.1 hy with rfl | hy
        · exact ⟨h1, h2⟩
        · exact hx y hy⟩
theorem in_rows {l : List (List D)} (h : ∀ x ∈ l, CfL [.sl [.int]] x) : ∃ vs, l = rows vs ∧ ∀ r ∈ vs, r.length ≤ maxLen := by
  induction l with
  | nil => exact ⟨[], rfl, by simp⟩
  | cons x l ih =>
    obtain ⟨vs, rfl, hx⟩ := ih fun y hy => h y (List.mem_cons_of_mem _ hy)
    have h0 := h x (List.mem_cons_self ..)
    cases h0 with
    | sl e k ss ds h1 h2 h3 =>
      cases h3
      obtain ⟨xs, rfl, _⟩ := in_ints h2
      exact ⟨xs :: vs, rfl, fun y hy => by
        rcases List.mem_cons.1 hy with rfl | hy
        · simpa [ints] using h1
        · exact hx y hy⟩
end Go.Proofs.Ytgibbaadjbohdaa
/- Arguments that came in: layouts, frames, cases. No conditions. -/
namespace Go.Proofs.Ytgibbaadjbohdaa
open Go.RowKit Lift

theorem inc_int {ss : List Sh} {ds : List D} (h : CfL (.int :: ss) ds) : ∃ (a : Int) (r : List D), ds = dI a :: r ∧ CfL ss r ∧ -9223372036854775808 ≤ a ∧ a ≤ 9223372036854775807 := by
  cases h with
  | int a ss ds h1 h2 h3 => exact ⟨a, ds, rfl, h3, h1, h2⟩
theorem inc_bool {ss : List Sh} {ds : List D} (h : CfL (.bool :: ss) ds) : ∃ (a : Bool) (r : List D), ds = dB a :: r ∧ CfL ss r := by
  cases h with
  | bool a ss ds h3 => exact ⟨a, ds, rfl, h3⟩
theorem inc_sl {e ss : List Sh} {ds : List D} (h : CfL (.sl e :: ss) ds) : ∃ (l : List (List D)) (r : List D), ds = .list l :: r ∧ CfL ss r ∧ l.length ≤ maxLen ∧ ∀ x ∈ l, CfL e x := by
  cases h with
  | sl e l ss ds h1 h2 h3 => exact ⟨l, ds, rfl, h3, h1, h2⟩
theorem inc_nil {ds : List D} (h : CfL [] ds) : ds = [] := by cases h; rfl
theorem in_fls {l : List (List D)} (h : ∀ x ∈ l, CfL [.int, .int, .int, .bool, .int, .int, .int, .int, .int] x) : ∃ fs : List Fl, l = fls fs ∧ ∀ f ∈ fs, f.size ≤ 9223372036854775807 := by
  induction l with
  | nil => exact ⟨[], rfl, by simp⟩
  | cons x l ih =>
    obtain ⟨fs, rfl, hx⟩ := ih fun y hy => h y (List.mem_cons_of_mem _ hy)
    obtain ⟨a1, _, rfl, e1, _, _⟩ := inc_int (h x (List.mem_cons_self ..))
    obtain ⟨a2, _, rfl, e2, _, _⟩ := inc_int e1
    obtain ⟨a3, _, rfl, e3, _, b3⟩ := inc_int e2
    obtain ⟨a4, _, rfl, e4⟩ := inc_bool e3
    obtain ⟨a5, _, rfl, e5, _, _⟩ := inc_int e4
    obtain ⟨a6, _, rfl, e6, _, _⟩ := inc_int e5
    obtain ⟨a7, _, rfl, e7, _, _⟩ := inc_int e6
    obtain ⟨a8, _, rfl, e8, _, _⟩ := inc_int e7
    obtain ⟨a9, _, rfl, e9, _, _⟩ := inc_int e8
    obtain rfl := inc_nil e9
    exact ⟨⟨a1, a2, a3, a4, a5, a6, a7, a8, a9⟩ :: fs, rfl, fun y hy => by
      rcases List.mem_cons.1 hy with rfl | hy
      · exact b3
      · exact hx y hy⟩
theorem in_lay {ss : List Sh} {ds : List D} (h : CfL (.int :: .int :: .int :: .int :: .int :: .sl [.int, .int, .int, .bool, .int, .int, .int, .int, .int] :: ss) ds) : ∃ (l : Lay) (r : List D), ds = dI l.words :: dI l.s0 :: dI l.s1 :: dI l.s2 :: dI l.s3 :: .list (fls l.fl) :: r ∧ CfL ss r ∧ LayIn l := by
  obtain ⟨w, _, rfl, e1, _, _⟩ := inc_int h
  obtain ⟨s0, _, rfl, e2, _, _⟩ := inc_int e1
  obtain ⟨s1, _, rfl, e3, _, _⟩ := inc_int e2
  obtain ⟨s2, _, rfl, e4, _, _⟩ := inc_int e3
  obtain ⟨s3, _, rfl, e5, _, _⟩ := inc_int e4
  obtain ⟨l, r, rfl, e6, h1, h2⟩ := inc_sl e5
  obtain ⟨fs, rfl, h3⟩ := in_fls h2
  refine ⟨⟨w, s0, s1, s2, s3, fs⟩, r, rfl, e6, ⟨by simpa [fls] using h1, fun k hk => ?_⟩⟩
  have hk' : k < fs.length := hk
  show (fs[k]?.getD fl0).size ≤ _
  rw [List.getElem?_eq_getElem hk']
  exact h3 _ (List.getElem_mem hk')
theorem in_frames {ss : List Sh} {ds : List D} (h : CfL (.sl [.sl [.int]] :: ss) ds) : ∃ (frs : List (List Int)) (r : List D), ds = .list (rows frs) :: r ∧ CfL ss r ∧ FrIn frs := by
  obtain ⟨l, r, rfl, e1, h1, h2⟩ := inc_sl h
  obtain ⟨frs, rfl, h3⟩ := in_rows h2
  refine ⟨frs, r, rfl, e1, ⟨by simpa [rows] using h1, fun k => ?_⟩⟩
  unfold frm
  by_cases hk : k < frs.length
  · rw [List.getElem?_eq_getElem hk]; exact h3 _ (List.getElem_mem hk)
  · rw [List.getElem?_eq_none (by omega)]; simp
theorem in_tape {ds : List D} (h : CfL [.int, .int, .int, .int, .int, .sl [.int, .int, .int, .bool, .int, .int, .int, .int, .int], .sl [.sl [.int]]] ds) : ∃ (l : Lay) (frs : List (List Int)), ds = [dI l.words, dI l.s0, dI l.s1, dI l.s2, dI l.s3, .list (fls l.fl), .list (rows frs)] ∧ LayIn l ∧ FrIn frs := by
  obtain ⟨l, _, rfl, e1, hl⟩ := in_lay h
  obtain ⟨frs, _, rfl, e2, hf⟩ := in_frames e1
  obtain rfl := inc_nil e2
  exact ⟨l, frs, rfl, hl, hf⟩
theorem in_num {ds : List D} (h : CfL [.int] ds) : ∃ n : Int, ds = [dI n] ∧ -9223372036854775808 ≤ n ∧ n ≤ 9223372036854775807 := by
  obtain ⟨n, _, rfl, e1, h1, h2⟩ := inc_int h
  obtain rfl := inc_nil e1
  exact ⟨n, rfl, h1, h2⟩
end Go.Proofs.Ytgibbaadjbohdaa
/- TopHeard: the gearbox on the tape. No conditions. -/
set_option linter.unusedSimpArgs false
set_option linter.unusedVariables false
namespace Go.Proofs.Ytgibbaadjbohdaa
open Go Go.RowKit Lift

theorem in_three {ds : List D} (h : CfL [.int, .int, .int] ds) : ∃ x y z : Int, ds = [dI x, dI y, dI z] := by
  obtain ⟨x, r, rfl, h, _⟩ := inc_int h
  obtain ⟨y, r, rfl, h, _⟩ := inc_int h
  obtain ⟨z, r, rfl, h, _⟩ := inc_int h
  obtain rfl := inc_nil h
  exact ⟨x, y, z, rfl⟩
set_option maxRecDepth 100000 in
set_option maxHeartbeats 2000000 in
theorem tsameI_ac (a : List Int) (ha : a.length ≤ 1000000) : AC Try.prog 30 [.list (ints a), .list (ints a)] [] [] (dB true) := by
  refine ktop_sameInts.ac (n0 := 0) (by simp) ⟨.list _, .list _, trivial⟩ trivial rfl ?_
  unfold ctop_sameInts
  have q : ((a.length : Int) != (a.length : Int)) = false := by simp
  refine aw_seq (aw_region ?_)
  simp (config := {maxSteps := 10000000}) (disch := first | exact okYes (by kernel_rfl) | omega) only [thenQ, List.map, List.length, Nat.zero_add, Nat.reduceMul, envOf, ARun_none, AOpRun, aexec, FSt.ev, AGo_ok, St.app, putO, eput_c, Nat.reduceBEq, eput_n, cond_false, hups, ARun_nil, dropE_c, inL_n, dropE_n]
  refine aw_seq (aw_seq (aw_region ?_))
  simp (config := {maxSteps := 10000000}) (disch := first | exact okYes (by kernel_rfl) | omega) only [thenQ, List.length, Nat.zero_add, Nat.reduceAdd, Nat.reduceMul, ARun_none, AOpRun, aexec, FSt.ev, St.F, ↓eget_h, AGo_ok, St.app, putO, eput_c, Nat.reduceBEq, eput_n, cond_false, hups, List.map, eget_c, ints_len, isSh, Bool.false_eq_true, ↓reduceIte, Option.map, abin, bne_self_eq_false, ARun_nil, dropE_c, inL_c, inL_n, beq_self_eq_true, cond_true, dropE_n]
  refine aw_condF rfl (aw_skip ?_)
  refine aw_seq (aw_seq (aw_region ?_))
  simp (config := {maxSteps := 10000000}) (disch := first | exact okYes (by kernel_rfl) | omega) only [thenQ, List.length, Nat.zero_add, Nat.reduceMul, Nat.reduceAdd, ARun_none, AOpRun, aexec, FSt.ev, AGo_ok, St.app, putO, eput_c, Nat.reduceBEq, eput_n, cond_false, hups, List.map, ARun_nil, dropE_c, inL_n, dropE_n]
  refine aw_block (aw_loop (fun k : Nat => ⟨[(0, .list (ints a)), (1, .list (ints a)), (5, dI k)], [], 400⟩) (fun k => k ≤ a.length) (fun k => a.length - k) ⟨0, by omega, ?_⟩ ?_)
  · refine wk_to [] [] (by kernel_rfl) (by kernel_rfl) (by kernel_rfl) (by kernel_rfl) (by kernel_rfl) ?_ ?_ <;> repeat' (first | exact trivial | exact vr_val _ | exact vr_list _ | apply And.intro)
  intro k hk
  by_cases hk2 : k < a.length
  case neg =>
    obtain rfl : k = a.length := by omega
    (have hg : (987654321 : Nat) - 987654321 = 0 := rfl; have hr := hg; repeat' (first | refine aw_seq ?_ | (refine aw_skip ?_; try simp only [thenQ, blockQ, if_true, if_false, Nat.reduceEqDiff, reduceCtorEq]) | (refine aw_exit ?_; try simp only [thenQ, blockQ, if_true, if_false, Nat.reduceEqDiff, reduceCtorEq]) | refine aw_ret ?_ | refine aw_block ?_ | refine aw_condT rfl ?_ | refine aw_condF rfl ?_ | (refine aw_cond rfl (fun hg => ?_) (fun hg => ?_) <;> (try (have hq := hg; simp only [Bool.not_eq_true', Bool.not_eq_false', Bool.and_eq_true, Bool.and_eq_false_iff, Bool.or_eq_true, Bool.or_eq_false_iff, decide_eq_true_eq, decide_eq_false_iff_not, bne_iff_ne, beq_iff_eq, beq_eq_false_iff_ne, bne_eq_false_iff_eq, ne_eq, Int.not_lt, Int.not_le, Decidable.not_not] at hq)) <;> (try (have hr := hg; simp only [decide_eq_true_eq, decide_eq_false_iff_not] at hr)) <;> (try (exfalso; omega))) | ((first | refine aw_region ?_ | refine ago_if (by omega) ?_ | skip); simp (config := {maxSteps := 10000000}) (disch := first | exact okYes (by kernel_rfl) | omega) only [thenQ, dI, dB, List.length, Nat.zero_add, Nat.reduceAdd, Nat.reduceMul, ARun_none, AOpRun, aexec, FSt.ev, St.F, eget_c, Nat.reduceBEq, ↓eget_h, cond_false, AGo_ok, St.app, putO, eput_c, eput_n, hups, List.map, ints_len, isSh, Bool.false_eq_true, ↓reduceIte, Option.map, abin, ARun_nil, dropE_c, inL_c, inL_n, beq_self_eq_true, cond_true, dropE_n, hr, decide_false])))
    all_goals (refine end_to [] [] (by first | exact .inl rfl | exact .inr rfl) rfl (by kernel_rfl) (by kernel_rfl) (by kernel_rfl) ?_ ?_ <;> repeat' (first | exact trivial | exact vr_val _))
  have g1 := ints_gd a k hk2
  have q1 : (a[k]?.getD 0 != a[k]?.getD 0) = false := by simp
  (have hg : (987654321 : Nat) - 987654321 = 0 := rfl; have hr := hg; repeat' (first | refine aw_seq ?_ | (refine aw_skip ?_; try simp only [thenQ, blockQ, if_true, if_false, Nat.reduceEqDiff, reduceCtorEq]) | (refine aw_exit ?_; try simp only [thenQ, blockQ, if_true, if_false, Nat.reduceEqDiff, reduceCtorEq]) | refine aw_ret ?_ | refine aw_block ?_ | refine aw_condT rfl ?_ | refine aw_condF rfl ?_ | (refine aw_cond rfl (fun hg => ?_) (fun hg => ?_) <;> (try (have hq := hg; simp only [Bool.not_eq_true', Bool.not_eq_false', Bool.and_eq_true, Bool.and_eq_false_iff, Bool.or_eq_true, Bool.or_eq_false_iff, decide_eq_true_eq, decide_eq_false_iff_not, bne_iff_ne, beq_iff_eq, beq_eq_false_iff_ne, bne_eq_false_iff_eq, ne_eq, Int.not_lt, Int.not_le, Decidable.not_not] at hq)) <;> (try (have hr := hg; simp only [decide_eq_true_eq, decide_eq_false_iff_not] at hr)) <;> (try (exfalso; omega))) | ((first | refine aw_region ?_ | refine ago_if (by omega) ?_ | skip); simp (config := {maxSteps := 10000000}) (disch := first | exact okYes (by kernel_rfl) | omega) only [thenQ, dI, dB, List.length, Nat.zero_add, Nat.reduceAdd, Nat.reduceMul, ARun_none, AOpRun, aexec, FSt.ev, St.F, eget_c, Nat.reduceBEq, ↓eget_h, cond_false, AGo_ok, St.app, putO, eput_c, eput_n, hups, List.map, ints_len, isSh, Bool.false_eq_true, ↓reduceIte, Option.map, abin, ARun_nil, dropE_c, inL_c, inL_n, beq_self_eq_true, cond_true, dropE_n, hr, decide_true, Int.natCast_nonneg, ints_all, and_self, opt1, Int.toNat_natCast, g1, run1, List.getElem?_cons_zero, bne_self_eq_false, fits])))
  refine ⟨k + 1, by omega, by omega, ?_⟩
  refine wk_to [] [] (by kernel_rfl) (by kernel_rfl) (by kernel_rfl) (by kernel_rfl) (by kernel_rfl) ?_ ?_ <;> repeat' (first | exact trivial | exact vr_val _ | exact vr_list _ | apply And.intro)
set_option maxRecDepth 100000 in
set_option maxHeartbeats 8000000 in
theorem lawHeard_ac (l : Lay) (frs : List (List Int)) (x y pts t : Int) (hl : LayIn l) (hf : FrIn frs) : AC Try.prog 6 [tpD l frs, .agg [dI x, dI y, dI pts], dI t] [] [] (dB true) := by
  refine ktop_TopHeard.ac (n0 := 0) (by simp) ⟨in_tpD _ _ _, .agg _ (vals_in rfl), .val _, trivial⟩ trivial rfl ?_
  unfold ctop_TopHeard
  have fa := far_ac l frs hl.nf hf.n hf.m
  have rl := rows_len frs
  unfold tpD at *
  cases hb : farTp l frs with
  | true =>
    rw [hb] at fa
    (have hg : (987654321 : Nat) - 987654321 = 0 := rfl; have hr := hg; repeat' (first | refine aw_seq ?_ | (refine aw_skip ?_; with_reducible repeat' (first | refine thenQ_n ?_ | refine blockQ_n ?_ | refine thenQ_e ?_ | refine blockQ_t ?_ | refine blockQ_f (by decide) ?_)) | (refine aw_exit ?_; with_reducible repeat' (first | refine thenQ_n ?_ | refine blockQ_n ?_ | refine thenQ_e ?_ | refine blockQ_t ?_ | refine blockQ_f (by decide) ?_)) | refine aw_ret ?_ | refine aw_block ?_ | refine aw_condT rfl ?_ | refine aw_condF rfl ?_ | ((first | refine aw_hide fun K hK => aw_region ?_ | refine acall0 (fa) ?_ | refine acall0 (measures_ac) ?_ | refine ago_if (by omega) ?_ | skip); simp (config := {maxSteps := 10000000}) (disch := first | exact okYes (by kernel_rfl) | omega) only [List.length, Nat.zero_add, Nat.reduceAdd, Nat.reduceMul, envOf, dI, ARun_none, AOpRun, aexec, D.isBot, FSt.ev, St.F, ↓eget_h, Bool.false_eq_true, Option.isSome, hget_n, or_self, ↓reduceIte, D.cells, AGo_ok, St.app, putO, eput_c, Nat.reduceBEq, eput_n, cond_false, hups, hput_n, List.map, eget_c, hget_c, hput_c, ARun_nil, dropE_c, inL_n, dropE_n, beq_self_eq_true, cond_true, Nat.reduceLeDiff, List.drop, List.take, dB, ARun_some, AG_tf, inL_c, thenQ]) | (subst hK; with_reducible repeat' (first | refine thenQ_n ?_ | refine blockQ_n ?_ | refine thenQ_e ?_ | refine blockQ_t ?_ | refine blockQ_f (by decide) ?_))))
    all_goals (refine end_to [] [] (by first | exact .inl rfl | exact .inr rfl) rfl (by kernel_rfl) (by kernel_rfl) (by kernel_rfl) ?_ ?_ <;> repeat' (first | exact trivial | exact vr_val _))
  | false =>
  rw [hb] at fa
  obtain ⟨f1, f2, f3⟩ := far_small hb
  cases q9 : decide ((frs.length : Int) > 90) with
  | true =>
    (have hg : (987654321 : Nat) - 987654321 = 0 := rfl; have hr := hg; repeat' (first | refine aw_seq ?_ | (refine aw_skip ?_; with_reducible repeat' (first | refine thenQ_n ?_ | refine blockQ_n ?_ | refine thenQ_e ?_ | refine blockQ_t ?_ | refine blockQ_f (by decide) ?_)) | (refine aw_exit ?_; with_reducible repeat' (first | refine thenQ_n ?_ | refine blockQ_n ?_ | refine thenQ_e ?_ | refine blockQ_t ?_ | refine blockQ_f (by decide) ?_)) | refine aw_ret ?_ | refine aw_block ?_ | refine aw_condT rfl ?_ | refine aw_condF rfl ?_ | ((first | refine aw_hide fun K hK => aw_region ?_ | refine acall0 (fa) ?_ | refine acall0 (measures_ac) ?_ | refine ago_if (by omega) ?_ | skip); simp (config := {maxSteps := 10000000}) (disch := first | exact okYes (by kernel_rfl) | omega) only [List.length, Nat.zero_add, Nat.reduceAdd, Nat.reduceMul, envOf, dI, ARun_none, AOpRun, aexec, D.isBot, FSt.ev, St.F, ↓eget_h, Bool.false_eq_true, Option.isSome, hget_n, or_self, ↓reduceIte, D.cells, AGo_ok, St.app, putO, eput_c, Nat.reduceBEq, eput_n, cond_false, hups, hput_n, List.map, eget_c, hget_c, hput_c, ARun_nil, dropE_c, inL_n, dropE_n, beq_self_eq_true, cond_true, Nat.reduceLeDiff, List.drop, List.take, dB, ARun_some, AG_ff, Option.map, run1, List.getElem?_cons_succ, List.getElem?_cons_zero, rl, isSh, abin, q9, AG_tf, inL_c, thenQ]) | (subst hK; with_reducible repeat' (first | refine thenQ_n ?_ | refine blockQ_n ?_ | refine thenQ_e ?_ | refine blockQ_t ?_ | refine blockQ_f (by decide) ?_))))
    all_goals (refine end_to [] [] (by first | exact .inl rfl | exact .inr rfl) rfl (by kernel_rfl) (by kernel_rfl) (by kernel_rfl) ?_ ?_ <;> repeat' (first | exact trivial | exact vr_val _))
  | false =>
  have h90 := of_decide_eq_false q9
  have ck := checkF_ac l frs hl hf
  rcases tpE_cases l frs with ⟨h0, h1, h2⟩ | ⟨h0, h1⟩
  case inr =>
    unfold layD layC at *
    generalize tpE l frs = E at *
    (have hg : (987654321 : Nat) - 987654321 = 0 := rfl; have hr := hg; repeat' (first | refine aw_seq ?_ | (refine aw_skip ?_; with_reducible repeat' (first | refine thenQ_n ?_ | refine blockQ_n ?_ | refine thenQ_e ?_ | refine blockQ_t ?_ | refine blockQ_f (by decide) ?_)) | (refine aw_exit ?_; with_reducible repeat' (first | refine thenQ_n ?_ | refine blockQ_n ?_ | refine thenQ_e ?_ | refine blockQ_t ?_ | refine blockQ_f (by decide) ?_)) | refine aw_ret ?_ | refine aw_block ?_ | refine aw_condT rfl ?_ | refine aw_condF rfl ?_ | ((first | refine aw_hide fun K hK => aw_region ?_ | refine acall0 (fa) ?_ | refine acall0 (ck) ?_ | refine acall0 (measures_ac) ?_ | refine ago_if (by omega) ?_ | skip); simp (config := {maxSteps := 10000000}) (disch := first | exact okYes (by kernel_rfl) | omega) only [List.length, Nat.zero_add, Nat.reduceAdd, Nat.reduceMul, envOf, dI, ARun_none, AOpRun, aexec, D.isBot, FSt.ev, St.F, ↓eget_h, Bool.false_eq_true, Option.isSome, hget_n, or_self, ↓reduceIte, D.cells, AGo_ok, St.app, putO, eput_c, Nat.reduceBEq, eput_n, cond_false, hups, hput_n, List.map, eget_c, hget_c, hput_c, ARun_nil, dropE_c, inL_n, dropE_n, beq_self_eq_true, cond_true, Nat.reduceLeDiff, List.drop, List.take, dB, ARun_some, AG_ff, Option.map, run1, List.getElem?_cons_succ, List.getElem?_cons_zero, rl, isSh, abin, q9, h1, inL_c, thenQ]) | (subst hK; with_reducible repeat' (first | refine thenQ_n ?_ | refine blockQ_n ?_ | refine thenQ_e ?_ | refine blockQ_t ?_ | refine blockQ_f (by decide) ?_))))
    all_goals (refine end_to [] [] (by first | exact .inl rfl | exact .inr rfl) rfl (by kernel_rfl) (by kernel_rfl) (by kernel_rfl) ?_ ?_ <;> repeat' (first | exact trivial | exact vr_val _))
  rw [h0] at ck
  have cf := copyF_ac frs (by omega) (fun k => by have := f3 k; omega)
  have c1 := shake_ac l frs x y pts hl hf
  have c2 := rshake_ac l frs x y pts hl hf
  by_cases he : shE l frs x y pts = 0
  case neg =>
    generalize shE l frs x y pts = e at *
    have b1 : (e == e) = true := by simp
    have b5 : (e != 0) = true := by simpa using he
    unfold layD layC at *
    (have hg : (987654321 : Nat) - 987654321 = 0 := rfl; have hr := hg; repeat' (first | refine aw_seq ?_ | (refine aw_skip ?_; with_reducible repeat' (first | refine thenQ_n ?_ | refine blockQ_n ?_ | refine thenQ_e ?_ | refine blockQ_t ?_ | refine blockQ_f (by decide) ?_)) | (refine aw_exit ?_; with_reducible repeat' (first | refine thenQ_n ?_ | refine blockQ_n ?_ | refine thenQ_e ?_ | refine blockQ_t ?_ | refine blockQ_f (by decide) ?_)) | refine aw_ret ?_ | refine aw_block ?_ | refine aw_condT rfl ?_ | refine aw_condF rfl ?_ | ((first | refine aw_hide fun K hK => aw_region ?_ | refine acall0 (fa) ?_ | refine acall0 (ck) ?_ | refine acall0 (cf) ?_ | refine acall0 (c1) ?_ | refine acall0 (c2) ?_ | refine acall0 (measures_ac) ?_ | refine ago_if (by omega) ?_ | skip); simp (config := {maxSteps := 10000000}) (disch := first | exact okYes (by kernel_rfl) | omega) only [List.length, Nat.zero_add, Nat.reduceAdd, Nat.reduceMul, envOf, dI, ARun_none, AOpRun, aexec, D.isBot, FSt.ev, St.F, ↓eget_h, Bool.false_eq_true, Option.isSome, hget_n, or_self, ↓reduceIte, D.cells, AGo_ok, St.app, putO, eput_c, Nat.reduceBEq, eput_n, cond_false, hups, hput_n, List.map, eget_c, hget_c, hput_c, ARun_nil, dropE_c, inL_n, dropE_n, beq_self_eq_true, cond_true, Nat.reduceLeDiff, List.drop, List.take, dB, ARun_some, AG_ff, Option.map, run1, List.getElem?_cons_succ, List.getElem?_cons_zero, rl, isSh, abin, q9, bne_self_eq_false, inL_c, ↓hget_h, opt1, b5, AG_tf, AG_tt, thenQ]) | (subst hK; with_reducible repeat' (first | refine thenQ_n ?_ | refine blockQ_n ?_ | refine thenQ_e ?_ | refine blockQ_t ?_ | refine blockQ_f (by decide) ?_))))
    all_goals (refine end_to [] [] (by first | exact .inl rfl | exact .inr rfl) rfl (by kernel_rfl) (by kernel_rfl) (by kernel_rfl) ?_ ?_ <;> repeat' (first | exact trivial | exact vr_val _))
  have hw : wfE l frs [x, y] = 0 := by
    by_cases hw : wfE l frs [x, y] = 0
    · exact hw
    · rw [show shE l frs x y pts = wfE l frs [x, y] from if_neg hw] at he; exact absurd he hw
  obtain ⟨_, t1, t2, t3⟩ := shE_torn (pts := pts) hw (by omega)
  have htl := torn_len frs frs.length
  have c5 := shake_ac l (torn frs frs.length) x y pts hl ⟨by rw [htl]; have : maxLen = 9223372036854775807 := rfl; omega, torn_m frs frs.length maxLen hf.m⟩
  rw [t1, t2, t3] at c5
  have hlen : (shL l frs x y pts).length ≤ 24 := by
    unfold shL
    rw [if_pos hw]
    exact avL_len _ _ _
  obtain ⟨_, _, _, hx, hy⟩ := wfE_two hw
  have nf := h1.nf
  have hx := wI_t hx
  have hy := wI_t hy
  obtain ⟨a, rfl⟩ : ∃ a : Nat, x = a := ⟨x.toNat, by omega⟩
  obtain ⟨b, rfl⟩ : ∃ b : Nat, y = b := ⟨y.toNat, by omega⟩
  have c3 := rshaken_ac l frs a b h1 h2 hf (by omega) (by omega)
  have c4 := havg_ac (shV l frs a) (shM l frs a b) pts (by unfold shV; rw [smV_len]; have := smps_len l (fAt l (a : Int).toNat) frs frs.length; omega) (by unfold shM; have := smM_len l (fAt l (a : Int).toNat) (fAt l (b : Int).toNat) frs frs.length; omega)
  have e1 : shL l frs a b pts = avL (shV l frs a) (shM l frs a b) pts := if_pos hw
  have e2 : shD l frs a b pts = avD (shV l frs a) (shM l frs a b) pts := if_pos hw
  have e3 : shE l frs a b pts = avE (shV l frs a) (shM l frs a b) pts := if_pos hw
  rw [← e1, ← e2, ← e3] at c4
  rw [he] at c1 c2 c4 c5
  clear e1 e2 e3 t1 t2 t3
  generalize shL l frs a b pts = s at *
  generalize shD l frs a b pts = d at *
  generalize shV l frs a = V at *
  generalize shM l frs a b = M at *
  have sp := tsameI_ac s (by omega)
  have ms := measure_ac s d t (by omega)
  generalize iat (msV s d t) 0 = m0 at *
  generalize iat (msV s d t) 1 = m1 at *
  generalize iat (msV s d t) 2 = m2 at *
  generalize iat (msV s d t) 3 = m3 at *
  generalize msE s d t = me at *
  have b1 : (d != d) = false := by simp
  have b2 : (me != me) = false := by simp
  have b3 : (d == d) = true := by simp
  unfold layD layC at *
  (have hg : (987654321 : Nat) - 987654321 = 0 := rfl; have hr := hg; repeat' (first | refine aw_seq ?_ | (refine aw_skip ?_; with_reducible repeat' (first | refine thenQ_n ?_ | refine blockQ_n ?_ | refine thenQ_e ?_ | refine blockQ_t ?_ | refine blockQ_f (by decide) ?_)) | (refine aw_exit ?_; with_reducible repeat' (first | refine thenQ_n ?_ | refine blockQ_n ?_ | refine thenQ_e ?_ | refine blockQ_t ?_ | refine blockQ_f (by decide) ?_)) | refine aw_ret ?_ | refine aw_block ?_ | refine aw_condT rfl ?_ | refine aw_condF rfl ?_ | ((first | refine aw_hide fun K hK => aw_region ?_ | refine acall0 (fa) ?_ | refine acall0 (ck) ?_ | refine acall0 (cf) ?_ | refine acall0 (c1) ?_ | refine acall0 (c2) ?_ | refine acall0 (c3) ?_ | refine acall0 (c4) ?_ | refine acall0 (ms) ?_ | refine ago_if (by omega) ?_ | skip); simp (config := {maxSteps := 10000000}) (disch := first | exact okYes (by kernel_rfl) | omega) only [List.length, Nat.zero_add, Nat.reduceAdd, Nat.reduceMul, envOf, dI, ARun_none, AOpRun, aexec, D.isBot, FSt.ev, St.F, ↓eget_h, Bool.false_eq_true, Option.isSome, hget_n, or_self, ↓reduceIte, D.cells, AGo_ok, St.app, putO, eput_c, Nat.reduceBEq, eput_n, cond_false, hups, hput_n, List.map, eget_c, hget_c, hput_c, ARun_nil, dropE_c, inL_n, dropE_n, beq_self_eq_true, cond_true, Nat.reduceLeDiff, List.drop, List.take, dB, ARun_some, AG_ff, Option.map, run1, List.getElem?_cons_succ, List.getElem?_cons_zero, rl, isSh, abin, q9, bne_self_eq_false, inL_c, ↓hget_h, opt1, List.all, D.leaf, Bool.and_true, and_self, splice, List.nil_append, List.append_nil, D.isAgg, isB, eqCells, scalarEq]) | (subst hK; with_reducible repeat' (first | refine thenQ_n ?_ | refine blockQ_n ?_ | refine thenQ_e ?_ | refine blockQ_t ?_ | refine blockQ_f (by decide) ?_))))
  clear fa ck cf c1 c2 c3 c4 ms b1 b2
  refine aw_loop (fun k : Nat => ⟨[(3, .ptr 0 0), (4, .ptr 8 0), (7, .list (ints s)), (8, dI d), (20, .vec 40 (2 * k) 1), (21, dI k)], [(0, [dI l.words, dI l.s0, dI l.s1, dI l.s2, dI l.s3, .list (fls l.fl), .list (rows frs)]), (8, [dI a, dI b, dI pts]), (40, rcells (torn frs k))], 1000⟩) (fun k => k ≤ frs.length) (fun k => frs.length - k) ⟨0, by omega, ?_⟩ ?_
  · show Wk _ _ ⟨[_, _, _, _, (20, .vec 40 0 1), _], [_, _, (40, [])], _⟩
    unfold dI
    refine wk_to [] [(0, 0), (8, 8), (40, 944)] (by kernel_rfl) (by kernel_rfl) (by kernel_rfl) (by kernel_rfl) (by kernel_rfl) ?_ ?_ <;> repeat' (first | exact trivial | exact vr_val _ | exact vr_list _ | exact vr_ptr _ _ _ rfl | exact vr_nilv _ _ _ rfl | refine And.intro ⟨_, rfl, .inl ⟨_, rfl, by decide, ?_⟩⟩ ?_ | refine And.intro ⟨_, rfl, .inr ⟨rfl, rfl, of_decide_eq_true (by kernel_rfl)⟩⟩ ?_ | apply And.intro)
  intro k hk
  have htk := torn_len frs k
  by_cases hk2 : k < frs.length
  case neg =>
    obtain rfl : k = frs.length := by omega
    refine aw_wk (s' := ⟨[(3, .ptr 0 0), (4, .ptr 8 0), (7, .list (ints s)), (8, dI d), (20, .list (rows (torn frs frs.length))), (21, dI frs.length)], [(0, [dI l.words, dI l.s0, dI l.s1, dI l.s2, dI l.s3, .list (fls l.fl), .list (rows frs)]), (8, [dI a, dI b, dI pts])], 1000⟩) ?_ ?_
    · unfold dI
      refine wk_to [40] [(0, 0), (8, 8)] (by kernel_rfl) (by kernel_rfl) (by kernel_rfl) (by kernel_rfl) (by kernel_rfl) ?_ ?_ <;> repeat' (first | exact trivial | exact vr_val _ | exact vr_list _ | exact vr_ptr _ _ _ rfl | refine vr_fl _ _ _ _ _ (by decide) rfl ?_ ?_ ?_ ?_ | refine And.intro ⟨_, rfl, .inl ⟨_, rfl, by decide, ?_⟩⟩ ?_ | apply And.intro)
      all_goals first | exact rows_one _ | exact (rows_len _).trans htk | (rw [List.take_of_length_le (by rw [rcells_len]; omega)]; exact rows_flat _) | exact rows_flat _ | exact rcells_in _
    generalize torn frs frs.length = T at *
    (have hg : (987654321 : Nat) - 987654321 = 0 := rfl; have hr := hg; repeat' (first | refine aw_seq ?_ | (refine aw_skip ?_; with_reducible repeat' (first | refine thenQ_n ?_ | refine blockQ_n ?_ | refine thenQ_e ?_ | refine blockQ_t ?_ | refine blockQ_f (by decide) ?_)) | (refine aw_exit ?_; with_reducible repeat' (first | refine thenQ_n ?_ | refine blockQ_n ?_ | refine thenQ_e ?_ | refine blockQ_t ?_ | refine blockQ_f (by decide) ?_)) | refine aw_ret ?_ | refine aw_block ?_ | refine aw_condT rfl ?_ | refine aw_condF rfl ?_ | (refine aw_cond rfl (fun hg => ?_) (fun hg => ?_) <;> (try (have hq := hg; simp only [Bool.not_eq_true', Bool.not_eq_false', Bool.and_eq_true, Bool.and_eq_false_iff, Bool.or_eq_true, Bool.or_eq_false_iff, decide_eq_true_eq, decide_eq_false_iff_not, bne_iff_ne, beq_iff_eq, beq_eq_false_iff_ne, bne_eq_false_iff_eq, ne_eq, Int.not_lt, Int.not_le, Decidable.not_not] at hq)) <;> (try (have hr := hg; simp only [decide_eq_true_eq, decide_eq_false_iff_not] at hr)) <;> (try (exfalso; omega))) | ((first | refine aw_hide fun K hK => aw_region ?_ | refine acall0 (c5) ?_ | refine acall0 (sp) ?_ | refine acall0 (measures_ac) ?_ | refine ago_if (by omega) ?_ | skip); simp (config := {maxSteps := 10000000}) (disch := first | exact okYes (by kernel_rfl) | omega) only [List.length, Nat.zero_add, Nat.reduceAdd, Nat.reduceMul, dI, ARun_none, AOpRun, aexec, FSt.ev, St.F, eget_c, Nat.reduceBEq, ↓eget_h, cond_false, AGo_ok, St.app, putO, eput_c, eput_n, hups, List.map, Option.map, run1, hget_c, beq_self_eq_true, hget_n, cond_true, List.getElem?_cons_succ, List.getElem?_cons_zero, rl, isSh, Bool.false_eq_true, ↓reduceIte, abin, ARun_nil, dropE_c, inL_c, inL_n, dropE_n, hr, decide_false, Nat.reduceLeDiff, List.drop, List.take, ↓hget_h, opt1, ARun_some, AG_tt, dB]) | (subst hK; with_reducible repeat' (first | refine thenQ_n ?_ | refine blockQ_n ?_ | refine thenQ_e ?_ | refine blockQ_t ?_ | refine blockQ_f (by decide) ?_))))
    all_goals (refine end_to [] [] (by first | exact .inl rfl | exact .inr rfl) rfl (by kernel_rfl) (by kernel_rfl) (by kernel_rfl) ?_ ?_ <;> repeat' (first | exact trivial | exact vr_val _))
  have g1 := rows_gd frs k hk2
  rw [show frs[k]?.getD [] = frm frs k from rfl] at g1
  have hfl := f3 k
  have ra := rows_all frs
  have e : rcells (torn frs (k + 1)) = rcells (torn frs k) ++ [.list (ints (frm frs k)), .list (ints [])] := by simp [torn, rcells]
  have hcin := rcells_in (torn frs (k + 1))
  have hrl : (rcells (torn frs k)).length = 2 * k := by rw [rcells_len]; exact htk
  have hrt : (rcells (torn frs k)).take (2 * k) = rcells (torn frs k) := List.take_of_length_le (by omega)
  have ki : (k : Int) < (frs.length : Int) := by omega
  rw [e] at hcin
  have hRin := rcells_in (torn frs k)
  generalize frm frs k = fr at *
  generalize hR : rcells (torn frs k) = R at *
  refine aw_seq (aw_seq (aw_region ?_))
  simp (config := {maxSteps := 10000000}) (disch := first | exact okYes (by kernel_rfl) | omega) only [thenQ, dI, List.length, Nat.zero_add, Nat.reduceAdd, Nat.reduceMul, ARun_none, AOpRun, aexec, FSt.ev, St.F, eget_c, Nat.reduceBEq, ↓eget_h, cond_false, AGo_ok, St.app, putO, eput_c, eput_n, hups, List.map, Option.map, run1, hget_c, beq_self_eq_true, hget_n, cond_true, List.getElem?_cons_succ, List.getElem?_cons_zero, rl, isSh, Bool.false_eq_true, ↓reduceIte, abin, ki, decide_true, ARun_nil, dropE_c, inL_c, inL_n, dropE_n]
  refine aw_condT rfl (aw_skip ?_)
  refine aw_seq (aw_block ?_)
  refine aw_region_cut [⟨some 137, .mv (.tmp 20), none, []⟩,
            ⟨some 138, .buildSl 1 0 [] [], none, []⟩,
            ⟨some 139, .fad 6 (.tmp 3), none, []⟩,
            ⟨some 140, .load1 (.tmp 139), none, []⟩,
            ⟨some 141, .mv (.tmp 21), none, []⟩,
            ⟨some 142, .iadS 1 (.tmp 140) (.tmp 141), none, []⟩,
            ⟨some 143, .load1 (.tmp 142), none, []⟩,
            ⟨some 144, .app 1 8 (.tmp 138) (.tmp 143), none, []⟩,
            ⟨some 145, .buildSl 1 0 [] [], none, []⟩] [⟨some 146, .buildSl 1 2 [(.val (.slice none 0 0)), (.val (.slice none 0 0))] [(0, 1, (.tmp 144)), (1, 1, (.tmp 145))], none, []⟩,
            ⟨some 147, .app 1 24 (.tmp 137) (.tmp 146), none, []⟩,
            ⟨some 20, .mv (.tmp 147), none, []⟩] ?_
  simp (config := {maxSteps := 10000000}) (disch := first | exact okYes (by kernel_rfl) | omega) only [List.length, Nat.zero_add, Nat.reduceAdd, Nat.reduceMul, blockQ, thenQ, ARun_none, AOpRun, aexec, Option.isSome, Option.map, fillD, D.isBot, FSt.ev, St.F, D.cells, ne_eq, Nat.reduceGT, or_false, splice, List.take, List.nil_append, eget_c, Nat.reduceBEq, ↓eget_h, cond_false, AGo_ok, St.app, putO, eput_c, eput_n, hups, List.map, hget_c, hget_n, Bool.false_eq_true, ↓reduceIte, hput_c, hput_n, run1, beq_self_eq_true, cond_true, List.getElem?_cons_succ, List.getElem?_cons_zero, Int.natCast_nonneg, ra, and_self, opt1, Int.toNat_natCast, g1, base, ↓hget_h, Nat.zero_le, elems, ints_all, ints_len, ints_flat, icells_leaf, and_true, ups, List.cons_append]
  refine ago_if (by omega) ?_
  simp (config := {maxSteps := 10000000}) (disch := first | exact okYes (by kernel_rfl) | omega) only [AGo_ok, Nat.reduceAdd, St.app, putO, eput_c, Nat.reduceBEq, eput_n, cond_false, hups, hput_c, hput_n, hdel_c, beq_self_eq_true, hdel_n, cond_true, List.map, ARun_none, AOpRun, aexec, Option.isSome, Nat.reduceMul, hget_c, hget_n, Bool.false_eq_true, ↓reduceIte, Option.map, fillD, ARun_nil]
  refine ⟨⟨[(3, .ptr 0 0), (4, .ptr 8 0), (7, .list (ints s)), (8, dI d), (21, dI k), (137, .vec 40 (2 * k) 1), (144, .list (ints fr)), (145, .list (ints []))], [(0, [dI l.words, dI l.s0, dI l.s1, dI l.s2, dI l.s3, .list (fls l.fl), .list (rows frs)]), (8, [dI a, dI b, dI pts]), (40, R)], 1200⟩, ?_, of_decide_eq_true (by kernel_rfl), ?_⟩
  · unfold dI
    refine wk_to [1096, 1104] [(0, 0), (8, 8), (40, 40)] (by kernel_rfl) (by kernel_rfl) (by kernel_rfl) (by kernel_rfl) (by kernel_rfl) ?_ ?_ <;> repeat' (first | exact trivial | exact vr_val _ | exact vr_list _ | exact vr_vec _ _ _ _ rfl | exact vr_ptr _ _ _ rfl | refine vr_fl _ _ _ _ _ (by decide) rfl ?_ ?_ ?_ ?_ | refine And.intro ⟨_, rfl, .inl ⟨_, rfl, by decide, ?_⟩⟩ ?_ | apply And.intro | exact vrl_flat _ (by first | exact icells_in _ | exact rcells_in _ | exact scells_in _ | exact bcells_in _ | assumption))
    all_goals first | exact ints_one _ | exact ints_len _ | exact ints_flat _ | exact icells_in _ | exact icells_in [] | (refine vrl_flat _ fun d hd => hcin d ?_; simp [hd])
  simp (config := {maxSteps := 10000000}) (disch := first | exact okYes (by kernel_rfl) | omega) only [Nat.reduceSub, Nat.reduceAdd, dI, hget_c, Nat.reduceBEq, hget_n, cond_false, Bool.false_eq_true, ↓reduceIte, eget_c, ↓eget_h, List.length, Nat.zero_add, not_true_eq_false, or_self, List.drop, List.cons_append, List.nil_append, Nat.reduceGT, List.take, List.append_nil, AGo_ok, St.app, putO, eput_c, eput_n, hups, hput_c, hput_n, List.map, ARun_none, AOpRun, aexec, base, FSt.ev, St.F, ↓hget_h, Nat.mul_one, hrl, Nat.le_refl, and_self, hrt, elems, Option.isSome, Nat.reduceMul, List.all, D.leaf, Bool.and_true, and_true, ups]
  refine ago_if (by omega) ?_
  simp (config := {maxSteps := 10000000}) (disch := first | exact okYes (by kernel_rfl) | omega) only [AGo_ok, Nat.reduceAdd, St.app, putO, eput_c, Nat.reduceBEq, eput_n, cond_false, hups, hput_c, hput_n, hdel_c, beq_self_eq_true, hdel_n, cond_true, List.map, ARun_none, AOpRun, aexec, FSt.ev, St.F, eget_c, ↓eget_h, ARun_nil, dropE_c, inL_c, inL_n, dropE_n]
  refine aw_region ?_
  simp (config := {maxSteps := 10000000}) (disch := first | exact okYes (by kernel_rfl) | omega) only [thenQ, List.length, Nat.zero_add, Nat.reduceAdd, Nat.reduceMul, ARun_none, AOpRun, aexec, FSt.ev, St.F, eget_c, Nat.reduceBEq, ↓eget_h, cond_false, AGo_ok, St.app, putO, eput_c, eput_n, hups, List.map, isSh, Bool.false_eq_true, ↓reduceIte, Option.map, abin, fits, beq_self_eq_true, cond_true, ARun_nil, dropE_c, inL_c, inL_n, dropE_n]
  refine ⟨k + 1, by omega, by omega, ?_⟩
  rw [e, show 2 * (k + 1) = 2 * k + 2 by omega]
  refine wk_to [] [(0, 0), (8, 8), (40, 1208)] (by kernel_rfl) (by kernel_rfl) (by kernel_rfl) (by kernel_rfl) (by kernel_rfl) ?_ ?_ <;> repeat' (first | exact trivial | exact vr_val _ | exact vr_list _ | exact vr_vec _ _ _ _ rfl | exact vr_ptr _ _ _ rfl | refine And.intro ⟨_, rfl, .inl ⟨_, rfl, by decide, ?_⟩⟩ ?_ | apply And.intro | exact vrl_flat _ (by first | exact icells_in _ | exact rcells_in _ | exact scells_in _ | exact bcells_in _ | assumption))
  all_goals exact vrl_flat _ hcin
end Go.Proofs.Ytgibbaadjbohdaa
/- What a row of the tops needs. No conditions. -/
namespace Go.Proofs.Ytgibbaadjbohdaa
open Go.ChangeShapes Go.WideShapes Go.ChangeAt Go.RowKit Go.Joins

theorem notagg_int {P : Program} {w : World} {r : Reach} {b0 : Nat} {t : TypeId} {k : IntKind} {v : Value} (ht : P.underlying t = some (.int k)) (hv : Value.okWide P w r b0 t v) : ∀ cs, v ≠ .agg cs := by
  rintro cs rfl
  simp [Value.okWide, Cell.okWide, Cell.ok, ht] at hv
end Go.Proofs.Ytgibbaadjbohdaa
