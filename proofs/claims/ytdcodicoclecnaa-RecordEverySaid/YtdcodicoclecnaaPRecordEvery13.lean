/- Texts of the law RecordEvery, part 13. No conditions. -/
import Derived.Test.YtdcodicoclecnaaPRecordEvery12
/- law12: copies, comparisons, what is too large. No conditions. -/
set_option linter.unusedSimpArgs false
set_option linter.unusedVariables false
namespace Go.Proofs.Ytdcodicoclecnaa
open Go Go.RowKit Lift

theorem fc_all : ∀ l : List Fl, (flcells l).all isV = true
  | [] => rfl
  | f :: l => by
    have := fc_all l
    unfold flcells at *
    rw [List.flatMap_cons, List.all_append, this]; rfl
theorem fc_leaf : ∀ l : List Fl, (flcells l).all D.leaf = true
  | [] => rfl
  | f :: l => by
    have := fc_leaf l
    unfold flcells at *
    rw [List.flatMap_cons, List.all_append, this]; rfl
set_option maxRecDepth 100000 in
set_option maxHeartbeats 2000000 in
theorem copyL_ac (l : Lay) (hn : l.fl.length ≤ 1000) : AC Try.prog 31 [layD l] [] [] (layD l) := by
  refine kref12_CopyLayout.ac (n0 := 0) (by simp) ⟨in_layD _ _, trivial⟩ trivial rfl ?_
  unfold cref12_CopyLayout layD layC
  have a1 := fls_len l.fl
  have a2 := fls_all l.fl
  have a3 := fls_flat l.fl
  have a4 := fc_leaf l.fl
  refine aw_seq (aw_region ?_)
  simp (config := {maxSteps := 10000000}) (disch := first | exact okYes (by kernel_rfl) | omega) only [thenQ, List.map, dI, List.length, Nat.zero_add, Nat.reduceAdd, Nat.reduceMul, envOf, ARun_none, AOpRun, aexec, D.isBot, FSt.ev, St.F, ↓eget_h, Bool.false_eq_true, Option.isSome, hget_n, or_self, ↓reduceIte, D.cells, AGo_ok, St.app, putO, eput_c, Nat.reduceBEq, eput_n, cond_false, hups, hput_n, hget_c, hput_c, ARun_nil, dropE_c, inL_n, dropE_n]
  refine aw_seq (aw_region ?_)
  simp (config := {maxSteps := 10000000}) (disch := first | exact okYes (by kernel_rfl) | omega) only [thenQ, List.length, Nat.zero_add, Nat.reduceAdd, Nat.reduceMul, ARun_none, AOpRun, aexec, FSt.ev, St.F, eget_c, Nat.reduceBEq, ↓eget_h, cond_false, hget_c, beq_self_eq_true, hget_n, cond_true, Nat.reduceLeDiff, ↓reduceIte, List.drop, List.take, AGo_ok, St.app, putO, eput_c, eput_n, hups, List.map, Option.isSome, Bool.false_eq_true, hput_c, hput_n, ↓hget_h, D.isBot, D.cells, List.all, D.leaf, Bool.and_true, and_self, splice, List.nil_append, List.append_nil, ARun_nil, dropE_c, inL_c, inL_n, dropE_n]
  refine aw_seq (aw_region ?_)
  simp (config := {maxSteps := 10000000}) (disch := first | exact okYes (by kernel_rfl) | omega) only [thenQ, List.length, Nat.zero_add, Nat.reduceAdd, Nat.reduceMul, ARun_none, AOpRun, aexec, Option.isSome, hget_c, Nat.reduceBEq, hget_n, cond_false, Bool.false_eq_true, ↓reduceIte, Option.map, fillD, AGo_ok, St.app, putO, eput_c, eput_n, hups, hput_c, hput_n, List.map, FSt.ev, St.F, eget_c, ↓eget_h, run1, beq_self_eq_true, cond_true, List.getElem?_cons_succ, List.getElem?_cons_zero, base, ↓hget_h, Nat.zero_le, and_self, List.take, elems, a2, a1, a3, a4, and_true, ups, List.nil_append, List.cons_append]
  refine ago_if (by omega) ?_
  simp (config := {maxSteps := 10000000}) (disch := first | exact okYes (by kernel_rfl) | omega) only [AGo_ok, Nat.reduceAdd, St.app, putO, eput_c, Nat.reduceBEq, eput_n, cond_false, hups, hput_c, hput_n, hdel_c, beq_self_eq_true, hdel_n, cond_true, List.map, ARun_none, AOpRun, aexec, FSt.ev, St.F, eget_c, ↓eget_h, Nat.zero_add, hget_c, ↓hget_h, D.isBot, D.cells, List.length, Nat.reduceLeDiff, List.all, D.leaf, Bool.and_true, and_self, ↓reduceIte, splice, List.take, List.cons_append, List.nil_append, List.drop, List.append_nil, ARun_nil, dropE_c, inL_c, inL_n, dropE_n]
  refine aw_seq (aw_region ?_)
  simp (config := {maxSteps := 10000000}) (disch := first | exact okYes (by kernel_rfl) | omega) only [thenQ, List.length, Nat.zero_add, Nat.reduceAdd, Nat.reduceMul, ARun_none, AOpRun, aexec, FSt.ev, St.F, eget_c, Nat.reduceBEq, ↓eget_h, cond_false, hget_c, ↓hget_h, Nat.reduceLeDiff, ↓reduceIte, List.drop, List.take, AGo_ok, St.app, putO, eput_c, eput_n, hups, List.map, D.isBot, D.cells, List.all, D.leaf, Bool.and_true, and_self, splice, List.nil_append, List.append_nil, hput_c, beq_self_eq_true, hput_n, cond_true, ARun_nil, dropE_c, inL_c, inL_n, dropE_n]
  refine aw_ret ?_
  refine end_to [64] [] (by first | exact .inl rfl | exact .inr rfl) rfl (by kernel_rfl) (by kernel_rfl) (by kernel_rfl) ?_ ?_ <;> repeat' (first | exact trivial | exact vr_val _ | apply vr_agg | refine vr_fl _ _ _ _ _ (by decide) rfl ?_ ?_ ?_ ?_ | apply And.intro)
  all_goals first | exact fls_nine _ | exact fls_len _ | exact fls_flat _ | exact vals_in (fc_all _)
set_option maxRecDepth 100000 in
set_option maxHeartbeats 2000000 in
theorem copyF_ac (frs : List (List Int)) (hn : frs.length ≤ 1000) (hm : ∀ k, (frm frs k).length ≤ 1000000) : AC Try.prog 65 [.list (rows frs)] [] [] (.list (rows frs)) := by
  refine kref12_CopyFrames.ac (n0 := 0) (by simp) ⟨.list _, trivial⟩ trivial rfl ?_
  unfold cref12_CopyFrames
  refine aw_seq (aw_region ?_)
  simp (config := {maxSteps := 10000000}) (disch := first | exact okYes (by kernel_rfl) | omega) only [thenQ, List.map, List.length, Nat.zero_add, Nat.reduceMul, envOf, ARun_none, AOpRun, aexec, FSt.ev, AGo_ok, St.app, putO, eput_c, Nat.reduceBEq, eput_n, cond_false, hups, ARun_nil, dropE_c, inL_n, dropE_n]
  refine aw_seq (aw_region ?_)
  simp (config := {maxSteps := 10000000}) (disch := first | exact okYes (by kernel_rfl) | omega) only [thenQ, List.length, Nat.zero_add, Nat.reduceMul, Nat.reduceAdd, ARun_none, AOpRun, aexec, FSt.ev, AGo_ok, St.app, putO, eput_c, Nat.reduceBEq, eput_n, cond_false, hups, List.map, ARun_nil, dropE_c, inL_n, dropE_n]
  refine aw_seq (aw_seq (aw_region ?_))
  simp (config := {maxSteps := 10000000}) (disch := first | exact okYes (by kernel_rfl) | omega) only [thenQ, List.length, Nat.zero_add, Nat.reduceMul, Nat.reduceAdd, ARun_none, AOpRun, aexec, FSt.ev, AGo_ok, St.app, putO, eput_c, Nat.reduceBEq, eput_n, cond_false, hups, List.map, ARun_nil, dropE_c, inL_n, dropE_n]
  refine aw_block (aw_loop (fun k : Nat => ⟨[(0, .list (rows frs)), (3, .vec 40 k 1), (4, dI k)], [(40, rcells (frs.take k))], 400⟩) (fun k => k ≤ frs.length) (fun k => frs.length - k) ⟨0, by omega, ?_⟩ ?_)
  · show Wk _ _ ⟨_, [(40, [])], _⟩
    refine wk_to [] [(40, 900)] (by kernel_rfl) (by kernel_rfl) (by kernel_rfl) (by kernel_rfl) (by kernel_rfl) ?_ ?_ <;> repeat' (first | exact trivial | exact vr_val _ | exact vr_list _ | exact vr_nilv _ _ _ rfl | refine And.intro ⟨_, rfl, .inr ⟨rfl, rfl, of_decide_eq_true (by kernel_rfl)⟩⟩ ?_ | apply And.intro)
  intro k hk
  by_cases hk2 : k < frs.length
  case neg =>
    obtain rfl : k = frs.length := by omega
    have e : frs.take frs.length = frs := List.take_of_length_le (by omega)
    rw [e]
    (have hg : (987654321 : Nat) - 987654321 = 0 := rfl; have hr := hg; repeat' (first | refine aw_seq ?_ | (refine aw_skip ?_; try simp only [thenQ, blockQ, if_true, if_false, Nat.reduceEqDiff, reduceCtorEq]) | (refine aw_exit ?_; try simp only [thenQ, blockQ, if_true, if_false, Nat.reduceEqDiff, reduceCtorEq]) | refine aw_ret ?_ | refine aw_block ?_ | refine aw_condT rfl ?_ | refine aw_condF rfl ?_ | (refine aw_cond rfl (fun hg => ?_) (fun hg => ?_) <;> (try (have hq := hg; simp only [Bool.not_eq_true', Bool.not_eq_false', Bool.and_eq_true, Bool.and_eq_false_iff, Bool.or_eq_true, Bool.or_eq_false_iff, decide_eq_true_eq, decide_eq_false_iff_not, bne_iff_ne, beq_iff_eq, beq_eq_false_iff_ne, bne_eq_false_iff_eq, ne_eq, Int.not_lt, Int.not_le, Decidable.not_not] at hq)) <;> (try (have hr := hg; simp only [decide_eq_true_eq, decide_eq_false_iff_not] at hr)) <;> (try (exfalso; omega))) | ((first | refine aw_region ?_ | refine ago_if (by omega) ?_ | skip); simp (config := {maxSteps := 10000000}) (disch := first | exact okYes (by kernel_rfl) | omega) only [thenQ, dI, List.length, Nat.zero_add, Nat.reduceAdd, Nat.reduceMul, ARun_none, AOpRun, aexec, FSt.ev, St.F, eget_c, Nat.reduceBEq, ↓eget_h, cond_false, AGo_ok, St.app, putO, eput_c, eput_n, hups, List.map, rows_len, isSh, Bool.false_eq_true, ↓reduceIte, Option.map, abin, ARun_nil, dropE_c, inL_c, inL_n, beq_self_eq_true, cond_true, dropE_n, hr, decide_false])))
    refine end_to [40] [] (by first | exact .inl rfl | exact .inr rfl) rfl (by kernel_rfl) (by kernel_rfl) (by kernel_rfl) ?_ ?_ <;> repeat' (first | exact trivial | refine vr_fl _ _ _ _ _ (by decide) rfl ?_ ?_ ?_ ?_)
    all_goals first | exact rows_one _ | exact rows_len _ | exact rows_flat _ | exact rcells_in _
  have g1 := rows_gd frs k hk2
  rw [show frs[k]?.getD [] = frm frs k from rfl] at g1
  have hfl := hm k
  have e : rcells (frs.take (k + 1)) = rcells (frs.take k) ++ [.list (ints (frm frs k))] := by
    unfold rcells
    rw [List.take_add_one, List.map_append]
    simp [hk2, frm]
  have hcin := rcells_in (frs.take (k + 1))
  have hrl : (rcells (frs.take k)).length = k := by rw [rcells_len, List.length_take]; omega
  have hrt : (rcells (frs.take k)).take k = rcells (frs.take k) := List.take_of_length_le (by omega)
  have ki : (k : Int) < (frs.length : Int) := by omega
  rw [e] at hcin
  generalize frm frs k = fr at *
  generalize rcells (frs.take k) = R at *
  refine aw_seq (aw_seq (aw_region ?_))
  simp (config := {maxSteps := 10000000}) (disch := first | exact okYes (by kernel_rfl) | omega) only [thenQ, dI, List.length, Nat.zero_add, Nat.reduceAdd, Nat.reduceMul, ARun_none, AOpRun, aexec, FSt.ev, St.F, eget_c, Nat.reduceBEq, ↓eget_h, cond_false, AGo_ok, St.app, putO, eput_c, eput_n, hups, List.map, rows_len, isSh, Bool.false_eq_true, ↓reduceIte, Option.map, abin, ki, decide_true, ARun_nil, dropE_c, inL_c, inL_n, beq_self_eq_true, cond_true, dropE_n]
  refine aw_condT rfl (aw_skip ?_)
  refine aw_seq (aw_block ?_)
  refine aw_region_cut [⟨some 11, .mv (.tmp 3), none, []⟩,
            ⟨some 12, .buildSl 1 0 [] [], none, []⟩,
            ⟨some 13, .mv (.tmp 0), none, []⟩,
            ⟨some 14, .mv (.tmp 4), none, []⟩,
            ⟨some 15, .iadS 1 (.tmp 13) (.tmp 14), none, []⟩,
            ⟨some 16, .load1 (.tmp 15), none, []⟩,
            ⟨some 17, .app 1 8 (.tmp 12) (.tmp 16), none, []⟩] [⟨some 18, .buildSl 1 1 [(.val (.slice none 0 0))] [(0, 1, (.tmp 17))], none, []⟩,
            ⟨some 19, .app 1 24 (.tmp 11) (.tmp 18), none, []⟩,
            ⟨some 3, .mv (.tmp 19), none, []⟩] ?_
  simp (config := {maxSteps := 10000000}) (disch := first | exact okYes (by kernel_rfl) | omega) only [List.length, Nat.zero_add, Nat.reduceAdd, Nat.reduceMul, blockQ, thenQ, ARun_none, AOpRun, aexec, Option.isSome, Option.map, fillD, D.isBot, FSt.ev, St.F, D.cells, ne_eq, Nat.reduceGT, or_false, splice, List.take, List.nil_append, eget_c, Nat.reduceBEq, ↓eget_h, cond_false, AGo_ok, St.app, putO, eput_c, eput_n, hups, List.map, hget_c, hget_n, Bool.false_eq_true, ↓reduceIte, hput_c, hput_n, Int.natCast_nonneg, rows_all, and_self, opt1, Int.toNat_natCast, g1, run1, List.getElem?_cons_zero, base, ↓hget_h, Nat.zero_le, elems, ints_all, ints_len, ints_flat, icells_leaf, and_true, ups, List.cons_append]
  refine ago_if (by omega) ?_
  simp (config := {maxSteps := 10000000}) (disch := first | exact okYes (by kernel_rfl) | omega) only [AGo_ok, Nat.reduceAdd, St.app, putO, eput_c, Nat.reduceBEq, eput_n, cond_false, hups, hput_c, hput_n, hdel_c, beq_self_eq_true, hdel_n, cond_true, List.map, ARun_nil]
  refine ⟨⟨[(0, .list (rows frs)), (4, dI k), (11, .vec 40 k 1), (17, .list (ints fr))], [(40, R)], 600⟩, ?_, of_decide_eq_true (by kernel_rfl), ?_⟩
  · unfold dI
    refine wk_to [480] [(40, 40)] (by kernel_rfl) (by kernel_rfl) (by kernel_rfl) (by kernel_rfl) (by kernel_rfl) ?_ ?_ <;> repeat' (first | exact trivial | exact vr_val _ | exact vr_list _ | exact vr_vec _ _ _ _ rfl | refine vr_fl _ _ _ _ _ (by decide) rfl ?_ ?_ ?_ ?_ | refine And.intro ⟨_, rfl, .inl ⟨_, rfl, by decide, ?_⟩⟩ ?_ | apply And.intro)
    all_goals first | exact ints_one _ | exact ints_len _ | exact ints_flat _ | exact icells_in _ | (refine vrl_flat _ fun d hd => hcin d ?_; simp [hd])
  simp (config := {maxSteps := 10000000}) (disch := first | exact okYes (by kernel_rfl) | omega) only [Nat.reduceSub, Nat.reduceAdd, hget_c, Nat.reduceBEq, hget_n, cond_false, Bool.false_eq_true, ↓reduceIte, dI, eget_c, ↓eget_h, List.length, Nat.zero_add, not_true_eq_false, or_self, List.drop, List.append_nil, AGo_ok, St.app, putO, eput_c, eput_n, hups, hput_c, hput_n, List.map, ARun_none, AOpRun, aexec, base, FSt.ev, St.F, beq_self_eq_true, cond_true, Nat.mul_one, hrl, Nat.le_refl, and_self, hrt, elems, ↓hget_h, List.take, Option.isSome, Nat.reduceMul, List.all, D.leaf, Bool.and_true, and_true, ups, List.cons_append, List.nil_append]
  refine ago_if (by omega) ?_
  simp (config := {maxSteps := 10000000}) (disch := first | exact okYes (by kernel_rfl) | omega) only [AGo_ok, Nat.reduceAdd, St.app, putO, eput_c, Nat.reduceBEq, eput_n, cond_false, hups, hput_c, hput_n, hdel_c, beq_self_eq_true, hdel_n, cond_true, List.map, ARun_none, AOpRun, aexec, FSt.ev, St.F, eget_c, ↓eget_h, ARun_nil, dropE_c, inL_c, inL_n, dropE_n]
  refine aw_region ?_
  simp (config := {maxSteps := 10000000}) (disch := first | exact okYes (by kernel_rfl) | omega) only [thenQ, List.length, Nat.zero_add, Nat.reduceAdd, Nat.reduceMul, ARun_none, AOpRun, aexec, FSt.ev, St.F, eget_c, Nat.reduceBEq, ↓eget_h, cond_false, AGo_ok, St.app, putO, eput_c, eput_n, hups, List.map, isSh, Bool.false_eq_true, ↓reduceIte, Option.map, abin, fits, beq_self_eq_true, cond_true, ARun_nil, dropE_c, inL_c, inL_n, dropE_n]
  refine ⟨k + 1, by omega, by omega, ?_⟩
  rw [e]
  refine wk_to [] [(40, 608)] (by kernel_rfl) (by kernel_rfl) (by kernel_rfl) (by kernel_rfl) (by kernel_rfl) ?_ ?_ <;> repeat' (first | exact trivial | exact vr_val _ | exact vr_list _ | exact vr_vec _ _ _ _ rfl | refine And.intro ⟨_, rfl, .inl ⟨_, rfl, by decide, ?_⟩⟩ ?_ | apply And.intro | exact vrl_flat _ (by first | exact icells_in _ | exact rcells_in _ | exact scells_in _ | exact bcells_in _ | assumption) | fail)
  all_goals exact vrl_flat _ hcin
/-- a tape -/
def tpD (l : Lay) (frs : List (List Int)) : D := .agg [dI l.words, dI l.s0, dI l.s1, dI l.s2, dI l.s3, .list (fls l.fl), .list (rows frs)]
theorem in_tpD (S : Nat → Prop) (l : Lay) (frs : List (List Int)) : In S (tpD l frs) := .agg _ (vals_in rfl)
set_option maxRecDepth 100000 in
set_option maxHeartbeats 2000000 in
theorem own_ac (l : Lay) (frs : List (List Int)) (h1 : l.fl.length ≤ 1000) (hn : frs.length ≤ 1000) (hm : ∀ k, (frm frs k).length ≤ 1000000) : AC Try.prog 17 [tpD l frs] [] [] (tpD l frs) := by
  refine klaw12_own.ac (n0 := 0) (by simp) ⟨in_tpD _ _ _, trivial⟩ trivial rfl ?_
  have c1 := copyL_ac l h1
  have c2 := copyF_ac frs hn hm
  unfold claw12_own
  unfold tpD
  unfold layD layC at c1
  (have hg : (987654321 : Nat) - 987654321 = 0 := rfl; have hr := hg; repeat' (first | refine aw_seq ?_ | (refine aw_skip ?_; try simp only [thenQ, blockQ, if_true, if_false, Nat.reduceEqDiff, reduceCtorEq]) | (refine aw_exit ?_; try simp only [thenQ, blockQ, if_true, if_false, Nat.reduceEqDiff, reduceCtorEq]) | refine aw_ret ?_ | refine aw_block ?_ | refine aw_condT rfl ?_ | refine aw_condF rfl ?_ | ((first | refine aw_region ?_ | refine acall0 (c1) ?_ | refine acall0 (c2) ?_ | refine ago_if (by omega) ?_ | skip); simp (config := {maxSteps := 10000000}) (disch := first | exact okYes (by kernel_rfl) | omega) only [thenQ, List.map, dI, List.length, Nat.zero_add, Nat.reduceAdd, Nat.reduceMul, envOf, ARun_none, AOpRun, aexec, D.isBot, FSt.ev, St.F, ↓eget_h, Bool.false_eq_true, Option.isSome, hget_n, or_self, ↓reduceIte, D.cells, AGo_ok, St.app, putO, eput_c, Nat.reduceBEq, eput_n, cond_false, hups, hput_n, hget_c, hput_c, ARun_nil, dropE_c, inL_n, dropE_n, eget_c, beq_self_eq_true, cond_true, Nat.reduceLeDiff, List.drop, List.take, Option.map, run1, List.getElem?_cons_succ, List.getElem?_cons_zero, fillD, ne_eq, not_true_eq_false, Nat.reduceGT, splice, List.nil_append, List.cons_append, List.append_nil, ↓hget_h, List.all, D.leaf, Bool.and_true, and_self, inL_c])))
  all_goals (refine end_to [] [] (by first | exact .inl rfl | exact .inr rfl) rfl (by kernel_rfl) (by kernel_rfl) (by kernel_rfl) ?_ ?_ <;> repeat' (first | exact trivial | exact vr_val _ | exact vr_list _ | apply vr_agg | apply And.intro))
/-- larger than a statement looks at -/
def farB (l : Lay) (frs : List (List Int)) : Bool := decide ((l.fl.length : Int) > 20) || decide ((frs.length : Int) > 220) || frs.any fun f => decide ((f.length : Int) > 50)
theorem far_small {l : Lay} {frs : List (List Int)} (h : farB l frs = false) : l.fl.length ≤ 20 ∧ frs.length ≤ 220 ∧ ∀ k, (frm frs k).length ≤ 50 := by
  unfold farB at h
  simp only [Bool.or_eq_false_iff, decide_eq_false_iff_not, List.any_eq_false] at h
  obtain ⟨⟨h1, h2⟩, h3⟩ := h
  refine ⟨by omega, by omega, fun k => ?_⟩
  unfold frm
  by_cases hk : k < frs.length
  · have := h3 _ (List.getElem_mem hk)
    simp [hk] at this ⊢
    omega
  · simp [List.getElem?_eq_none (by omega : frs.length ≤ k)]
set_option maxRecDepth 100000 in
set_option maxHeartbeats 2000000 in
theorem far_ac (l : Lay) (frs : List (List Int)) (m1 : l.fl.length ≤ maxLen) (m2 : frs.length ≤ maxLen) (m3 : ∀ k, (frm frs k).length ≤ maxLen) : AC Try.prog 15 [tpD l frs] [] [] (dB (farB l frs)) := by
  refine klaw12_Far.ac (n0 := 0) (by simp) ⟨in_tpD _ _ _, trivial⟩ trivial rfl ?_
  unfold claw12_Far tpD farB
  have hmax : maxLen = 9223372036854775807 := rfl
  cases q1 : decide ((l.fl.length : Int) > 20) with
  | true =>
    simp only [Bool.true_or]
    (have hg : (987654321 : Nat) - 987654321 = 0 := rfl; have hr := hg; repeat' (first | refine aw_seq ?_ | (refine aw_skip ?_; try simp only [thenQ, blockQ, if_true, if_false, Nat.reduceEqDiff, reduceCtorEq]) | (refine aw_exit ?_; try simp only [thenQ, blockQ, if_true, if_false, Nat.reduceEqDiff, reduceCtorEq]) | refine aw_ret ?_ | refine aw_block ?_ | refine aw_condT rfl ?_ | refine aw_condF rfl ?_ | ((first | refine aw_region ?_ | refine ago_if (by omega) ?_ | skip); simp (config := {maxSteps := 10000000}) (disch := first | exact okYes (by kernel_rfl) | omega) only [thenQ, List.map, dB, List.length, Nat.zero_add, Nat.reduceAdd, Nat.reduceMul, envOf, dI, ARun_none, AOpRun, aexec, D.isBot, FSt.ev, St.F, ↓eget_h, Bool.false_eq_true, Option.isSome, hget_n, or_self, ↓reduceIte, D.cells, AGo_ok, St.app, putO, eput_c, Nat.reduceBEq, eput_n, cond_false, hups, hput_n, ARun_nil, dropE_c, inL_n, dropE_n, eget_c, Option.map, run1, hget_c, beq_self_eq_true, cond_true, List.getElem?_cons_succ, List.getElem?_cons_zero, fls_len, isSh, abin, q1, ARun_some, AG_tf, inL_c])))
    all_goals (refine end_to [] [] (by first | exact .inl rfl | exact .inr rfl) rfl (by kernel_rfl) (by kernel_rfl) (by kernel_rfl) ?_ ?_ <;> repeat' (first | exact trivial | exact vr_val _))
  | false =>
  cases q2 : decide ((frs.length : Int) > 220) with
  | true =>
    simp only [Bool.true_or, Bool.or_true]
    (have hg : (987654321 : Nat) - 987654321 = 0 := rfl; have hr := hg; repeat' (first | refine aw_seq ?_ | (refine aw_skip ?_; try simp only [thenQ, blockQ, if_true, if_false, Nat.reduceEqDiff, reduceCtorEq]) | (refine aw_exit ?_; try simp only [thenQ, blockQ, if_true, if_false, Nat.reduceEqDiff, reduceCtorEq]) | refine aw_ret ?_ | refine aw_block ?_ | refine aw_condT rfl ?_ | refine aw_condF rfl ?_ | ((first | refine aw_region ?_ | refine ago_if (by omega) ?_ | skip); simp (config := {maxSteps := 10000000}) (disch := first | exact okYes (by kernel_rfl) | omega) only [thenQ, List.map, dB, List.length, Nat.zero_add, Nat.reduceAdd, Nat.reduceMul, envOf, dI, ARun_none, AOpRun, aexec, D.isBot, FSt.ev, St.F, ↓eget_h, Bool.false_eq_true, Option.isSome, hget_n, or_self, ↓reduceIte, D.cells, AGo_ok, St.app, putO, eput_c, Nat.reduceBEq, eput_n, cond_false, hups, hput_n, ARun_nil, dropE_c, inL_n, dropE_n, eget_c, Option.map, run1, hget_c, beq_self_eq_true, cond_true, List.getElem?_cons_succ, List.getElem?_cons_zero, fls_len, isSh, abin, q1, ARun_some, AG_ff, rows_len, q2, inL_c])))
    all_goals (refine end_to [] [] (by first | exact .inl rfl | exact .inr rfl) rfl (by kernel_rfl) (by kernel_rfl) (by kernel_rfl) ?_ ?_ <;> repeat' (first | exact trivial | exact vr_val _))
  | false =>
  simp only [Bool.or_self, Bool.false_or]
  refine aw_seq (aw_region ?_)
  simp (config := {maxSteps := 10000000}) (disch := first | exact okYes (by kernel_rfl) | omega) only [thenQ, List.map, List.length, Nat.zero_add, Nat.reduceAdd, Nat.reduceMul, envOf, dI, ARun_none, AOpRun, aexec, D.isBot, FSt.ev, St.F, ↓eget_h, Bool.false_eq_true, Option.isSome, hget_n, or_self, ↓reduceIte, D.cells, AGo_ok, St.app, putO, eput_c, Nat.reduceBEq, eput_n, cond_false, hups, hput_n, ARun_nil, dropE_c, inL_n, dropE_n]
  refine aw_seq (aw_seq (aw_region ?_))
  simp (config := {maxSteps := 10000000}) (disch := first | exact okYes (by kernel_rfl) | omega) only [thenQ, List.length, Nat.zero_add, Nat.reduceAdd, Nat.reduceMul, ARun_none, AOpRun, aexec, FSt.ev, St.F, eget_c, Nat.reduceBEq, ↓eget_h, cond_false, AGo_ok, St.app, putO, eput_c, eput_n, hups, List.map, Option.map, run1, hget_c, beq_self_eq_true, hget_n, cond_true, List.getElem?_cons_succ, List.getElem?_cons_zero, fls_len, isSh, Bool.false_eq_true, ↓reduceIte, abin, q1, ARun_some, AG_ff, rows_len, q2, ARun_nil, dropE_c, inL_c, inL_n, dropE_n]
  refine aw_condF rfl (aw_skip ?_)
  refine aw_seq (aw_seq (aw_region ?_))
  simp (config := {maxSteps := 10000000}) (disch := first | exact okYes (by kernel_rfl) | omega) only [thenQ, List.length, Nat.zero_add, Nat.reduceMul, Nat.reduceAdd, ARun_none, AOpRun, aexec, FSt.ev, AGo_ok, St.app, putO, eput_c, Nat.reduceBEq, eput_n, cond_false, hups, List.map, ARun_nil, dropE_c, inL_n, dropE_n]
  refine aw_block (aw_loop (fun k : Nat => ⟨[(1, .ptr 0 0), (3, dI k)], [(0, [dI l.words, dI l.s0, dI l.s1, dI l.s2, dI l.s3, .list (fls l.fl), .list (rows frs)])], 400⟩) (fun k => k ≤ frs.length ∧ ∀ j, j < k → decide (((frm frs j).length : Int) > 50) = false) (fun k => frs.length - k) ⟨0, ⟨by omega, fun j hj => by omega⟩, ?_⟩ ?_)
  · unfold dI
    refine wk_to [] [(0, 0)] (by kernel_rfl) (by kernel_rfl) (by kernel_rfl) (by kernel_rfl) (by kernel_rfl) ?_ ?_ <;> repeat' (first | exact trivial | exact vr_val _ | exact vr_list _ | exact vr_ptr _ _ _ rfl | refine And.intro ⟨_, rfl, .inl ⟨_, rfl, by decide, ?_⟩⟩ ?_ | apply And.intro)
  rintro k ⟨hk, hin⟩
  have hm := m3 k
  by_cases hk2 : k < frs.length
  case neg =>
    obtain rfl : k = frs.length := by omega
    have e : frs.any (fun f => decide ((f.length : Int) > 50)) = false := List.any_eq_false.2 fun x hx => by
      obtain ⟨j, hj, rfl⟩ := List.getElem_of_mem hx
      have := hin j hj
      simp only [frm, hj, List.getElem?_eq_getElem, Option.getD_some] at this
      rw [this]; simp
    rw [e]
    (have hg : (987654321 : Nat) - 987654321 = 0 := rfl; have hr := hg; repeat' (first | refine aw_seq ?_ | (refine aw_skip ?_; try simp only [thenQ, blockQ, if_true, if_false, Nat.reduceEqDiff, reduceCtorEq]) | (refine aw_exit ?_; try simp only [thenQ, blockQ, if_true, if_false, Nat.reduceEqDiff, reduceCtorEq]) | refine aw_ret ?_ | refine aw_block ?_ | refine aw_condT rfl ?_ | refine aw_condF rfl ?_ | (refine aw_cond rfl (fun hg => ?_) (fun hg => ?_) <;> (try (have hq := hg; simp only [Bool.not_eq_true', Bool.not_eq_false', Bool.and_eq_true, Bool.and_eq_false_iff, Bool.or_eq_true, Bool.or_eq_false_iff, decide_eq_true_eq, decide_eq_false_iff_not, bne_iff_ne, beq_iff_eq, beq_eq_false_iff_ne, bne_eq_false_iff_eq, ne_eq, Int.not_lt, Int.not_le, Decidable.not_not] at hq)) <;> (try (have hr := hg; simp only [decide_eq_true_eq, decide_eq_false_iff_not] at hr)) <;> (try (exfalso; omega))) | ((first | refine aw_region ?_ | refine ago_if (by omega) ?_ | skip); simp (config := {maxSteps := 10000000}) (disch := first | exact okYes (by kernel_rfl) | omega) only [thenQ, dI, dB, List.length, Nat.zero_add, Nat.reduceAdd, Nat.reduceMul, ARun_none, AOpRun, aexec, FSt.ev, St.F, eget_c, Nat.reduceBEq, ↓eget_h, cond_false, AGo_ok, St.app, putO, eput_c, eput_n, hups, List.map, Option.map, run1, hget_c, beq_self_eq_true, hget_n, cond_true, List.getElem?_cons_succ, List.getElem?_cons_zero, rows_len, isSh, Bool.false_eq_true, ↓reduceIte, abin, ARun_nil, dropE_c, inL_c, inL_n, dropE_n, hr, decide_false])))
    all_goals (refine end_to [] [] (by first | exact .inl rfl | exact .inr rfl) rfl (by kernel_rfl) (by kernel_rfl) (by kernel_rfl) ?_ ?_ <;> repeat' (first | exact trivial | exact vr_val _))
  have g1 := rows_gd frs k hk2
  rw [show frs[k]?.getD [] = frm frs k from rfl] at g1
  cases he : decide (((frm frs k).length : Int) > 50) with
  | true =>
    have e : frs.any (fun f => decide ((f.length : Int) > 50)) = true := List.any_eq_true.2 ⟨frs[k], List.getElem_mem hk2, by
      simp only [frm, hk2, List.getElem?_eq_getElem, Option.getD_some] at he
      exact he⟩
    rw [e]
    (have hg : (987654321 : Nat) - 987654321 = 0 := rfl; have hr := hg; repeat' (first | refine aw_seq ?_ | (refine aw_skip ?_; try simp only [thenQ, blockQ, if_true, if_false, Nat.reduceEqDiff, reduceCtorEq]) | (refine aw_exit ?_; try simp only [thenQ, blockQ, if_true, if_false, Nat.reduceEqDiff, reduceCtorEq]) | refine aw_ret ?_ | refine aw_block ?_ | refine aw_condT rfl ?_ | refine aw_condF rfl ?_ | (refine aw_cond rfl (fun hg => ?_) (fun hg => ?_) <;> (try (have hq := hg; simp only [Bool.not_eq_true', Bool.not_eq_false', Bool.and_eq_true, Bool.and_eq_false_iff, Bool.or_eq_true, Bool.or_eq_false_iff, decide_eq_true_eq, decide_eq_false_iff_not, bne_iff_ne, beq_iff_eq, beq_eq_false_iff_ne, bne_eq_false_iff_eq, ne_eq, Int.not_lt, Int.not_le, Decidable.not_not] at hq)) <;> (try (have hr := hg; simp only [decide_eq_true_eq, decide_eq_false_iff_not] at hr)) <;> (try (exfalso; omega))) | ((first | refine aw_region ?_ | refine ago_if (by omega) ?_ | skip); simp (config := {maxSteps := 10000000}) (disch := first | exact okYes (by kernel_rfl) | omega) only [thenQ, dI, dB, List.length, Nat.zero_add, Nat.reduceAdd, Nat.reduceMul, ARun_none, AOpRun, aexec, FSt.ev, St.F, eget_c, Nat.reduceBEq, ↓eget_h, cond_false, AGo_ok, St.app, putO, eput_c, eput_n, hups, List.map, Option.map, run1, hget_c, beq_self_eq_true, hget_n, cond_true, List.getElem?_cons_succ, List.getElem?_cons_zero, rows_len, isSh, Bool.false_eq_true, ↓reduceIte, abin, ARun_nil, dropE_c, inL_c, inL_n, dropE_n, hr, decide_true, Int.natCast_nonneg, rows_all, and_self, opt1, Int.toNat_natCast, g1, ints_len, he, blockQ])))
    all_goals (refine end_to [] [] (by first | exact .inl rfl | exact .inr rfl) rfl (by kernel_rfl) (by kernel_rfl) (by kernel_rfl) ?_ ?_ <;> repeat' (first | exact trivial | exact vr_val _))
  | false =>
    (have hg : (987654321 : Nat) - 987654321 = 0 := rfl; have hr := hg; repeat' (first | refine aw_seq ?_ | (refine aw_skip ?_; try simp only [thenQ, blockQ, if_true, if_false, Nat.reduceEqDiff, reduceCtorEq]) | (refine aw_exit ?_; try simp only [thenQ, blockQ, if_true, if_false, Nat.reduceEqDiff, reduceCtorEq]) | refine aw_ret ?_ | refine aw_block ?_ | refine aw_condT rfl ?_ | refine aw_condF rfl ?_ | (refine aw_cond rfl (fun hg => ?_) (fun hg => ?_) <;> (try (have hq := hg; simp only [Bool.not_eq_true', Bool.not_eq_false', Bool.and_eq_true, Bool.and_eq_false_iff, Bool.or_eq_true, Bool.or_eq_false_iff, decide_eq_true_eq, decide_eq_false_iff_not, bne_iff_ne, beq_iff_eq, beq_eq_false_iff_ne, bne_eq_false_iff_eq, ne_eq, Int.not_lt, Int.not_le, Decidable.not_not] at hq)) <;> (try (have hr := hg; simp only [decide_eq_true_eq, decide_eq_false_iff_not] at hr)) <;> (try (exfalso; omega))) | ((first | refine aw_region ?_ | refine ago_if (by omega) ?_ | skip); simp (config := {maxSteps := 10000000}) (disch := first | exact okYes (by kernel_rfl) | omega) only [thenQ, dI, dB, List.length, Nat.zero_add, Nat.reduceAdd, Nat.reduceMul, ARun_none, AOpRun, aexec, FSt.ev, St.F, eget_c, Nat.reduceBEq, ↓eget_h, cond_false, AGo_ok, St.app, putO, eput_c, eput_n, hups, List.map, Option.map, run1, hget_c, beq_self_eq_true, hget_n, cond_true, List.getElem?_cons_succ, List.getElem?_cons_zero, rows_len, isSh, Bool.false_eq_true, ↓reduceIte, abin, ARun_nil, dropE_c, inL_c, inL_n, dropE_n, hr, decide_true, Int.natCast_nonneg, rows_all, and_self, opt1, Int.toNat_natCast, g1, ints_len, he, fits])))
    refine ⟨k + 1, ⟨by omega, fun j hj => ?_⟩, by omega, ?_⟩
    · rcases (by omega : j < k ∨ j = k) with h | rfl
      · exact hin j h
      · exact he
    · refine wk_to [] [(0, 0)] (by kernel_rfl) (by kernel_rfl) (by kernel_rfl) (by kernel_rfl) (by kernel_rfl) ?_ ?_ <;> repeat' (first | exact trivial | exact vr_val _ | exact vr_list _ | exact vr_ptr _ _ _ rfl | refine And.intro ⟨_, rfl, .inl ⟨_, rfl, by decide, ?_⟩⟩ ?_ | apply And.intro)
end Go.Proofs.Ytdcodicoclecnaa
/- The law of Events (views last). No conditions. -/
set_option linter.unusedSimpArgs false
set_option linter.unusedVariables false
namespace Go.Proofs.Ytdcodicoclecnaa
open Go Go.RowKit Lift

theorem cc_all : ∀ l : List Cd, (cdcells l).all isV = true
  | [] => rfl
  | f :: l => by
    have := cc_all l
    unfold cdcells at *
    rw [List.flatMap_cons, List.all_append, this]; rfl
theorem cc_leaf : ∀ l : List Cd, (cdcells l).all D.leaf = true
  | [] => rfl
  | f :: l => by
    have := cc_leaf l
    unfold cdcells at *
    rw [List.flatMap_cons, List.all_append, this]; rfl
set_option maxRecDepth 100000 in
set_option maxHeartbeats 2000000 in
theorem copied_ac (cs : List Cd) (h : Int) (hn : cs.length ≤ 1000) : AC Try.prog 46 [evD cs h] [] [] (evD cs h) := by
  refine klaw12_copied.ac (n0 := 0) (by simp) ⟨in_ev _ _ _, trivial⟩ trivial rfl ?_
  unfold claw12_copied evD
  have a1 := cds_len cs
  have a2 := cds_all cs
  have a3 := cds_flat cs
  have a4 := cc_leaf cs
  refine aw_seq (aw_region ?_)
  simp (config := {maxSteps := 10000000}) (disch := first | exact okYes (by kernel_rfl) | omega) only [thenQ, List.map, dI, List.length, Nat.zero_add, Nat.reduceAdd, Nat.reduceMul, envOf, ARun_none, AOpRun, aexec, D.isBot, FSt.ev, St.F, ↓eget_h, Bool.false_eq_true, Option.isSome, hget_n, or_self, ↓reduceIte, D.cells, AGo_ok, St.app, putO, eput_c, Nat.reduceBEq, eput_n, cond_false, hups, hput_n, hget_c, hput_c, ARun_nil, dropE_c, inL_n, dropE_n]
  refine aw_seq (aw_region ?_)
  simp (config := {maxSteps := 10000000}) (disch := first | exact okYes (by kernel_rfl) | omega) only [thenQ, List.length, Nat.zero_add, Nat.reduceAdd, Nat.reduceMul, ARun_none, AOpRun, aexec, Option.isSome, hget_c, Nat.reduceBEq, hget_n, cond_false, Bool.false_eq_true, ↓reduceIte, Option.map, fillD, AGo_ok, St.app, putO, eput_c, eput_n, hups, hput_c, hput_n, List.map, FSt.ev, St.F, eget_c, ↓eget_h, run1, beq_self_eq_true, cond_true, List.getElem?_cons_zero, base, ↓hget_h, Nat.zero_le, and_self, List.take, elems, a2, a1, a3, a4, and_true, ups, List.nil_append, List.cons_append]
  refine ago_if (by omega) ?_
  simp (config := {maxSteps := 10000000}) (disch := first | exact okYes (by kernel_rfl) | omega) only [AGo_ok, Nat.reduceAdd, St.app, putO, eput_c, Nat.reduceBEq, eput_n, cond_false, hups, hput_c, hput_n, hdel_c, beq_self_eq_true, hdel_n, cond_true, List.map, ARun_none, AOpRun, aexec, FSt.ev, St.F, eget_c, ↓eget_h, Nat.zero_add, Option.map, run1, hget_c, hget_n, List.getElem?_cons_succ, List.getElem?_cons_zero, fillD, D.isBot, Bool.false_eq_true, D.cells, List.length, ne_eq, not_true_eq_false, Nat.reduceGT, or_self, ↓reduceIte, splice, List.take, List.nil_append, List.drop, List.cons_append, List.append_nil, ↓hget_h, Nat.reduceLeDiff, List.all, D.leaf, Bool.and_true, and_self, ARun_nil, dropE_c, inL_c, inL_n, dropE_n]
  refine aw_ret ?_
  refine end_to [40] [] (by first | exact .inl rfl | exact .inr rfl) rfl (by kernel_rfl) (by kernel_rfl) (by kernel_rfl) ?_ ?_ <;> repeat' (first | exact trivial | exact vr_val _ | apply vr_agg | refine vr_fl _ _ _ _ _ (by decide) rfl ?_ ?_ ?_ ?_ | apply And.intro)
  all_goals first | exact cds_three _ | exact cds_len _ | exact cds_flat _ | exact vals_in (cc_all _)
set_option maxRecDepth 100000 in
set_option maxHeartbeats 1000000 in
theorem farE_ac (cs : List Cd) (h : Int) (hn : cs.length ≤ maxLen) : AC Try.prog 44 [evD cs h] [] [] (dB (decide ((cs.length : Int) > 8))) := by
  refine klaw12_farEvent.ac (n0 := 0) (by simp) ⟨in_ev _ _ _, trivial⟩ trivial rfl ?_
  unfold claw12_farEvent evD
  have hmax : maxLen = 9223372036854775807 := rfl
  cases q : decide ((cs.length : Int) > 8)
  all_goals
    (have hg : (987654321 : Nat) - 987654321 = 0 := rfl; have hr := hg; repeat' (first | refine aw_seq ?_ | (refine aw_skip ?_; try simp only [thenQ, blockQ, if_true, if_false, Nat.reduceEqDiff, reduceCtorEq]) | (refine aw_exit ?_; try simp only [thenQ, blockQ, if_true, if_false, Nat.reduceEqDiff, reduceCtorEq]) | refine aw_ret ?_ | refine aw_block ?_ | refine aw_condT rfl ?_ | refine aw_condF rfl ?_ | ((first | refine aw_region ?_ | refine ago_if (by omega) ?_ | skip); simp (config := {maxSteps := 10000000}) (disch := first | exact okYes (by kernel_rfl) | omega) only [thenQ, List.map, dB, List.length, Nat.zero_add, Nat.reduceAdd, Nat.reduceMul, envOf, dI, ARun_none, AOpRun, aexec, D.isBot, FSt.ev, St.F, ↓eget_h, Bool.false_eq_true, Option.isSome, hget_n, or_self, ↓reduceIte, D.cells, AGo_ok, St.app, putO, eput_c, Nat.reduceBEq, eput_n, cond_false, hups, hput_n, ARun_nil, dropE_c, inL_n, dropE_n, eget_c, Option.map, run1, hget_c, beq_self_eq_true, cond_true, List.getElem?_cons_zero, cds_len, isSh, abin, q, inL_c])))
    all_goals (refine end_to [] [] (by first | exact .inl rfl | exact .inr rfl) rfl (by kernel_rfl) (by kernel_rfl) (by kernel_rfl) ?_ ?_ <;> repeat' (first | exact trivial | exact vr_val _))
end Go.Proofs.Ytdcodicoclecnaa
/- law12: whether a frame is found; a copied event that grows (views last). No conditions. -/
set_option linter.unusedSimpArgs false
set_option linter.unusedVariables false
namespace Go.Proofs.Ytdcodicoclecnaa
open Go Go.RowKit Lift

theorem ins_step (L : List (Int × Int)) (x : Int) (k : Nat) (hk : k < L.length) : ins (L.take (k + 1)) x = (ins (L.take k) x || (decide (lo L k ≤ x) && decide (x ≤ hi L k))) := by
  unfold ins
  rw [List.take_add_one, List.any_append]
  simp [hk, lo, hi]
theorem ins_take {L : List (Int × Int)} {x : Int} {k : Nat} (h : ins (L.take k) x = true) : ins L x = true := by
  unfold ins at h ⊢
  rw [List.any_eq_true] at h ⊢
  obtain ⟨y, hy, h⟩ := h
  exact ⟨y, List.mem_of_mem_take hy, h⟩
set_option maxRecDepth 100000 in
set_option maxHeartbeats 4000000 in
theorem inside_ac (L : List (Int × Int)) (x : Int) (hn : L.length ≤ 1000000) : AC Try.prog 51 [.list (sps L), dI x] [] [] (dB (ins L x)) := by
  refine klaw12_inside.ac (n0 := 0) (by simp) ⟨.list _, .val _, trivial⟩ trivial rfl ?_
  unfold claw12_inside
  refine aw_seq (aw_region ?_)
  simp (config := {maxSteps := 10000000}) (disch := first | exact okYes (by kernel_rfl) | omega) only [thenQ, List.map, dB, List.length, Nat.zero_add, Nat.reduceMul, envOf, dI, ARun_none, AOpRun, aexec, FSt.ev, AGo_ok, St.app, putO, eput_c, Nat.reduceBEq, eput_n, cond_false, hups, ARun_nil, dropE_c, inL_n, dropE_n]
  refine aw_seq (aw_seq (aw_region ?_))
  simp (config := {maxSteps := 10000000}) (disch := first | exact okYes (by kernel_rfl) | omega) only [thenQ, List.length, Nat.zero_add, Nat.reduceMul, Nat.reduceAdd, ARun_none, AOpRun, aexec, FSt.ev, AGo_ok, St.app, putO, eput_c, Nat.reduceBEq, eput_n, cond_false, hups, List.map, ARun_nil, dropE_c, inL_n, dropE_n]
  refine aw_block (aw_loop (fun k : Nat => ⟨[(0, .list (sps L)), (1, dI x), (5, dI k)], [], 400⟩) (fun k => k ≤ L.length ∧ ins (L.take k) x = false) (fun k => L.length - k) ⟨0, ⟨by omega, rfl⟩, ?_⟩ ?_)
  · unfold dI
    refine wk_to [] [] (by kernel_rfl) (by kernel_rfl) (by kernel_rfl) (by kernel_rfl) (by kernel_rfl) ?_ ?_ <;> repeat' (first | exact trivial | exact vr_val _ | exact vr_list _ | apply And.intro)
  rintro k ⟨hk, hin⟩
  by_cases hk2 : k < L.length
  case neg =>
    obtain rfl : k = L.length := by omega
    rw [List.take_of_length_le (Nat.le_refl _)] at hin
    rw [hin]
    (have hg : (987654321 : Nat) - 987654321 = 0 := rfl; have hr := hg; repeat' (first | refine aw_seq ?_ | (refine aw_skip ?_; repeat' (first | with_reducible refine thenQ_n ?_ | with_reducible refine blockQ_n ?_ | with_reducible refine thenQ_e ?_ | with_reducible refine blockQ_t ?_ | with_reducible refine blockQ_f (by decide) ?_)) | (refine aw_exit ?_; repeat' (first | with_reducible refine thenQ_n ?_ | with_reducible refine blockQ_n ?_ | with_reducible refine thenQ_e ?_ | with_reducible refine blockQ_t ?_ | with_reducible refine blockQ_f (by decide) ?_)) | refine aw_ret ?_ | refine aw_block ?_ | refine aw_condT rfl ?_ | refine aw_condF rfl ?_ | (refine aw_cond rfl (fun hg => ?_) (fun hg => ?_) <;> (try (have hq := hg; simp only [Bool.not_eq_true', Bool.not_eq_false', Bool.and_eq_true, Bool.and_eq_false_iff, Bool.or_eq_true, Bool.or_eq_false_iff, decide_eq_true_eq, decide_eq_false_iff_not, bne_iff_ne, beq_iff_eq, beq_eq_false_iff_ne, bne_eq_false_iff_eq, ne_eq, Int.not_lt, Int.not_le, Decidable.not_not] at hq)) <;> (try (have hr := hg; simp only [decide_eq_true_eq, decide_eq_false_iff_not] at hr)) <;> (try (exfalso; omega))) | ((first | refine aw_hide fun K hK => aw_region ?_ | refine ago_if (by omega) ?_ | skip); simp (config := {maxSteps := 10000000}) (disch := first | exact okYes (by kernel_rfl) | omega) only [List.length, Nat.zero_add, Nat.reduceAdd, Nat.reduceMul, dI, ARun_none, AOpRun, aexec, FSt.ev, St.F, eget_c, Nat.reduceBEq, ↓eget_h, cond_false, AGo_ok, St.app, putO, eput_c, eput_n, hups, List.map, sps_len, isSh, Bool.false_eq_true, ↓reduceIte, Option.map, abin, ARun_nil, dropE_c, inL_c, inL_n, beq_self_eq_true, cond_true, dropE_n, hr, decide_false]) | (subst hK; repeat' (first | with_reducible refine thenQ_n ?_ | with_reducible refine blockQ_n ?_ | with_reducible refine thenQ_e ?_ | with_reducible refine blockQ_t ?_ | with_reducible refine blockQ_f (by decide) ?_))))
    all_goals (refine end_to [] [] (by first | exact .inl rfl | exact .inr rfl) rfl (by kernel_rfl) (by kernel_rfl) (by kernel_rfl) ?_ ?_ <;> repeat' (first | exact trivial | exact vr_val _))
  have g1 := sps_gd L k hk2
  have ki : (k : Int) < (L.length : Int) := by omega
  have hs := ins_step L x k hk2
  rw [hin, Bool.false_or] at hs
  cases q1 : decide (lo L k ≤ x) with
  | false =>
    rw [q1, Bool.false_and] at hs
    (have hg : (987654321 : Nat) - 987654321 = 0 := rfl; have hr := hg; repeat' (first | refine aw_seq ?_ | (refine aw_skip ?_; repeat' (first | with_reducible refine thenQ_n ?_ | with_reducible refine blockQ_n ?_ | with_reducible refine thenQ_e ?_ | with_reducible refine blockQ_t ?_ | with_reducible refine blockQ_f (by decide) ?_)) | (refine aw_exit ?_; repeat' (first | with_reducible refine thenQ_n ?_ | with_reducible refine blockQ_n ?_ | with_reducible refine thenQ_e ?_ | with_reducible refine blockQ_t ?_ | with_reducible refine blockQ_f (by decide) ?_)) | refine aw_ret ?_ | refine aw_block ?_ | refine aw_condT rfl ?_ | refine aw_condF rfl ?_ | ((first | refine aw_hide fun K hK => aw_region ?_ | refine ago_if (by omega) ?_ | skip); simp (config := {maxSteps := 10000000}) (disch := first | exact okYes (by kernel_rfl) | omega) only [List.length, Nat.zero_add, Nat.reduceAdd, Nat.reduceMul, dI, ARun_none, AOpRun, aexec, FSt.ev, St.F, eget_c, Nat.reduceBEq, ↓eget_h, cond_false, AGo_ok, St.app, putO, eput_c, eput_n, hups, List.map, sps_len, isSh, Bool.false_eq_true, ↓reduceIte, Option.map, abin, ki, decide_true, ARun_nil, dropE_c, inL_c, inL_n, beq_self_eq_true, cond_true, dropE_n, Int.natCast_nonneg, sps_all, and_self, opt1, Int.toNat_natCast, g1, List.drop, run1, List.getElem?_cons_zero, q1, ARun_some, AG_ft, fits]) | (subst hK; repeat' (first | with_reducible refine thenQ_n ?_ | with_reducible refine blockQ_n ?_ | with_reducible refine thenQ_e ?_ | with_reducible refine blockQ_t ?_ | with_reducible refine blockQ_f (by decide) ?_))))
    refine ⟨k + 1, ⟨by omega, hs⟩, by omega, ?_⟩
    refine wk_to [] [] (by kernel_rfl) (by kernel_rfl) (by kernel_rfl) (by kernel_rfl) (by kernel_rfl) ?_ ?_ <;> repeat' (first | exact trivial | exact vr_val _ | exact vr_list _ | apply And.intro)
  | true =>
    rw [q1, Bool.true_and] at hs
    cases q2 : decide (x ≤ hi L k) with
    | false =>
      rw [q2] at hs
      (have hg : (987654321 : Nat) - 987654321 = 0 := rfl; have hr := hg; repeat' (first | refine aw_seq ?_ | (refine aw_skip ?_; repeat' (first | with_reducible refine thenQ_n ?_ | with_reducible refine blockQ_n ?_ | with_reducible refine thenQ_e ?_ | with_reducible refine blockQ_t ?_ | with_reducible refine blockQ_f (by decide) ?_)) | (refine aw_exit ?_; repeat' (first | with_reducible refine thenQ_n ?_ | with_reducible refine blockQ_n ?_ | with_reducible refine thenQ_e ?_ | with_reducible refine blockQ_t ?_ | with_reducible refine blockQ_f (by decide) ?_)) | refine aw_ret ?_ | refine aw_block ?_ | refine aw_condT rfl ?_ | refine aw_condF rfl ?_ | ((first | refine aw_hide fun K hK => aw_region ?_ | refine ago_if (by omega) ?_ | skip); simp (config := {maxSteps := 10000000}) (disch := first | exact okYes (by kernel_rfl) | omega) only [List.length, Nat.zero_add, Nat.reduceAdd, Nat.reduceMul, dI, ARun_none, AOpRun, aexec, FSt.ev, St.F, eget_c, Nat.reduceBEq, ↓eget_h, cond_false, AGo_ok, St.app, putO, eput_c, eput_n, hups, List.map, sps_len, isSh, Bool.false_eq_true, ↓reduceIte, Option.map, abin, ki, decide_true, ARun_nil, dropE_c, inL_c, inL_n, beq_self_eq_true, cond_true, dropE_n, Int.natCast_nonneg, sps_all, and_self, opt1, Int.toNat_natCast, g1, List.drop, run1, List.getElem?_cons_zero, q1, ARun_some, AG_tt, q2, fits]) | (subst hK; repeat' (first | with_reducible refine thenQ_n ?_ | with_reducible refine blockQ_n ?_ | with_reducible refine thenQ_e ?_ | with_reducible refine blockQ_t ?_ | with_reducible refine blockQ_f (by decide) ?_))))
      refine ⟨k + 1, ⟨by omega, hs⟩, by omega, ?_⟩
      refine wk_to [] [] (by kernel_rfl) (by kernel_rfl) (by kernel_rfl) (by kernel_rfl) (by kernel_rfl) ?_ ?_ <;> repeat' (first | exact trivial | exact vr_val _ | exact vr_list _ | apply And.intro)
    | true =>
      rw [q2] at hs
      rw [ins_take hs]
      (have hg : (987654321 : Nat) - 987654321 = 0 := rfl; have hr := hg; repeat' (first | refine aw_seq ?_ | (refine aw_skip ?_; repeat' (first | with_reducible refine thenQ_n ?_ | with_reducible refine blockQ_n ?_ | with_reducible refine thenQ_e ?_ | with_reducible refine blockQ_t ?_ | with_reducible refine blockQ_f (by decide) ?_)) | (refine aw_exit ?_; repeat' (first | with_reducible refine thenQ_n ?_ | with_reducible refine blockQ_n ?_ | with_reducible refine thenQ_e ?_ | with_reducible refine blockQ_t ?_ | with_reducible refine blockQ_f (by decide) ?_)) | refine aw_ret ?_ | refine aw_block ?_ | refine aw_condT rfl ?_ | refine aw_condF rfl ?_ | ((first | refine aw_hide fun K hK => aw_region ?_ | refine ago_if (by omega) ?_ | skip); simp (config := {maxSteps := 10000000}) (disch := first | exact okYes (by kernel_rfl) | omega) only [List.length, Nat.zero_add, Nat.reduceAdd, Nat.reduceMul, dI, ARun_none, AOpRun, aexec, FSt.ev, St.F, eget_c, Nat.reduceBEq, ↓eget_h, cond_false, AGo_ok, St.app, putO, eput_c, eput_n, hups, List.map, sps_len, isSh, Bool.false_eq_true, ↓reduceIte, Option.map, abin, ki, decide_true, ARun_nil, dropE_c, inL_c, inL_n, beq_self_eq_true, cond_true, dropE_n, Int.natCast_nonneg, sps_all, and_self, opt1, Int.toNat_natCast, g1, List.drop, run1, List.getElem?_cons_zero, q1, ARun_some, AG_tt, q2, blockQ, thenQ]) | (subst hK; repeat' (first | with_reducible refine thenQ_n ?_ | with_reducible refine blockQ_n ?_ | with_reducible refine thenQ_e ?_ | with_reducible refine blockQ_t ?_ | with_reducible refine blockQ_f (by decide) ?_))))
      all_goals (refine end_to [] [] (by first | exact .inl rfl | exact .inr rfl) rfl (by kernel_rfl) (by kernel_rfl) (by kernel_rfl) ?_ ?_ <;> repeat' (first | exact trivial | exact vr_val _))
theorem cdcells_len : ∀ l : List Cd, (cdcells l).length = l.length * 3
  | [] => rfl
  | c :: l => by
    have := cdcells_len l
    unfold cdcells at *
    rw [List.flatMap_cons, List.length_append, this]
    simp [cdC]
    omega
set_option maxRecDepth 100000 in
set_option maxHeartbeats 2000000 in
theorem copied2_ac (cs : List Cd) (h : Int) (hn : cs.length ≤ 1000) : AC Try.prog 46 [evD cs h] [] [(96, some (cdcells cs))] (.agg [.vec 96 cs.length 3, dI h]) := by
  refine klaw12_copied.ac (n0 := 0) (by simp) ⟨in_ev _ _ _, trivial⟩ trivial rfl ?_
  unfold claw12_copied evD
  have a1 := cds_len cs
  have a2 := cds_all cs
  have a3 := cds_flat cs
  have a4 := cc_leaf cs
  refine aw_seq (aw_region ?_)
  simp (config := {maxSteps := 10000000}) (disch := first | exact okYes (by kernel_rfl) | omega) only [thenQ, List.map, dI, List.length, Nat.zero_add, Nat.reduceAdd, Nat.reduceMul, envOf, ARun_none, AOpRun, aexec, D.isBot, FSt.ev, St.F, ↓eget_h, Bool.false_eq_true, Option.isSome, hget_n, or_self, ↓reduceIte, D.cells, AGo_ok, St.app, putO, eput_c, Nat.reduceBEq, eput_n, cond_false, hups, hput_n, hget_c, hput_c, ARun_nil, dropE_c, inL_n, dropE_n]
  refine aw_seq (aw_region ?_)
  simp (config := {maxSteps := 10000000}) (disch := first | exact okYes (by kernel_rfl) | omega) only [thenQ, List.length, Nat.zero_add, Nat.reduceAdd, Nat.reduceMul, ARun_none, AOpRun, aexec, Option.isSome, hget_c, Nat.reduceBEq, hget_n, cond_false, Bool.false_eq_true, ↓reduceIte, Option.map, fillD, AGo_ok, St.app, putO, eput_c, eput_n, hups, hput_c, hput_n, List.map, FSt.ev, St.F, eget_c, ↓eget_h, run1, beq_self_eq_true, cond_true, List.getElem?_cons_zero, base, ↓hget_h, Nat.zero_le, and_self, List.take, elems, a2, a1, a3, a4, and_true, ups, List.nil_append, List.cons_append]
  refine ago_if (by omega) ?_
  simp (config := {maxSteps := 10000000}) (disch := first | exact okYes (by kernel_rfl) | omega) only [AGo_ok, Nat.reduceAdd, St.app, putO, eput_c, Nat.reduceBEq, eput_n, cond_false, hups, hput_c, hput_n, hdel_c, beq_self_eq_true, hdel_n, cond_true, List.map, ARun_none, AOpRun, aexec, FSt.ev, St.F, eget_c, ↓eget_h, Nat.zero_add, Option.map, run1, hget_c, hget_n, List.getElem?_cons_succ, List.getElem?_cons_zero, fillD, D.isBot, Bool.false_eq_true, D.cells, List.length, ne_eq, not_true_eq_false, Nat.reduceGT, or_self, ↓reduceIte, splice, List.take, List.nil_append, List.drop, List.cons_append, List.append_nil, ↓hget_h, Nat.reduceLeDiff, List.all, D.leaf, Bool.and_true, and_self, ARun_nil, dropE_c, inL_c, inL_n, dropE_n]
  refine aw_ret ?_
  refine end_to [] [(96, 40)] (by first | exact .inl rfl | exact .inr rfl) rfl (by kernel_rfl) (by kernel_rfl) (by kernel_rfl) ?_ ?_ <;> repeat' (first | exact trivial | exact vr_val _ | exact vr_vec _ _ _ _ rfl | apply vr_agg | refine And.intro ⟨_, rfl, _, rfl, by decide, ?_⟩ ?_ | apply And.intro)
  all_goals exact vrl_flat _ (vals_in (cc_all _))
theorem cd_snoc (cs : List Cd) (c : Cd) : cdcells cs ++ cdC c = cdcells (cs ++ [c]) := by simp [cdcells]
/-- all of an array up to frame i that is found so far, and from frame k on -/
def mkF (is : Nat → Bool) (H : Int) (i : Nat) (k j : Nat) : Bool := markK is H i j || (decide (k ≤ j) && decide (j ≤ i))
theorem mkF_start (is : Nat → Bool) (H : Int) (i n : Nat) : fL n (mkF is H i (i + 1)) = fL n (markK is H i) := fL_eq fun j _ => by
  unfold mkF
  cases h : markK is H i j <;> simp
  omega
end Go.Proofs.Ytdcodicoclecnaa
