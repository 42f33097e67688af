/- Texts of the law RecordShakes, part 14. No conditions. -/
import Derived.Test.YtdcodicoclecnaaPRecordShakes13
import Derived.Test.YtdcodicoclecnaaRows
import Derived.ProofKit
import Derived.OpenShut
import Derived.ChangeOld
import Derived.Below
import Derived.Lib.SmallJoins
/- law12: copies, comparisons, what is too large. No conditions. -/
set_option linter.unusedSimpArgs false
set_option linter.unusedVariables false
namespace Go.Proofs.Ytdcodicoclecnaa
open Go Go.RowKit Lift

theorem fc_all : ∀ l : List Fl, (flcells l).all isV = true
  | [] => rfl
  | f :: l => by
    have := fc_all l
    unfold flcells at *
    rw [List.flatMap_cons, List.all_append, this]; rfl
theorem fc_leaf : ∀ l : List Fl, (flcells l).all D.leaf = true
  | [] => rfl
  | f :: l => by
    have := fc_leaf l
    unfold flcells at *
    rw [List.flatMap_cons, List.all_append, this]; rfl
set_option maxRecDepth 100000 in
set_option maxHeartbeats 2000000 in
theorem copyL_ac (l : Lay) (hn : l.fl.length ≤ 1000) : AC Try.prog 31 [layD l] [] [] (layD l) := by
  refine kref12_CopyLayout.ac (n0 := 0) (by simp) ⟨in_layD _ _, trivial⟩ trivial rfl ?_
  unfold cref12_CopyLayout layD layC
  have a1 := fls_len l.fl
  have a2 := fls_all l.fl
  have a3 := fls_flat l.fl
  have a4 := fc_leaf l.fl
  refine aw_seq (aw_region ?_)
  simp (config := {maxSteps := 10000000}) (disch := first | exact okYes (by kernel_rfl) | omega) only [thenQ, List.map, dI, List.length, Nat.zero_add, Nat.reduceAdd, Nat.reduceMul, envOf, ARun_none, AOpRun, aexec, D.isBot, FSt.ev, St.F, ↓eget_h, Bool.false_eq_true, Option.isSome, hget_n, or_self, ↓reduceIte, D.cells, AGo_ok, St.app, putO, eput_c, Nat.reduceBEq, eput_n, cond_false, hups, hput_n, hget_c, hput_c, ARun_nil, dropE_c, inL_n, dropE_n]
  refine aw_seq (aw_region ?_)
  simp (config := {maxSteps := 10000000}) (disch := first | exact okYes (by kernel_rfl) | omega) only [thenQ, List.length, Nat.zero_add, Nat.reduceAdd, Nat.reduceMul, ARun_none, AOpRun, aexec, FSt.ev, St.F, eget_c, Nat.reduceBEq, ↓eget_h, cond_false, hget_c, beq_self_eq_true, hget_n, cond_true, Nat.reduceLeDiff, ↓reduceIte, List.drop, List.take, AGo_ok, St.app, putO, eput_c, eput_n, hups, List.map, Option.isSome, Bool.false_eq_true, hput_c, hput_n, ↓hget_h, D.isBot, D.cells, List.all, D.leaf, Bool.and_true, and_self, splice, List.nil_append, List.append_nil, ARun_nil, dropE_c, inL_c, inL_n, dropE_n]
  refine aw_seq (aw_region ?_)
  simp (config := {maxSteps := 10000000}) (disch := first | exact okYes (by kernel_rfl) | omega) only [thenQ, List.length, Nat.zero_add, Nat.reduceAdd, Nat.reduceMul, ARun_none, AOpRun, aexec, Option.isSome, hget_c, Nat.reduceBEq, hget_n, cond_false, Bool.false_eq_true, ↓reduceIte, Option.map, fillD, AGo_ok, St.app, putO, eput_c, eput_n, hups, hput_c, hput_n, List.map, FSt.ev, St.F, eget_c, ↓eget_h, run1, beq_self_eq_true, cond_true, List.getElem?_cons_succ, List.getElem?_cons_zero, base, ↓hget_h, Nat.zero_le, and_self, List.take, elems, a2, a1, a3, a4, and_true, ups, List.nil_append, List.cons_append]
  refine ago_if (by omega) ?_
  simp (config := {maxSteps := 10000000}) (disch := first | exact okYes (by kernel_rfl) | omega) only [AGo_ok, Nat.reduceAdd, St.app, putO, eput_c, Nat.reduceBEq, eput_n, cond_false, hups, hput_c, hput_n, hdel_c, beq_self_eq_true, hdel_n, cond_true, List.map, ARun_none, AOpRun, aexec, FSt.ev, St.F, eget_c, ↓eget_h, Nat.zero_add, hget_c, ↓hget_h, D.isBot, D.cells, List.length, Nat.reduceLeDiff, List.all, D.leaf, Bool.and_true, and_self, ↓reduceIte, splice, List.take, List.cons_append, List.nil_append, List.drop, List.append_nil, ARun_nil, dropE_c, inL_c, inL_n, dropE_n]
  refine aw_seq (aw_region ?_)
  simp (config := {maxSteps := 10000000}) (disch := first | exact okYes (by kernel_rfl) | omega) only [thenQ, List.length, Nat.zero_add, Nat.reduceAdd, Nat.reduceMul, ARun_none, AOpRun, aexec, FSt.ev, St.F, eget_c, Nat.reduceBEq, ↓eget_h, cond_false, hget_c, ↓hget_h, Nat.reduceLeDiff, ↓reduceIte, List.drop, List.take, AGo_ok, St.app, putO, eput_c, eput_n, hups, List.map, D.isBot, D.cells, List.all, D.leaf, Bool.and_true, and_self, splice, List.nil_append, List.append_nil, hput_c, beq_self_eq_true, hput_n, cond_true, ARun_nil, dropE_c, inL_c, inL_n, dropE_n]
  refine aw_ret ?_
  refine end_to [64] [] (by first | exact .inl rfl | exact .inr rfl) rfl (by kernel_rfl) (by kernel_rfl) (by kernel_rfl) ?_ ?_ <;> repeat' (first | exact trivial | exact vr_val _ | apply vr_agg | refine vr_fl _ _ _ _ _ (by decide) rfl ?_ ?_ ?_ ?_ | apply And.intro)
  all_goals first | exact fls_nine _ | exact fls_len _ | exact fls_flat _ | exact vals_in (fc_all _)
set_option maxRecDepth 100000 in
set_option maxHeartbeats 2000000 in
theorem copyF_ac (frs : List (List Int)) (hn : frs.length ≤ 1000) (hm : ∀ k, (frm frs k).length ≤ 1000000) : AC Try.prog 65 [.list (rows frs)] [] [] (.list (rows frs)) := by
  refine kref12_CopyFrames.ac (n0 := 0) (by simp) ⟨.list _, trivial⟩ trivial rfl ?_
  unfold cref12_CopyFrames
  refine aw_seq (aw_region ?_)
  simp (config := {maxSteps := 10000000}) (disch := first | exact okYes (by kernel_rfl) | omega) only [thenQ, List.map, List.length, Nat.zero_add, Nat.reduceMul, envOf, ARun_none, AOpRun, aexec, FSt.ev, AGo_ok, St.app, putO, eput_c, Nat.reduceBEq, eput_n, cond_false, hups, ARun_nil, dropE_c, inL_n, dropE_n]
  refine aw_seq (aw_region ?_)
  simp (config := {maxSteps := 10000000}) (disch := first | exact okYes (by kernel_rfl) | omega) only [thenQ, List.length, Nat.zero_add, Nat.reduceMul, Nat.reduceAdd, ARun_none, AOpRun, aexec, FSt.ev, AGo_ok, St.app, putO, eput_c, Nat.reduceBEq, eput_n, cond_false, hups, List.map, ARun_nil, dropE_c, inL_n, dropE_n]
  refine aw_seq (aw_seq (aw_region ?_))
  simp (config := {maxSteps := 10000000}) (disch := first | exact okYes (by kernel_rfl) | omega) only [thenQ, List.length, Nat.zero_add, Nat.reduceMul, Nat.reduceAdd, ARun_none, AOpRun, aexec, FSt.ev, AGo_ok, St.app, putO, eput_c, Nat.reduceBEq, eput_n, cond_false, hups, List.map, ARun_nil, dropE_c, inL_n, dropE_n]
  refine aw_block (aw_loop (fun k : Nat => ⟨[(0, .list (rows frs)), (3, .vec 40 k 1), (4, dI k)], [(40, rcells (frs.take k))], 400⟩) (fun k => k ≤ frs.length) (fun k => frs.length - k) ⟨0, by omega, ?_⟩ ?_)
  · show Wk _ _ ⟨_, [(40, [])], _⟩
    refine wk_to [] [(40, 900)] (by kernel_rfl) (by kernel_rfl) (by kernel_rfl) (by kernel_rfl) (by kernel_rfl) ?_ ?_ <;> repeat' (first | exact trivial | exact vr_val _ | exact vr_list _ | exact vr_nilv _ _ _ rfl | refine And.intro ⟨_, rfl, .inr ⟨rfl, rfl, of_decide_eq_true (by kernel_rfl)⟩⟩ ?_ | apply And.intro)
  intro k hk
  by_cases hk2 : k < frs.length
  case neg =>
    obtain rfl : k = frs.length := by omega
    have e : frs.take frs.length = frs := List.take_of_length_le (by omega)
    rw [e]
    (have hg : (987654321 : Nat) - 987654321 = 0 := rfl; have hr := hg; repeat' (first | refine aw_seq ?_ | (refine aw_skip ?_; try simp only [thenQ, blockQ, if_true, if_false, Nat.reduceEqDiff, reduceCtorEq]) | (refine aw_exit ?_; try simp only [thenQ, blockQ, if_true, if_false, Nat.reduceEqDiff, reduceCtorEq]) | refine aw_ret ?_ | refine aw_block ?_ | refine aw_condT rfl ?_ | refine aw_condF rfl ?_ | (refine aw_cond rfl (fun hg => ?_) (fun hg => ?_) <;> (try (have hq := hg; simp only [Bool.not_eq_true', Bool.not_eq_false', Bool.and_eq_true, Bool.and_eq_false_iff, Bool.or_eq_true, Bool.or_eq_false_iff, decide_eq_true_eq, decide_eq_false_iff_not, bne_iff_ne, beq_iff_eq, beq_eq_false_iff_ne, bne_eq_false_iff_eq, ne_eq, Int.not_lt, Int.not_le, Decidable.not_not] at hq)) <;> (try (have hr := hg; simp only [decide_eq_true_eq, decide_eq_false_iff_not] at hr)) <;> (try (exfalso; omega))) | ((first | refine aw_region ?_ | refine ago_if (by omega) ?_ | skip); simp (config := {maxSteps := 10000000}) (disch := first | exact okYes (by kernel_rfl) | omega) only [thenQ, dI, List.length, Nat.zero_add, Nat.reduceAdd, Nat.reduceMul, ARun_none, AOpRun, aexec, FSt.ev, St.F, eget_c, Nat.reduceBEq, ↓eget_h, cond_false, AGo_ok, St.app, putO, eput_c, eput_n, hups, List.map, rows_len, isSh, Bool.false_eq_true, ↓reduceIte, Option.map, abin, ARun_nil, dropE_c, inL_c, inL_n, beq_self_eq_true, cond_true, dropE_n, hr, decide_false])))
    refine end_to [40] [] (by first | exact .inl rfl | exact .inr rfl) rfl (by kernel_rfl) (by kernel_rfl) (by kernel_rfl) ?_ ?_ <;> repeat' (first | exact trivial | refine vr_fl _ _ _ _ _ (by decide) rfl ?_ ?_ ?_ ?_)
    all_goals first | exact rows_one _ | exact rows_len _ | exact rows_flat _ | exact rcells_in _
  have g1 := rows_gd frs k hk2
  rw [show frs[k]?.getD [] = frm frs k from rfl] at g1
  have hfl := hm k
  have e : rcells (frs.take (k + 1)) = rcells (frs.take k) ++ [.list (ints (frm frs k))] := by
    unfold rcells
    rw [List.take_add_one, List.map_append]
    simp [hk2, frm]
  have hcin := rcells_in (frs.take (k + 1))
  have hrl : (rcells (frs.take k)).length = k := by rw [rcells_len, List.length_take]; omega
  have hrt : (rcells (frs.take k)).take k = rcells (frs.take k) := List.take_of_length_le (by omega)
  have ki : (k : Int) < (frs.length : Int) := by omega
  rw [e] at hcin
  generalize frm frs k = fr at *
  generalize rcells (frs.take k) = R at *
  refine aw_seq (aw_seq (aw_region ?_))
  simp (config := {maxSteps := 10000000}) (disch := first | exact okYes (by kernel_rfl) | omega) only [thenQ, dI, List.length, Nat.zero_add, Nat.reduceAdd, Nat.reduceMul, ARun_none, AOpRun, aexec, FSt.ev, St.F, eget_c, Nat.reduceBEq, ↓eget_h, cond_false, AGo_ok, St.app, putO, eput_c, eput_n, hups, List.map, rows_len, isSh, Bool.false_eq_true, ↓reduceIte, Option.map, abin, ki, decide_true, ARun_nil, dropE_c, inL_c, inL_n, beq_self_eq_true, cond_true, dropE_n]
  refine aw_condT rfl (aw_skip ?_)
  refine aw_seq (aw_block ?_)
  refine aw_region_cut [⟨some 11, .mv (.tmp 3), none, []⟩,
            ⟨some 12, .buildSl 1 0 [] [], none, []⟩,
            ⟨some 13, .mv (.tmp 0), none, []⟩,
            ⟨some 14, .mv (.tmp 4), none, []⟩,
            ⟨some 15, .iadS 1 (.tmp 13) (.tmp 14), none, []⟩,
            ⟨some 16, .load1 (.tmp 15), none, []⟩,
            ⟨some 17, .app 1 8 (.tmp 12) (.tmp 16), none, []⟩] [⟨some 18, .buildSl 1 1 [(.val (.slice none 0 0))] [(0, 1, (.tmp 17))], none, []⟩,
            ⟨some 19, .app 1 24 (.tmp 11) (.tmp 18), none, []⟩,
            ⟨some 3, .mv (.tmp 19), none, []⟩] ?_
  simp (config := {maxSteps := 10000000}) (disch := first | exact okYes (by kernel_rfl) | omega) only [List.length, Nat.zero_add, Nat.reduceAdd, Nat.reduceMul, blockQ, thenQ, ARun_none, AOpRun, aexec, Option.isSome, Option.map, fillD, D.isBot, FSt.ev, St.F, D.cells, ne_eq, Nat.reduceGT, or_false, splice, List.take, List.nil_append, eget_c, Nat.reduceBEq, ↓eget_h, cond_false, AGo_ok, St.app, putO, eput_c, eput_n, hups, List.map, hget_c, hget_n, Bool.false_eq_true, ↓reduceIte, hput_c, hput_n, Int.natCast_nonneg, rows_all, and_self, opt1, Int.toNat_natCast, g1, run1, List.getElem?_cons_zero, base, ↓hget_h, Nat.zero_le, elems, ints_all, ints_len, ints_flat, icells_leaf, and_true, ups, List.cons_append]
  refine ago_if (by omega) ?_
  simp (config := {maxSteps := 10000000}) (disch := first | exact okYes (by kernel_rfl) | omega) only [AGo_ok, Nat.reduceAdd, St.app, putO, eput_c, Nat.reduceBEq, eput_n, cond_false, hups, hput_c, hput_n, hdel_c, beq_self_eq_true, hdel_n, cond_true, List.map, ARun_nil]
  refine ⟨⟨[(0, .list (rows frs)), (4, dI k), (11, .vec 40 k 1), (17, .list (ints fr))], [(40, R)], 600⟩, ?_, of_decide_eq_true (by kernel_rfl), ?_⟩
  · unfold dI
    refine wk_to [480] [(40, 40)] (by kernel_rfl) (by kernel_rfl) (by kernel_rfl) (by kernel_rfl) (by kernel_rfl) ?_ ?_ <;> repeat' (first | exact trivial | exact vr_val _ | exact vr_list _ | exact vr_vec _ _ _ _ rfl | refine vr_fl _ _ _ _ _ (by decide) rfl ?_ ?_ ?_ ?_ | refine And.intro ⟨_, rfl, .inl ⟨_, rfl, by decide, ?_⟩⟩ ?_ | apply And.intro)
    all_goals first | exact ints_one _ | exact ints_len _ | exact ints_flat _ | exact icells_in _ | (refine vrl_flat _ fun d hd => hcin d ?_; simp [hd])
  simp (config := {maxSteps := 10000000}) (disch := first | exact okYes (by kernel_rfl) | omega) only [Nat.reduceSub, Nat.reduceAdd, hget_c, Nat.reduceBEq, hget_n, cond_false, Bool.false_eq_true, ↓reduceIte, dI, eget_c, ↓eget_h, List.length, Nat.zero_add, not_true_eq_false, or_self, List.drop, List.append_nil, AGo_ok, St.app, putO, eput_c, eput_n, hups, hput_c, hput_n, List.map, ARun_none, AOpRun, aexec, base, FSt.ev, St.F, beq_self_eq_true, cond_true, Nat.mul_one, hrl, Nat.le_refl, and_self, hrt, elems, ↓hget_h, List.take, Option.isSome, Nat.reduceMul, List.all, D.leaf, Bool.and_true, and_true, ups, List.cons_append, List.nil_append]
  refine ago_if (by omega) ?_
  simp (config := {maxSteps := 10000000}) (disch := first | exact okYes (by kernel_rfl) | omega) only [AGo_ok, Nat.reduceAdd, St.app, putO, eput_c, Nat.reduceBEq, eput_n, cond_false, hups, hput_c, hput_n, hdel_c, beq_self_eq_true, hdel_n, cond_true, List.map, ARun_none, AOpRun, aexec, FSt.ev, St.F, eget_c, ↓eget_h, ARun_nil, dropE_c, inL_c, inL_n, dropE_n]
  refine aw_region ?_
  simp (config := {maxSteps := 10000000}) (disch := first | exact okYes (by kernel_rfl) | omega) only [thenQ, List.length, Nat.zero_add, Nat.reduceAdd, Nat.reduceMul, ARun_none, AOpRun, aexec, FSt.ev, St.F, eget_c, Nat.reduceBEq, ↓eget_h, cond_false, AGo_ok, St.app, putO, eput_c, eput_n, hups, List.map, isSh, Bool.false_eq_true, ↓reduceIte, Option.map, abin, fits, beq_self_eq_true, cond_true, ARun_nil, dropE_c, inL_c, inL_n, dropE_n]
  refine ⟨k + 1, by omega, by omega, ?_⟩
  rw [e]
  refine wk_to [] [(40, 608)] (by kernel_rfl) (by kernel_rfl) (by kernel_rfl) (by kernel_rfl) (by kernel_rfl) ?_ ?_ <;> repeat' (first | exact trivial | exact vr_val _ | exact vr_list _ | exact vr_vec _ _ _ _ rfl | refine And.intro ⟨_, rfl, .inl ⟨_, rfl, by decide, ?_⟩⟩ ?_ | apply And.intro | exact vrl_flat _ (by first | exact icells_in _ | exact rcells_in _ | exact scells_in _ | exact bcells_in _ | assumption) | fail)
  all_goals exact vrl_flat _ hcin
theorem same_no {α : Type} {a b : List α} {d : α} {k : Nat} (h : a[k]?.getD d ≠ b[k]?.getD d) : a ≠ b := fun e => h (by rw [e])
theorem same_yes {α : Type} {a b : List α} {d : α} (hl : a.length = b.length) (h : ∀ j, j < a.length → a[j]?.getD d = b[j]?.getD d) : a = b := by
  refine List.ext_getElem hl fun j h1 h2 => ?_
  have := h j h1
  simpa [h1, h2] using this
set_option maxRecDepth 100000 in
set_option maxHeartbeats 2000000 in
theorem sameI_ac (a b : List Int) (ha : a.length ≤ 1000000) (hb : b.length ≤ 1000000) : AC Try.prog 29 [.list (ints a), .list (ints b)] [] [] (dB (decide (a = b))) := by
  refine klaw12_sameInts.ac (n0 := 0) (by simp) ⟨.list _, .list _, trivial⟩ trivial rfl ?_
  unfold claw12_sameInts
  by_cases hl : a.length = b.length
  case neg =>
    have q : ((a.length : Int) != (b.length : Int)) = true := by simp only [bne_iff_ne, ne_eq]; omega
    rw [decide_eq_false (fun h => hl (by rw [h]))]
    (have hg : (987654321 : Nat) - 987654321 = 0 := rfl; have hr := hg; repeat' (first | refine aw_seq ?_ | (refine aw_skip ?_; try simp only [thenQ, blockQ, if_true, if_false, Nat.reduceEqDiff, reduceCtorEq]) | (refine aw_exit ?_; try simp only [thenQ, blockQ, if_true, if_false, Nat.reduceEqDiff, reduceCtorEq]) | refine aw_ret ?_ | refine aw_block ?_ | refine aw_condT rfl ?_ | refine aw_condF rfl ?_ | ((first | refine aw_region ?_ | refine ago_if (by omega) ?_ | skip); simp (config := {maxSteps := 10000000}) (disch := first | exact okYes (by kernel_rfl) | omega) only [thenQ, List.map, dB, List.length, Nat.zero_add, Nat.reduceMul, envOf, ARun_none, AOpRun, aexec, FSt.ev, AGo_ok, St.app, putO, eput_c, Nat.reduceBEq, eput_n, cond_false, hups, ARun_nil, dropE_c, inL_n, dropE_n, Nat.reduceAdd, St.F, ↓eget_h, eget_c, ints_len, isSh, Bool.false_eq_true, ↓reduceIte, Option.map, abin, q, inL_c, beq_self_eq_true, cond_true])))
    all_goals (refine end_to [] [] (by first | exact .inl rfl | exact .inr rfl) rfl (by kernel_rfl) (by kernel_rfl) (by kernel_rfl) ?_ ?_ <;> repeat' (first | exact trivial | exact vr_val _))
  have q : ((a.length : Int) != (b.length : Int)) = false := by simp only [bne_eq_false_iff_eq]; omega
  refine aw_seq (aw_region ?_)
  simp (config := {maxSteps := 10000000}) (disch := first | exact okYes (by kernel_rfl) | omega) only [thenQ, List.map, List.length, Nat.zero_add, Nat.reduceMul, envOf, ARun_none, AOpRun, aexec, FSt.ev, AGo_ok, St.app, putO, eput_c, Nat.reduceBEq, eput_n, cond_false, hups, ARun_nil, dropE_c, inL_n, dropE_n]
  refine aw_seq (aw_seq (aw_region ?_))
  simp (config := {maxSteps := 10000000}) (disch := first | exact okYes (by kernel_rfl) | omega) only [thenQ, List.length, Nat.zero_add, Nat.reduceAdd, Nat.reduceMul, ARun_none, AOpRun, aexec, FSt.ev, St.F, ↓eget_h, AGo_ok, St.app, putO, eput_c, Nat.reduceBEq, eput_n, cond_false, hups, List.map, eget_c, ints_len, isSh, Bool.false_eq_true, ↓reduceIte, Option.map, abin, q, ARun_nil, dropE_c, inL_c, inL_n, beq_self_eq_true, cond_true, dropE_n]
  refine aw_condF rfl (aw_skip ?_)
  refine aw_seq (aw_seq (aw_region ?_))
  simp (config := {maxSteps := 10000000}) (disch := first | exact okYes (by kernel_rfl) | omega) only [thenQ, List.length, Nat.zero_add, Nat.reduceMul, Nat.reduceAdd, ARun_none, AOpRun, aexec, FSt.ev, AGo_ok, St.app, putO, eput_c, Nat.reduceBEq, eput_n, cond_false, hups, List.map, ARun_nil, dropE_c, inL_n, dropE_n]
  refine aw_block (aw_loop (fun k : Nat => ⟨[(0, .list (ints a)), (1, .list (ints b)), (5, dI k)], [], 400⟩) (fun k => k ≤ a.length ∧ ∀ j, j < k → a[j]?.getD 0 = b[j]?.getD 0) (fun k => a.length - k) ⟨0, ⟨by omega, fun j hj => by omega⟩, ?_⟩ ?_)
  · refine wk_to [] [] (by kernel_rfl) (by kernel_rfl) (by kernel_rfl) (by kernel_rfl) (by kernel_rfl) ?_ ?_ <;> repeat' (first | exact trivial | exact vr_val _ | exact vr_list _ | apply And.intro)
  rintro k ⟨hk, hin⟩
  by_cases hk2 : k < a.length
  case neg =>
    obtain rfl : k = a.length := by omega
    rw [decide_eq_true (same_yes hl hin)]
    (have hg : (987654321 : Nat) - 987654321 = 0 := rfl; have hr := hg; repeat' (first | refine aw_seq ?_ | (refine aw_skip ?_; try simp only [thenQ, blockQ, if_true, if_false, Nat.reduceEqDiff, reduceCtorEq]) | (refine aw_exit ?_; try simp only [thenQ, blockQ, if_true, if_false, Nat.reduceEqDiff, reduceCtorEq]) | refine aw_ret ?_ | refine aw_block ?_ | refine aw_condT rfl ?_ | refine aw_condF rfl ?_ | (refine aw_cond rfl (fun hg => ?_) (fun hg => ?_) <;> (try (have hq := hg; simp only [Bool.not_eq_true', Bool.not_eq_false', Bool.and_eq_true, Bool.and_eq_false_iff, Bool.or_eq_true, Bool.or_eq_false_iff, decide_eq_true_eq, decide_eq_false_iff_not, bne_iff_ne, beq_iff_eq, beq_eq_false_iff_ne, bne_eq_false_iff_eq, ne_eq, Int.not_lt, Int.not_le, Decidable.not_not] at hq)) <;> (try (have hr := hg; simp only [decide_eq_true_eq, decide_eq_false_iff_not] at hr)) <;> (try (exfalso; omega))) | ((first | refine aw_region ?_ | refine ago_if (by omega) ?_ | skip); simp (config := {maxSteps := 10000000}) (disch := first | exact okYes (by kernel_rfl) | omega) only [thenQ, dI, dB, List.length, Nat.zero_add, Nat.reduceAdd, Nat.reduceMul, ARun_none, AOpRun, aexec, FSt.ev, St.F, eget_c, Nat.reduceBEq, ↓eget_h, cond_false, AGo_ok, St.app, putO, eput_c, eput_n, hups, List.map, ints_len, isSh, Bool.false_eq_true, ↓reduceIte, Option.map, abin, ARun_nil, dropE_c, inL_c, inL_n, beq_self_eq_true, cond_true, dropE_n, hr, decide_false])))
    all_goals (refine end_to [] [] (by first | exact .inl rfl | exact .inr rfl) rfl (by kernel_rfl) (by kernel_rfl) (by kernel_rfl) ?_ ?_ <;> repeat' (first | exact trivial | exact vr_val _))
  have g1 := ints_gd a k hk2
  have g2 := ints_gd b k (by omega)
  cases he : (a[k]?.getD 0 != b[k]?.getD 0) with
  | true =>
    rw [decide_eq_false (same_no (d := 0) (k := k) (by simpa using he))]
    (have hg : (987654321 : Nat) - 987654321 = 0 := rfl; have hr := hg; repeat' (first | refine aw_seq ?_ | (refine aw_skip ?_; try simp only [thenQ, blockQ, if_true, if_false, Nat.reduceEqDiff, reduceCtorEq]) | (refine aw_exit ?_; try simp only [thenQ, blockQ, if_true, if_false, Nat.reduceEqDiff, reduceCtorEq]) | refine aw_ret ?_ | refine aw_block ?_ | refine aw_condT rfl ?_ | refine aw_condF rfl ?_ | (refine aw_cond rfl (fun hg => ?_) (fun hg => ?_) <;> (try (have hq := hg; simp only [Bool.not_eq_true', Bool.not_eq_false', Bool.and_eq_true, Bool.and_eq_false_iff, Bool.or_eq_true, Bool.or_eq_false_iff, decide_eq_true_eq, decide_eq_false_iff_not, bne_iff_ne, beq_iff_eq, beq_eq_false_iff_ne, bne_eq_false_iff_eq, ne_eq, Int.not_lt, Int.not_le, Decidable.not_not] at hq)) <;> (try (have hr := hg; simp only [decide_eq_true_eq, decide_eq_false_iff_not] at hr)) <;> (try (exfalso; omega))) | ((first | refine aw_region ?_ | refine ago_if (by omega) ?_ | skip); simp (config := {maxSteps := 10000000}) (disch := first | exact okYes (by kernel_rfl) | omega) only [thenQ, dI, dB, List.length, Nat.zero_add, Nat.reduceAdd, Nat.reduceMul, ARun_none, AOpRun, aexec, FSt.ev, St.F, eget_c, Nat.reduceBEq, ↓eget_h, cond_false, AGo_ok, St.app, putO, eput_c, eput_n, hups, List.map, ints_len, isSh, Bool.false_eq_true, ↓reduceIte, Option.map, abin, ARun_nil, dropE_c, inL_c, inL_n, beq_self_eq_true, cond_true, dropE_n, hr, decide_true, Int.natCast_nonneg, ints_all, and_self, opt1, Int.toNat_natCast, g1, run1, List.getElem?_cons_zero, g2, he, blockQ])))
    all_goals (refine end_to [] [] (by first | exact .inl rfl | exact .inr rfl) rfl (by kernel_rfl) (by kernel_rfl) (by kernel_rfl) ?_ ?_ <;> repeat' (first | exact trivial | exact vr_val _))
  | false =>
    have he2 : a[k]?.getD 0 = b[k]?.getD 0 := by simpa using he
    (have hg : (987654321 : Nat) - 987654321 = 0 := rfl; have hr := hg; repeat' (first | refine aw_seq ?_ | (refine aw_skip ?_; try simp only [thenQ, blockQ, if_true, if_false, Nat.reduceEqDiff, reduceCtorEq]) | (refine aw_exit ?_; try simp only [thenQ, blockQ, if_true, if_false, Nat.reduceEqDiff, reduceCtorEq]) | refine aw_ret ?_ | refine aw_block ?_ | refine aw_condT rfl ?_ | refine aw_condF rfl ?_ | (refine aw_cond rfl (fun hg => ?_) (fun hg => ?_) <;> (try (have hq := hg; simp only [Bool.not_eq_true', Bool.not_eq_false', Bool.and_eq_true, Bool.and_eq_false_iff, Bool.or_eq_true, Bool.or_eq_false_iff, decide_eq_true_eq, decide_eq_false_iff_not, bne_iff_ne, beq_iff_eq, beq_eq_false_iff_ne, bne_eq_false_iff_eq, ne_eq, Int.not_lt, Int.not_le, Decidable.not_not] at hq)) <;> (try (have hr := hg; simp only [decide_eq_true_eq, decide_eq_false_iff_not] at hr)) <;> (try (exfalso; omega))) | ((first | refine aw_region ?_ | refine ago_if (by omega) ?_ | skip); simp (config := {maxSteps := 10000000}) (disch := first | exact okYes (by kernel_rfl) | omega) only [thenQ, dI, dB, List.length, Nat.zero_add, Nat.reduceAdd, Nat.reduceMul, ARun_none, AOpRun, aexec, FSt.ev, St.F, eget_c, Nat.reduceBEq, ↓eget_h, cond_false, AGo_ok, St.app, putO, eput_c, eput_n, hups, List.map, ints_len, isSh, Bool.false_eq_true, ↓reduceIte, Option.map, abin, ARun_nil, dropE_c, inL_c, inL_n, beq_self_eq_true, cond_true, dropE_n, hr, decide_true, Int.natCast_nonneg, ints_all, and_self, opt1, Int.toNat_natCast, g1, run1, List.getElem?_cons_zero, g2, he, fits])))
    refine ⟨k + 1, ⟨by omega, fun j hj => ?_⟩, by omega, ?_⟩
    · rcases (by omega : j < k ∨ j = k) with h | rfl
      · exact hin j h
      · exact he2
    · refine wk_to [] [] (by kernel_rfl) (by kernel_rfl) (by kernel_rfl) (by kernel_rfl) (by kernel_rfl) ?_ ?_ <;> repeat' (first | exact trivial | exact vr_val _ | exact vr_list _ | apply And.intro)
/-- a tape -/
def tpD (l : Lay) (frs : List (List Int)) : D := .agg [dI l.words, dI l.s0, dI l.s1, dI l.s2, dI l.s3, .list (fls l.fl), .list (rows frs)]
theorem in_tpD (S : Nat → Prop) (l : Lay) (frs : List (List Int)) : In S (tpD l frs) := .agg _ (vals_in rfl)
set_option maxRecDepth 100000 in
set_option maxHeartbeats 2000000 in
theorem own_ac (l : Lay) (frs : List (List Int)) (h1 : l.fl.length ≤ 1000) (hn : frs.length ≤ 1000) (hm : ∀ k, (frm frs k).length ≤ 1000000) : AC Try.prog 17 [tpD l frs] [] [] (tpD l frs) := by
  refine klaw12_own.ac (n0 := 0) (by simp) ⟨in_tpD _ _ _, trivial⟩ trivial rfl ?_
  have c1 := copyL_ac l h1
  have c2 := copyF_ac frs hn hm
  unfold claw12_own
  unfold tpD
  unfold layD layC at c1
  (have hg : (987654321 : Nat) - 987654321 = 0 := rfl; have hr := hg; repeat' (first | refine aw_seq ?_ | (refine aw_skip ?_; try simp only [thenQ, blockQ, if_true, if_false, Nat.reduceEqDiff, reduceCtorEq]) | (refine aw_exit ?_; try simp only [thenQ, blockQ, if_true, if_false, Nat.reduceEqDiff, reduceCtorEq]) | refine aw_ret ?_ | refine aw_block ?_ | refine aw_condT rfl ?_ | refine aw_condF rfl ?_ | ((first | refine aw_region ?_ | refine acall0 (c1) ?_ | refine acall0 (c2) ?_ | refine ago_if (by omega) ?_ | skip); simp (config := {maxSteps := 10000000}) (disch := first | exact okYes (by kernel_rfl) | omega) only [thenQ, List.map, dI, List.length, Nat.zero_add, Nat.reduceAdd, Nat.reduceMul, envOf, ARun_none, AOpRun, aexec, D.isBot, FSt.ev, St.F, ↓eget_h, Bool.false_eq_true, Option.isSome, hget_n, or_self, ↓reduceIte, D.cells, AGo_ok, St.app, putO, eput_c, Nat.reduceBEq, eput_n, cond_false, hups, hput_n, hget_c, hput_c, ARun_nil, dropE_c, inL_n, dropE_n, eget_c, beq_self_eq_true, cond_true, Nat.reduceLeDiff, List.drop, List.take, Option.map, run1, List.getElem?_cons_succ, List.getElem?_cons_zero, fillD, ne_eq, not_true_eq_false, Nat.reduceGT, splice, List.nil_append, List.cons_append, List.append_nil, ↓hget_h, List.all, D.leaf, Bool.and_true, and_self, inL_c])))
  all_goals (refine end_to [] [] (by first | exact .inl rfl | exact .inr rfl) rfl (by kernel_rfl) (by kernel_rfl) (by kernel_rfl) ?_ ?_ <;> repeat' (first | exact trivial | exact vr_val _ | exact vr_list _ | apply vr_agg | apply And.intro))
/-- larger than a statement looks at -/
def farB (l : Lay) (frs : List (List Int)) : Bool := decide ((l.fl.length : Int) > 20) || decide ((frs.length : Int) > 220) || frs.any fun f => decide ((f.length : Int) > 50)
theorem far_small {l : Lay} {frs : List (List Int)} (h : farB l frs = false) : l.fl.length ≤ 20 ∧ frs.length ≤ 220 ∧ ∀ k, (frm frs k).length ≤ 50 := by
  unfold farB at h
  simp only [Bool.or_eq_false_iff, decide_eq_false_iff_not, List.any_eq_false] at h
  obtain ⟨⟨h1, h2⟩, h3⟩ := h
  refine ⟨by omega, by omega, fun k => ?_⟩
  unfold frm
  by_cases hk : k < frs.length
  · have := h3 _ (List.getElem_mem hk)
    simp [hk] at this ⊢
    omega
  · simp [List.getElem?_eq_none (by omega : frs.length ≤ k)]
set_option maxRecDepth 100000 in
set_option maxHeartbeats 2000000 in
theorem far_ac (l : Lay) (frs : List (List Int)) (m1 : l.fl.length ≤ maxLen) (m2 : frs.length ≤ maxLen) (m3 : ∀ k, (frm frs k).length ≤ maxLen) : AC Try.prog 15 [tpD l frs] [] [] (dB (farB l frs)) := by
  refine klaw12_Far.ac (n0 := 0) (by simp) ⟨in_tpD _ _ _, trivial⟩ trivial rfl ?_
  unfold claw12_Far tpD farB
  have hmax : maxLen = 9223372036854775807 := rfl
  cases q1 : decide ((l.fl.length : Int) > 20) with
  | true =>
    simp only [Bool.true_or]
    (have hg : (987654321 : Nat) - 987654321 = 0 := rfl; have hr := hg; repeat' (first | refine aw_seq ?_ | (refine aw_skip ?_; try simp only [thenQ, blockQ, if_true, if_false, Nat.reduceEqDiff, reduceCtorEq]) | (refine aw_exit ?_; try simp only [thenQ, blockQ, if_true, if_false, Nat.reduceEqDiff, reduceCtorEq]) | refine aw_ret ?_ | refine aw_block ?_ | refine aw_condT rfl ?_ | refine aw_condF rfl ?_ | ((first | refine aw_region ?_ | refine ago_if (by omega) ?_ | skip); simp (config := {maxSteps := 10000000}) (disch := first | exact okYes (by kernel_rfl) | omega) only [thenQ, List.map, dB, List.length, Nat.zero_add, Nat.reduceAdd, Nat.reduceMul, envOf, dI, ARun_none, AOpRun, aexec, D.isBot, FSt.ev, St.F, ↓eget_h, Bool.false_eq_true, Option.isSome, hget_n, or_self, ↓reduceIte, D.cells, AGo_ok, St.app, putO, eput_c, Nat.reduceBEq, eput_n, cond_false, hups, hput_n, ARun_nil, dropE_c, inL_n, dropE_n, eget_c, Option.map, run1, hget_c, beq_self_eq_true, cond_true, List.getElem?_cons_succ, List.getElem?_cons_zero, fls_len, isSh, abin, q1, ARun_some, AG_tf, inL_c])))
    all_goals (refine end_to [] [] (by first | exact .inl rfl | exact .inr rfl) rfl (by kernel_rfl) (by kernel_rfl) (by kernel_rfl) ?_ ?_ <;> repeat' (first | exact trivial | exact vr_val _))
  | false =>
  cases q2 : decide ((frs.length : Int) > 220) with
  | true =>
    simp only [Bool.true_or, Bool.or_true]
    (have hg : (987654321 : Nat) - 987654321 = 0 := rfl; have hr := hg; repeat' (first | refine aw_seq ?_ | (refine aw_skip ?_; try simp only [thenQ, blockQ, if_true, if_false, Nat.reduceEqDiff, reduceCtorEq]) | (refine aw_exit ?_; try simp only [thenQ, blockQ, if_true, if_false, Nat.reduceEqDiff, reduceCtorEq]) | refine aw_ret ?_ | refine aw_block ?_ | refine aw_condT rfl ?_ | refine aw_condF rfl ?_ | ((first | refine aw_region ?_ | refine ago_if (by omega) ?_ | skip); simp (config := {maxSteps := 10000000}) (disch := first | exact okYes (by kernel_rfl) | omega) only [thenQ, List.map, dB, List.length, Nat.zero_add, Nat.reduceAdd, Nat.reduceMul, envOf, dI, ARun_none, AOpRun, aexec, D.isBot, FSt.ev, St.F, ↓eget_h, Bool.false_eq_true, Option.isSome, hget_n, or_self, ↓reduceIte, D.cells, AGo_ok, St.app, putO, eput_c, Nat.reduceBEq, eput_n, cond_false, hups, hput_n, ARun_nil, dropE_c, inL_n, dropE_n, eget_c, Option.map, run1, hget_c, beq_self_eq_true, cond_true, List.getElem?_cons_succ, List.getElem?_cons_zero, fls_len, isSh, abin, q1, ARun_some, AG_ff, rows_len, q2, inL_c])))
    all_goals (refine end_to [] [] (by first | exact .inl rfl | exact .inr rfl) rfl (by kernel_rfl) (by kernel_rfl) (by kernel_rfl) ?_ ?_ <;> repeat' (first | exact trivial | exact vr_val _))
  | false =>
  simp only [Bool.or_self, Bool.false_or]
  refine aw_seq (aw_region ?_)
  simp (config := {maxSteps := 10000000}) (disch := first | exact okYes (by kernel_rfl) | omega) only [thenQ, List.map, List.length, Nat.zero_add, Nat.reduceAdd, Nat.reduceMul, envOf, dI, ARun_none, AOpRun, aexec, D.isBot, FSt.ev, St.F, ↓eget_h, Bool.false_eq_true, Option.isSome, hget_n, or_self, ↓reduceIte, D.cells, AGo_ok, St.app, putO, eput_c, Nat.reduceBEq, eput_n, cond_false, hups, hput_n, ARun_nil, dropE_c, inL_n, dropE_n]
  refine aw_seq (aw_seq (aw_region ?_))
  simp (config := {maxSteps := 10000000}) (disch := first | exact okYes (by kernel_rfl) | omega) only [thenQ, List.length, Nat.zero_add, Nat.reduceAdd, Nat.reduceMul, ARun_none, AOpRun, aexec, FSt.ev, St.F, eget_c, Nat.reduceBEq, ↓eget_h, cond_false, AGo_ok, St.app, putO, eput_c, eput_n, hups, List.map, Option.map, run1, hget_c, beq_self_eq_true, hget_n, cond_true, List.getElem?_cons_succ, List.getElem?_cons_zero, fls_len, isSh, Bool.false_eq_true, ↓reduceIte, abin, q1, ARun_some, AG_ff, rows_len, q2, ARun_nil, dropE_c, inL_c, inL_n, dropE_n]
  refine aw_condF rfl (aw_skip ?_)
  refine aw_seq (aw_seq (aw_region ?_))
  simp (config := {maxSteps := 10000000}) (disch := first | exact okYes (by kernel_rfl) | omega) only [thenQ, List.length, Nat.zero_add, Nat.reduceMul, Nat.reduceAdd, ARun_none, AOpRun, aexec, FSt.ev, AGo_ok, St.app, putO, eput_c, Nat.reduceBEq, eput_n, cond_false, hups, List.map, ARun_nil, dropE_c, inL_n, dropE_n]
  refine aw_block (aw_loop (fun k : Nat => ⟨[(1, .ptr 0 0), (3, dI k)], [(0, [dI l.words, dI l.s0, dI l.s1, dI l.s2, dI l.s3, .list (fls l.fl), .list (rows frs)])], 400⟩) (fun k => k ≤ frs.length ∧ ∀ j, j < k → decide (((frm frs j).length : Int) > 50) = false) (fun k => frs.length - k) ⟨0, ⟨by omega, fun j hj => by omega⟩, ?_⟩ ?_)
  · unfold dI
    refine wk_to [] [(0, 0)] (by kernel_rfl) (by kernel_rfl) (by kernel_rfl) (by kernel_rfl) (by kernel_rfl) ?_ ?_ <;> repeat' (first | exact trivial | exact vr_val _ | exact vr_list _ | exact vr_ptr _ _ _ rfl | refine And.intro ⟨_, rfl, .inl ⟨_, rfl, by decide, ?_⟩⟩ ?_ | apply And.intro)
  rintro k ⟨hk, hin⟩
  have hm := m3 k
  by_cases hk2 : k < frs.length
  case neg =>
    obtain rfl : k = frs.length := by omega
    have e : frs.any (fun f => decide ((f.length : Int) > 50)) = false := List.any_eq_false.2 fun x hx => by
      obtain ⟨j, hj, rfl⟩ := List.getElem_of_mem hx
      have := hin j hj
      simp only [frm, hj, List.getElem?_eq_getElem, Option.getD_some] at this
      rw [this]; simp
    rw [e]
    (have hg : (987654321 : Nat) - 987654321 = 0 := rfl; have hr := hg; repeat' (first | refine aw_seq ?_ | (refine aw_skip ?_; try simp only [thenQ, blockQ, if_true, if_false, Nat.reduceEqDiff, reduceCtorEq]) | (refine aw_exit ?_; try simp only [thenQ, blockQ, if_true, if_false, Nat.reduceEqDiff, reduceCtorEq]) | refine aw_ret ?_ | refine aw_block ?_ | refine aw_condT rfl ?_ | refine aw_condF rfl ?_ | (refine aw_cond rfl (fun hg => ?_) (fun hg => ?_) <;> (try (have hq := hg; simp only [Bool.not_eq_true', Bool.not_eq_false', Bool.and_eq_true, Bool.and_eq_false_iff, Bool.or_eq_true, Bool.or_eq_false_iff, decide_eq_true_eq, decide_eq_false_iff_not, bne_iff_ne, beq_iff_eq, beq_eq_false_iff_ne, bne_eq_false_iff_eq, ne_eq, Int.not_lt, Int.not_le, Decidable.not_not] at hq)) <;> (try (have hr := hg; simp only [decide_eq_true_eq, decide_eq_false_iff_not] at hr)) <;> (try (exfalso; omega))) | ((first | refine aw_region ?_ | refine ago_if (by omega) ?_ | skip); simp (config := {maxSteps := 10000000}) (disch := first | exact okYes (by kernel_rfl) | omega) only [thenQ, dI, dB, List.length, Nat.zero_add, Nat.reduceAdd, Nat.reduceMul, ARun_none, AOpRun, aexec, FSt.ev, St.F, eget_c, Nat.reduceBEq, ↓eget_h, cond_false, AGo_ok, St.app, putO, eput_c, eput_n, hups, List.map, Option.map, run1, hget_c, beq_self_eq_true, hget_n, cond_true, List.getElem?_cons_succ, List.getElem?_cons_zero, rows_len, isSh, Bool.false_eq_true, ↓reduceIte, abin, ARun_nil, dropE_c, inL_c, inL_n, dropE_n, hr, decide_false])))
    all_goals (refine end_to [] [] (by first | exact .inl rfl | exact .inr rfl) rfl (by kernel_rfl) (by kernel_rfl) (by kernel_rfl) ?_ ?_ <;> repeat' (first | exact trivial | exact vr_val _))
  have g1 := rows_gd frs k hk2
  rw [show frs[k]?.getD [] = frm frs k from rfl] at g1
  cases he : decide (((frm frs k).length : Int) > 50) with
  | true =>
    have e : frs.any (fun f => decide ((f.length : Int) > 50)) = true := List.any_eq_true.2 ⟨frs[k], List.getElem_mem hk2, by
      simp only [frm, hk2, List.getElem?_eq_getElem, Option.getD_some] at he
      exact he⟩
    rw [e]
    (have hg : (987654321 : Nat) - 987654321 = 0 := rfl; have hr := hg; repeat' (first | refine aw_seq ?_ | (refine aw_skip ?_; try simp only [thenQ, blockQ, if_true, if_false, Nat.reduceEqDiff, reduceCtorEq]) | (refine aw_exit ?_; try simp only [thenQ, blockQ, if_true, if_false, Nat.reduceEqDiff, reduceCtorEq]) | refine aw_ret ?_ | refine aw_block ?_ | refine aw_condT rfl ?_ | refine aw_condF rfl ?_ | (refine aw_cond rfl (fun hg => ?_) (fun hg => ?_) <;> (try (have hq := hg; simp only [Bool.not_eq_true', Bool.not_eq_false', Bool.and_eq_true, Bool.and_eq_false_iff, Bool.or_eq_true, Bool.or_eq_false_iff, decide_eq_true_eq, decide_eq_false_iff_not, bne_iff_ne, beq_iff_eq, beq_eq_false_iff_ne, bne_eq_false_iff_eq, ne_eq, Int.not_lt, Int.not_le, Decidable.not_not] at hq)) <;> (try (have hr := hg; simp only [decide_eq_true_eq, decide_eq_false_iff_not] at hr)) <;> (try (exfalso; omega))) | ((first | refine aw_region ?_ | refine ago_if (by omega) ?_ | skip); simp (config := {maxSteps := 10000000}) (disch := first | exact okYes (by kernel_rfl) | omega) only [thenQ, dI, dB, List.length, Nat.zero_add, Nat.reduceAdd, Nat.reduceMul, ARun_none, AOpRun, aexec, FSt.ev, St.F, eget_c, Nat.reduceBEq, ↓eget_h, cond_false, AGo_ok, St.app, putO, eput_c, eput_n, hups, List.map, Option.map, run1, hget_c, beq_self_eq_true, hget_n, cond_true, List.getElem?_cons_succ, List.getElem?_cons_zero, rows_len, isSh, Bool.false_eq_true, ↓reduceIte, abin, ARun_nil, dropE_c, inL_c, inL_n, dropE_n, hr, decide_true, Int.natCast_nonneg, rows_all, and_self, opt1, Int.toNat_natCast, g1, ints_len, he, blockQ])))
    all_goals (refine end_to [] [] (by first | exact .inl rfl | exact .inr rfl) rfl (by kernel_rfl) (by kernel_rfl) (by kernel_rfl) ?_ ?_ <;> repeat' (first | exact trivial | exact vr_val _))
  | false =>
    (have hg : (987654321 : Nat) - 987654321 = 0 := rfl; have hr := hg; repeat' (first | refine aw_seq ?_ | (refine aw_skip ?_; try simp only [thenQ, blockQ, if_true, if_false, Nat.reduceEqDiff, reduceCtorEq]) | (refine aw_exit ?_; try simp only [thenQ, blockQ, if_true, if_false, Nat.reduceEqDiff, reduceCtorEq]) | refine aw_ret ?_ | refine aw_block ?_ | refine aw_condT rfl ?_ | refine aw_condF rfl ?_ | (refine aw_cond rfl (fun hg => ?_) (fun hg => ?_) <;> (try (have hq := hg; simp only [Bool.not_eq_true', Bool.not_eq_false', Bool.and_eq_true, Bool.and_eq_false_iff, Bool.or_eq_true, Bool.or_eq_false_iff, decide_eq_true_eq, decide_eq_false_iff_not, bne_iff_ne, beq_iff_eq, beq_eq_false_iff_ne, bne_eq_false_iff_eq, ne_eq, Int.not_lt, Int.not_le, Decidable.not_not] at hq)) <;> (try (have hr := hg; simp only [decide_eq_true_eq, decide_eq_false_iff_not] at hr)) <;> (try (exfalso; omega))) | ((first | refine aw_region ?_ | refine ago_if (by omega) ?_ | skip); simp (config := {maxSteps := 10000000}) (disch := first | exact okYes (by kernel_rfl) | omega) only [thenQ, dI, dB, List.length, Nat.zero_add, Nat.reduceAdd, Nat.reduceMul, ARun_none, AOpRun, aexec, FSt.ev, St.F, eget_c, Nat.reduceBEq, ↓eget_h, cond_false, AGo_ok, St.app, putO, eput_c, eput_n, hups, List.map, Option.map, run1, hget_c, beq_self_eq_true, hget_n, cond_true, List.getElem?_cons_succ, List.getElem?_cons_zero, rows_len, isSh, Bool.false_eq_true, ↓reduceIte, abin, ARun_nil, dropE_c, inL_c, inL_n, dropE_n, hr, decide_true, Int.natCast_nonneg, rows_all, and_self, opt1, Int.toNat_natCast, g1, ints_len, he, fits])))
    refine ⟨k + 1, ⟨by omega, fun j hj => ?_⟩, by omega, ?_⟩
    · rcases (by omega : j < k ∨ j = k) with h | rfl
      · exact hin j h
      · exact he
    · refine wk_to [] [(0, 0)] (by kernel_rfl) (by kernel_rfl) (by kernel_rfl) (by kernel_rfl) (by kernel_rfl) ?_ ?_ <;> repeat' (first | exact trivial | exact vr_val _ | exact vr_list _ | exact vr_ptr _ _ _ rfl | refine And.intro ⟨_, rfl, .inl ⟨_, rfl, by decide, ?_⟩⟩ ?_ | apply And.intro)
end Go.Proofs.Ytdcodicoclecnaa
/- Arguments that came in: what their cells are. No conditions. -/
namespace Go.Proofs.Ytdcodicoclecnaa
open Go.RowKit Lift

theorem in_ints {l : List (List D)} (h : ∀ x ∈ l, CfL [.int] x) : ∃ xs, l = ints xs ∧ ∀ x ∈ xs, -9223372036854775808 ≤ x ∧ x ≤ 9223372036854775807 := by
  induction l with
  | nil => exact ⟨[], rfl, by simp⟩
  | cons x l ih =>
    obtain ⟨xs, rfl, hx⟩ := ih fun y hy => h y (List.mem_cons_of_mem _ hy)
    have h0 := h x (List.mem_cons_self ..)
    cases h0 with
    | int n ss ds h1 h2 h3 =>
      cases h3
      exact ⟨n :: xs, rfl, fun y hy => by
        rcases List.mem_cons.1 hy with rfl | hy
        · exact ⟨h1, h2⟩
        · exact hx y hy⟩
theorem in_rows {l : List (List D)} (h : ∀ x ∈ l, CfL [.sl [.int]] x) : ∃ vs, l = rows vs ∧ ∀ r ∈ vs, r.length ≤ maxLen := by
  induction l with
  | nil => exact ⟨[], rfl, by simp⟩
  | cons x l ih =>
    obtain ⟨vs, rfl, hx⟩ := ih fun y hy => h y (List.mem_cons_of_mem _ hy)
    have h0 := h x (List.mem_cons_self ..)
    cases h0 with
    | sl e k ss ds h1 h2 h3 =>
      cases h3
      obtain ⟨xs, rfl, _⟩ := in_ints h2
      exact ⟨xs :: vs, rfl, fun y hy => by
        rcases List.mem_cons.1 hy with rfl | hy
        · simpa [ints] using h1
        · exact hx y hy⟩
end Go.Proofs.Ytdcodicoclecnaa
/- Arguments that came in: layouts, frames, cases. No conditions. -/
namespace Go.Proofs.Ytdcodicoclecnaa
open Go.RowKit Lift

theorem inc_int {ss : List Sh} {ds : List D} (h : CfL (.int :: ss) ds) : ∃ (a : Int) (r : List D), ds = dI a :: r ∧ CfL ss r ∧ -9223372036854775808 ≤ a ∧ a ≤ 9223372036854775807 := by
  cases h with
  | int a ss ds h1 h2 h3 => exact ⟨a, ds, rfl, h3, h1, h2⟩
theorem inc_bool {ss : List Sh} {ds : List D} (h : CfL (.bool :: ss) ds) : ∃ (a : Bool) (r : List D), ds = dB a :: r ∧ CfL ss r := by
  cases h with
  | bool a ss ds h3 => exact ⟨a, ds, rfl, h3⟩
theorem inc_sl {e ss : List Sh} {ds : List D} (h : CfL (.sl e :: ss) ds) : ∃ (l : List (List D)) (r : List D), ds = .list l :: r ∧ CfL ss r ∧ l.length ≤ maxLen ∧ ∀ x ∈ l, CfL e x := by
  cases h with
  | sl e l ss ds h1 h2 h3 => exact ⟨l, ds, rfl, h3, h1, h2⟩
theorem inc_nil {ds : List D} (h : CfL [] ds) : ds = [] := by cases h; rfl
theorem in_fls {l : List (List D)} (h : ∀ x ∈ l, CfL [.int, .int, .int, .bool, .int, .int, .int, .int, .int] x) : ∃ fs : List Fl, l = fls fs ∧ ∀ f ∈ fs, f.size ≤ 9223372036854775807 := by
  induction l with
  | nil => exact ⟨[], rfl, by simp⟩
  | cons x l ih =>
    obtain ⟨fs, rfl, hx⟩ := ih fun y hy => h y (List.mem_cons_of_mem _ hy)
    obtain ⟨a1, _, rfl, e1, _, _⟩ := inc_int (h x (List.mem_cons_self ..))
    obtain ⟨a2, _, rfl, e2, _, _⟩ := inc_int e1
    obtain ⟨a3, _, rfl, e3, _, b3⟩ := inc_int e2
    obtain ⟨a4, _, rfl, e4⟩ := inc_bool e3
    obtain ⟨a5, _, rfl, e5, _, _⟩ := inc_int e4
    obtain ⟨a6, _, rfl, e6, _, _⟩ := inc_int e5
    obtain ⟨a7, _, rfl, e7, _, _⟩ := inc_int e6
    obtain ⟨a8, _, rfl, e8, _, _⟩ := inc_int e7
    obtain ⟨a9, _, rfl, e9, _, _⟩ := inc_int e8
    obtain rfl := inc_nil e9
    exact ⟨⟨a1, a2, a3, a4, a5, a6, a7, a8, a9⟩ :: fs, rfl, fun y hy => by
      rcases List.mem_cons.1 hy with rfl | hy
      · exact b3
      · exact hx y hy⟩
theorem in_lay {ss : List Sh} {ds : List D} (h : CfL (.int :: .int :: .int :: .int :: .int :: .sl [.int, .int, .int, .bool, .int, .int, .int, .int, .int] :: ss) ds) : ∃ (l : Lay) (r : List D), ds = dI l.words :: dI l.s0 :: dI l.s1 :: dI l.s2 :: dI l.s3 :: .list (fls l.fl) :: r ∧ CfL ss r ∧ LayIn l := by
  obtain ⟨w, _, rfl, e1, _, _⟩ := inc_int h
  obtain ⟨s0, _, rfl, e2, _, _⟩ := inc_int e1
  obtain ⟨s1, _, rfl, e3, _, _⟩ := inc_int e2
  obtain ⟨s2, _, rfl, e4, _, _⟩ := inc_int e3
  obtain ⟨s3, _, rfl, e5, _, _⟩ := inc_int e4
  obtain ⟨l, r, rfl, e6, h1, h2⟩ := inc_sl e5
  obtain ⟨fs, rfl, h3⟩ := in_fls h2
  refine ⟨⟨w, s0, s1, s2, s3, fs⟩, r, rfl, e6, ⟨by simpa [fls] using h1, fun k hk => ?_⟩⟩
  have hk' : k < fs.length := hk
  show (fs[k]?.getD fl0).size ≤ _
  rw [List.getElem?_eq_getElem hk']
  exact h3 _ (List.getElem_mem hk')
theorem in_frames {ss : List Sh} {ds : List D} (h : CfL (.sl [.sl [.int]] :: ss) ds) : ∃ (frs : List (List Int)) (r : List D), ds = .list (rows frs) :: r ∧ CfL ss r ∧ FrIn frs := by
  obtain ⟨l, r, rfl, e1, h1, h2⟩ := inc_sl h
  obtain ⟨frs, rfl, h3⟩ := in_rows h2
  refine ⟨frs, r, rfl, e1, ⟨by simpa [rows] using h1, fun k => ?_⟩⟩
  unfold frm
  by_cases hk : k < frs.length
  · rw [List.getElem?_eq_getElem hk]; exact h3 _ (List.getElem_mem hk)
  · rw [List.getElem?_eq_none (by omega)]; simp
theorem in_tape {ds : List D} (h : CfL [.int, .int, .int, .int, .int, .sl [.int, .int, .int, .bool, .int, .int, .int, .int, .int], .sl [.sl [.int]]] ds) : ∃ (l : Lay) (frs : List (List Int)), ds = [dI l.words, dI l.s0, dI l.s1, dI l.s2, dI l.s3, .list (fls l.fl), .list (rows frs)] ∧ LayIn l ∧ FrIn frs := by
  obtain ⟨l, _, rfl, e1, hl⟩ := in_lay h
  obtain ⟨frs, _, rfl, e2, hf⟩ := in_frames e1
  obtain rfl := inc_nil e2
  exact ⟨l, frs, rfl, hl, hf⟩
end Go.Proofs.Ytdcodicoclecnaa
/- The law of Shake. No conditions. -/
set_option linter.unusedSimpArgs false
set_option linter.unusedVariables false
namespace Go.Proofs.Ytdcodicoclecnaa
open Go Go.RowKit Lift

theorem in_three {ds : List D} (h : CfL [.int, .int, .int] ds) : ∃ x y z : Int, ds = [dI x, dI y, dI z] := by
  obtain ⟨x, r, rfl, h, _⟩ := inc_int h
  obtain ⟨y, r, rfl, h, _⟩ := inc_int h
  obtain ⟨z, r, rfl, h, _⟩ := inc_int h
  obtain rfl := inc_nil h
  exact ⟨x, y, z, rfl⟩
set_option maxRecDepth 100000 in
set_option maxHeartbeats 8000000 in
theorem lawShakes_ac (l : Lay) (frs : List (List Int)) (x y pts : Int) (hl : LayIn l) (hf : FrIn frs) : AC Try.prog 11 [tpD l frs, .agg [dI x, dI y, dI pts]] [] [] (dB true) := by
  refine klaw12_RecordShakes.ac (n0 := 0) (by simp) ⟨in_tpD _ _ _, .agg _ (vals_in rfl), trivial⟩ trivial rfl ?_
  unfold claw12_RecordShakes
  have fa := far_ac l frs hl.nf hf.n hf.m
  unfold tpD at *
  cases hb : farB l frs with
  | true =>
    rw [hb] at fa
    (have hg : (987654321 : Nat) - 987654321 = 0 := rfl; have hr := hg; repeat' (first | refine aw_seq ?_ | (refine aw_skip ?_; repeat' (first | with_reducible refine thenQ_n ?_ | with_reducible refine blockQ_n ?_ | with_reducible refine thenQ_e ?_ | with_reducible refine blockQ_t ?_ | with_reducible refine blockQ_f (by decide) ?_)) | (refine aw_exit ?_; repeat' (first | with_reducible refine thenQ_n ?_ | with_reducible refine blockQ_n ?_ | with_reducible refine thenQ_e ?_ | with_reducible refine blockQ_t ?_ | with_reducible refine blockQ_f (by decide) ?_)) | refine aw_ret ?_ | refine aw_block ?_ | refine aw_condT rfl ?_ | refine aw_condF rfl ?_ | ((first | refine aw_hide fun K hK => aw_region ?_ | refine acall0 (fa) ?_ | refine acall0 (works_ac) ?_ | refine ago_if (by omega) ?_ | skip); simp (config := {maxSteps := 10000000}) (disch := first | exact okYes (by kernel_rfl) | omega) only [List.length, Nat.zero_add, Nat.reduceAdd, Nat.reduceMul, envOf, dI, ARun_none, AOpRun, aexec, D.isBot, FSt.ev, St.F, ↓eget_h, Bool.false_eq_true, Option.isSome, hget_n, or_self, ↓reduceIte, D.cells, AGo_ok, St.app, putO, eput_c, Nat.reduceBEq, eput_n, cond_false, hups, hput_n, List.map, eget_c, hget_c, hput_c, ARun_nil, dropE_c, inL_n, dropE_n, beq_self_eq_true, cond_true, Nat.reduceLeDiff, List.drop, List.take, dB, inL_c, thenQ]) | (subst hK; repeat' (first | with_reducible refine thenQ_n ?_ | with_reducible refine blockQ_n ?_ | with_reducible refine thenQ_e ?_ | with_reducible refine blockQ_t ?_ | with_reducible refine blockQ_f (by decide) ?_))))
    all_goals (refine end_to [] [] (by first | exact .inl rfl | exact .inr rfl) rfl (by kernel_rfl) (by kernel_rfl) (by kernel_rfl) ?_ ?_ <;> repeat' (first | exact trivial | exact vr_val _))
  | false =>
  rw [hb] at fa
  obtain ⟨f1, f2, f3⟩ := far_small hb
  have ow := own_ac l frs (by omega) (by omega) (fun k => by have := f3 k; omega)
  have c1 := shake_ac l frs x y pts hl hf
  have c2 := rshake_ac l frs x y pts hl hf
  have hlen : (shL l frs x y pts).length ≤ 24 := by
    unfold shL
    split
    · exact avL_len _ _ _
    · simp
  unfold tpD at ow
  by_cases hw : wfE l frs [x, y] = 0
  · obtain ⟨h1, h2, h0, hx, hy⟩ := wfE_two hw
    have nf := h1.nf
    have hx := wI_t hx
    have hy := wI_t hy
    have e1 : shL l frs x y pts = avL (shV l frs x) (shM l frs x y) pts := if_pos hw
    have e2 : shD l frs x y pts = avD (shV l frs x) (shM l frs x y) pts := if_pos hw
    have e3 : shE l frs x y pts = avE (shV l frs x) (shM l frs x y) pts := if_pos hw
    rw [e1] at hlen
    rw [e1, e2, e3] at c1 c2
    clear e1 e2 e3
    obtain ⟨a, rfl⟩ : ∃ a : Nat, x = a := ⟨x.toNat, by omega⟩
    obtain ⟨b, rfl⟩ : ∃ b : Nat, y = b := ⟨y.toNat, by omega⟩
    have c3 := rshaken_ac l frs a b h1 h2 hf (by omega) (by omega)
    have c4 := havg_ac (shV l frs a) (shM l frs a b) pts (by unfold shV; rw [smV_len]; have := smps_len l (fAt l (a : Int).toNat) frs frs.length; omega) (by unfold shM; have := smM_len l (fAt l (a : Int).toNat) (fAt l (b : Int).toNat) frs frs.length; omega)
    generalize shV l frs a = V at *
    generalize shM l frs a b = M at *
    generalize avL V M pts = s at *
    generalize avD V M pts = d at *
    generalize avE V M pts = e at *
    have sp := sameI_ac s s (by omega) (by omega)
    rw [decide_eq_true rfl] at sp
    unfold layD layC at *
    have b1 : (d != d) = false := by simp
    have b2 : (e != e) = false := by simp
    have b3 : (d == d) = true := by simp
    by_cases he : e = 0
    · subst he
      (have hg : (987654321 : Nat) - 987654321 = 0 := rfl; have hr := hg; repeat' (first | refine aw_seq ?_ | (refine aw_skip ?_; repeat' (first | with_reducible refine thenQ_n ?_ | with_reducible refine blockQ_n ?_ | with_reducible refine thenQ_e ?_ | with_reducible refine blockQ_t ?_ | with_reducible refine blockQ_f (by decide) ?_)) | (refine aw_exit ?_; repeat' (first | with_reducible refine thenQ_n ?_ | with_reducible refine blockQ_n ?_ | with_reducible refine thenQ_e ?_ | with_reducible refine blockQ_t ?_ | with_reducible refine blockQ_f (by decide) ?_)) | refine aw_ret ?_ | refine aw_block ?_ | refine aw_condT rfl ?_ | refine aw_condF rfl ?_ | ((first | refine aw_hide fun K hK => aw_region ?_ | refine acall0 (fa) ?_ | refine acall0 (ow) ?_ | refine acall0 (c1) ?_ | refine acall0 (c2) ?_ | refine acall0 (c3) ?_ | refine acall0 (c4) ?_ | refine acall0 (sp) ?_ | refine acall0 (works_ac) ?_ | refine ago_if (by omega) ?_ | skip); simp (config := {maxSteps := 10000000}) (disch := first | exact okYes (by kernel_rfl) | omega) only [List.length, Nat.zero_add, Nat.reduceAdd, Nat.reduceMul, envOf, dI, ARun_none, AOpRun, aexec, D.isBot, FSt.ev, St.F, ↓eget_h, Bool.false_eq_true, Option.isSome, hget_n, or_self, ↓reduceIte, D.cells, AGo_ok, St.app, putO, eput_c, Nat.reduceBEq, eput_n, cond_false, hups, hput_n, List.map, eget_c, hget_c, hput_c, ARun_nil, dropE_c, inL_n, dropE_n, beq_self_eq_true, cond_true, Nat.reduceLeDiff, List.drop, List.take, dB, inL_c, ↓hget_h, List.all, D.leaf, Bool.and_true, and_self, splice, List.nil_append, List.append_nil, Option.map, run1, List.getElem?_cons_succ, List.getElem?_cons_zero, opt1, Bool.not_true, ARun_some, AG_ff, isSh, abin, bne_self_eq_false, AG_tt]) | (subst hK; repeat' (first | with_reducible refine thenQ_n ?_ | with_reducible refine blockQ_n ?_ | with_reducible refine thenQ_e ?_ | with_reducible refine blockQ_t ?_ | with_reducible refine blockQ_f (by decide) ?_))))
      all_goals (refine end_to [] [] (by first | exact .inl rfl | exact .inr rfl) rfl (by kernel_rfl) (by kernel_rfl) (by kernel_rfl) ?_ ?_ <;> repeat' (first | exact trivial | exact vr_val _))
    · have b5 : (e != 0) = true := by simpa using he
      (have hg : (987654321 : Nat) - 987654321 = 0 := rfl; have hr := hg; repeat' (first | refine aw_seq ?_ | (refine aw_skip ?_; repeat' (first | with_reducible refine thenQ_n ?_ | with_reducible refine blockQ_n ?_ | with_reducible refine thenQ_e ?_ | with_reducible refine blockQ_t ?_ | with_reducible refine blockQ_f (by decide) ?_)) | (refine aw_exit ?_; repeat' (first | with_reducible refine thenQ_n ?_ | with_reducible refine blockQ_n ?_ | with_reducible refine thenQ_e ?_ | with_reducible refine blockQ_t ?_ | with_reducible refine blockQ_f (by decide) ?_)) | refine aw_ret ?_ | refine aw_block ?_ | refine aw_condT rfl ?_ | refine aw_condF rfl ?_ | ((first | refine aw_hide fun K hK => aw_region ?_ | refine acall0 (fa) ?_ | refine acall0 (ow) ?_ | refine acall0 (c1) ?_ | refine acall0 (c2) ?_ | refine acall0 (c3) ?_ | refine acall0 (c4) ?_ | refine acall0 (sp) ?_ | refine acall0 (works_ac) ?_ | refine ago_if (by omega) ?_ | skip); simp (config := {maxSteps := 10000000}) (disch := first | exact okYes (by kernel_rfl) | omega) only [List.length, Nat.zero_add, Nat.reduceAdd, Nat.reduceMul, envOf, dI, ARun_none, AOpRun, aexec, D.isBot, FSt.ev, St.F, ↓eget_h, Bool.false_eq_true, Option.isSome, hget_n, or_self, ↓reduceIte, D.cells, AGo_ok, St.app, putO, eput_c, Nat.reduceBEq, eput_n, cond_false, hups, hput_n, List.map, eget_c, hget_c, hput_c, ARun_nil, dropE_c, inL_n, dropE_n, beq_self_eq_true, cond_true, Nat.reduceLeDiff, List.drop, List.take, dB, inL_c, ↓hget_h, List.all, D.leaf, Bool.and_true, and_self, splice, List.nil_append, List.append_nil, Option.map, run1, List.getElem?_cons_succ, List.getElem?_cons_zero, opt1, Bool.not_true, ARun_some, AG_ff, isSh, abin, bne_self_eq_false, b5, thenQ]) | (subst hK; repeat' (first | with_reducible refine thenQ_n ?_ | with_reducible refine blockQ_n ?_ | with_reducible refine thenQ_e ?_ | with_reducible refine blockQ_t ?_ | with_reducible refine blockQ_f (by decide) ?_))))
      all_goals (refine end_to [] [] (by first | exact .inl rfl | exact .inr rfl) rfl (by kernel_rfl) (by kernel_rfl) (by kernel_rfl) ?_ ?_ <;> repeat' (first | exact trivial | exact vr_val _))
  · have he : shE l frs x y pts ≠ 0 := by
      have e3 : shE l frs x y pts = wfE l frs [x, y] := if_neg hw
      rw [e3]; exact hw
    generalize shL l frs x y pts = s at *
    generalize shD l frs x y pts = d at *
    generalize shE l frs x y pts = e at *
    have sp := sameI_ac s s (by omega) (by omega)
    rw [decide_eq_true rfl] at sp
    unfold layD layC at *
    have b1 : (d != d) = false := by simp
    have b2 : (e != e) = false := by simp
    have b5 : (e != 0) = true := by simpa using he
    (have hg : (987654321 : Nat) - 987654321 = 0 := rfl; have hr := hg; repeat' (first | refine aw_seq ?_ | (refine aw_skip ?_; repeat' (first | with_reducible refine thenQ_n ?_ | with_reducible refine blockQ_n ?_ | with_reducible refine thenQ_e ?_ | with_reducible refine blockQ_t ?_ | with_reducible refine blockQ_f (by decide) ?_)) | (refine aw_exit ?_; repeat' (first | with_reducible refine thenQ_n ?_ | with_reducible refine blockQ_n ?_ | with_reducible refine thenQ_e ?_ | with_reducible refine blockQ_t ?_ | with_reducible refine blockQ_f (by decide) ?_)) | refine aw_ret ?_ | refine aw_block ?_ | refine aw_condT rfl ?_ | refine aw_condF rfl ?_ | ((first | refine aw_hide fun K hK => aw_region ?_ | refine acall0 (fa) ?_ | refine acall0 (ow) ?_ | refine acall0 (c1) ?_ | refine acall0 (c2) ?_ | refine acall0 (sp) ?_ | refine acall0 (works_ac) ?_ | refine ago_if (by omega) ?_ | skip); simp (config := {maxSteps := 10000000}) (disch := first | exact okYes (by kernel_rfl) | omega) only [List.length, Nat.zero_add, Nat.reduceAdd, Nat.reduceMul, envOf, dI, ARun_none, AOpRun, aexec, D.isBot, FSt.ev, St.F, ↓eget_h, Bool.false_eq_true, Option.isSome, hget_n, or_self, ↓reduceIte, D.cells, AGo_ok, St.app, putO, eput_c, Nat.reduceBEq, eput_n, cond_false, hups, hput_n, List.map, eget_c, hget_c, hput_c, ARun_nil, dropE_c, inL_n, dropE_n, beq_self_eq_true, cond_true, Nat.reduceLeDiff, List.drop, List.take, dB, inL_c, ↓hget_h, List.all, D.leaf, Bool.and_true, and_self, splice, List.nil_append, List.append_nil, Option.map, run1, List.getElem?_cons_succ, List.getElem?_cons_zero, opt1, Bool.not_true, ARun_some, AG_ff, isSh, abin, bne_self_eq_false, b5, thenQ]) | (subst hK; repeat' (first | with_reducible refine thenQ_n ?_ | with_reducible refine blockQ_n ?_ | with_reducible refine thenQ_e ?_ | with_reducible refine blockQ_t ?_ | with_reducible refine blockQ_f (by decide) ?_))))
    all_goals (refine end_to [] [] (by first | exact .inl rfl | exact .inr rfl) rfl (by kernel_rfl) (by kernel_rfl) (by kernel_rfl) ?_ ?_ <;> repeat' (first | exact trivial | exact vr_val _))
end Go.Proofs.Ytdcodicoclecnaa
/- Arguments opened: what a row needs. No conditions. -/
namespace Go.Proofs.Ytdcodicoclecnaa
open Go.ChangeShapes Go.WideShapes Go.ChangeAt Go.RowKit Go.Joins

theorem Try.own : ownKnob Try.prog.godebug = none := by kernel_rfl
theorem Try.laidOut : laidOutB Try.prog = true := by kernel_rfl
theorem agg_struct {P : Program} {w : World} {r : Reach} {b0 : Nat} {v : Value} {t : TypeId} {fs : Array Field} (ht : P.underlying t = some (.struct fs)) (hv : Value.okWide P w r b0 t v) : ∃ cs, v = .agg cs := by
  cases v <;> first | exact ⟨_, rfl⟩ | (simp [Value.okWide, Cell.okWide, Cell.ok, ht] at hv)
end Go.Proofs.Ytdcodicoclecnaa
