/- Texts of the law RecordWears, part 12. No conditions. -/
import Derived.Test.YtdcodicoclecnaaPRecordWears11
import Derived.Test.YtdcodicoclecnaaRows
import Derived.ProofKit
import Derived.OpenShut
import Derived.ChangeOld
import Derived.Below
import Derived.Lib.SmallJoins
set_option linter.unusedSimpArgs false
set_option linter.unusedVariables false
/- law12: copies, comparisons, what is too large. No conditions. -/
namespace Go.Proofs.Ytdcodicoclecnaa
open Go Go.RowKit Lift

theorem fc_all : ∀ l : List Fl, (flcells l).all isV = true
  | [] => rfl
  | f :: l => by
    have := fc_all l
    unfold flcells at *
    rw [List.flatMap_cons, List.all_append, this]; rfl
theorem fc_leaf : ∀ l : List Fl, (flcells l).all D.leaf = true
  | [] => rfl
  | f :: l => by
    have := fc_leaf l
    unfold flcells at *
    rw [List.flatMap_cons, List.all_append, this]; rfl
set_option maxRecDepth 100000 in
set_option maxHeartbeats 2000000 in
theorem copyL_ac (l : Lay) (hn : l.fl.length ≤ 1000) : AC Try.prog 31 [layD l] [] [] (layD l) := by
  refine kref12_CopyLayout.ac (n0 := 0) (by simp) ⟨in_layD _ _, trivial⟩ trivial rfl ?_
  unfold cref12_CopyLayout layD layC
  have a1 := fls_len l.fl
  have a2 := fls_all l.fl
  have a3 := fls_flat l.fl
  have a4 := fc_leaf l.fl
  refine aw_seq (aw_region ?_)
  simp (disch := first | exact okY | omega) only [ZU, dI, Nat.reduceAdd, Nat.reduceMul, AOpRun, aexec, D.isBot, ↓eget_h, or_self, ↓reduceIte, D.cells, Nat.reduceBEq]
  refine aw_seq (aw_region ?_)
  simp (disch := first | exact okY | omega) only [ZU, Nat.reduceAdd, Nat.reduceMul, AOpRun, aexec, Nat.reduceBEq, ↓eget_h, Nat.reduceLeDiff, ↓reduceIte, List.drop, List.take, ↓hget_h, D.isBot, D.cells, List.all, D.leaf, splice]
  refine aw_seq (aw_region ?_)
  simp (disch := first | exact okY | omega) only [ZU, Nat.reduceAdd, Nat.reduceMul, AOpRun, aexec, Nat.reduceBEq, ↓reduceIte, fillD, ↓eget_h, run1, base, ↓hget_h, Nat.zero_le, List.take, elems, a2, a1, a3, a4, and_true, ups]
  refine ago_if (by omega) ?_
  simp (disch := first | exact okY | omega) only [ZU, Nat.reduceAdd, Nat.reduceBEq, hdel_c, hdel_n, AOpRun, aexec, ↓eget_h, ↓hget_h, D.isBot, D.cells, Nat.reduceLeDiff, List.all, D.leaf, ↓reduceIte, splice, List.take, List.drop]
  refine aw_seq (aw_region ?_)
  simp (disch := first | exact okY | omega) only [ZU, Nat.reduceAdd, Nat.reduceMul, AOpRun, aexec, Nat.reduceBEq, ↓eget_h, ↓hget_h, Nat.reduceLeDiff, ↓reduceIte, List.drop, List.take, D.isBot, D.cells, List.all, D.leaf, splice]
  refine aw_ret ?_
  refine end_q [64] [] ?_ ?_ <;> repeat' (first | exact trivial | exact vr_val _ | apply vr_agg | refine vr_fl _ _ _ _ _ (by decide) rfl ?_ ?_ ?_ ?_ | apply And.intro)
  all_goals first | exact fls_nine _ | exact fls_len _ | exact fls_flat _ | exact vals_in (fc_all _)
set_option maxRecDepth 100000 in
set_option maxHeartbeats 2000000 in
theorem copyF_ac (frs : List (List Int)) (hn : frs.length ≤ 1000) (hm : ∀ k, (frm frs k).length ≤ 1000000) : AC Try.prog 65 [.list (rows frs)] [] [] (.list (rows frs)) := by
  refine kref12_CopyFrames.ac (n0 := 0) (by simp) ⟨.list _, trivial⟩ trivial rfl ?_
  unfold cref12_CopyFrames
  refine aw_seq (aw_region ?_)
  simp (disch := first | exact okY | omega) only [ZU, Nat.reduceMul, AOpRun, aexec, Nat.reduceBEq]
  refine aw_seq (aw_region ?_)
  simp (disch := first | exact okY | omega) only [ZU, Nat.reduceMul, Nat.reduceAdd, AOpRun, aexec, Nat.reduceBEq]
  refine aw_seq (aw_seq (aw_region ?_))
  simp (disch := first | exact okY | omega) only [ZU, Nat.reduceMul, Nat.reduceAdd, AOpRun, aexec, Nat.reduceBEq]
  refine aw_block (aw_loop (fun k : Nat => ⟨[(0, .list (rows frs)), (3, .vec 40 k 1), (4, dI k)], [(40, rcells (frs.take k))], 400⟩) (fun k => k ≤ frs.length) (fun k => frs.length - k) ⟨0, by omega, ?_⟩ ?_)
  · show Wk _ _ ⟨_, [(40, [])], _⟩
    refine wk_q [] [(40, 900)] ?_ ?_ <;> repeat' (first | exact trivial | exact vr_val _ | exact vr_list _ | exact vr_nilv _ _ _ rfl | refine And.intro ⟨_, rfl, .inr ⟨rfl, rfl, of_decide_eq_true (by kernel_rfl)⟩⟩ ?_ | apply And.intro)
  intro k hk
  by_cases hk2 : k < frs.length
  case neg =>
    obtain rfl : k = frs.length := by omega
    have e : frs.take frs.length = frs := List.take_of_length_le (by omega)
    rw [e]
    (have hg : (987654321 : Nat) - 987654321 = 0 := rfl; have hr := hg; repeat' (first | apply aw_seq | ((first | apply aw_skip | apply aw_exit); try simp only [thenQ, blockQ, if_true, if_false, Nat.reduceEqDiff, reduceCtorEq]) | apply aw_ret | apply aw_block | apply aw_condT rfl | apply aw_condF rfl | (refine aw_cond rfl (fun hg => ?_) (fun hg => ?_) <;> (try (have hq := hg; simp only [Bool.not_eq_true', Bool.not_eq_false', Bool.and_eq_true, Bool.and_eq_false_iff, Bool.or_eq_true, Bool.or_eq_false_iff, decide_eq_true_eq, decide_eq_false_iff_not, bne_iff_ne, beq_iff_eq, beq_eq_false_iff_ne, bne_eq_false_iff_eq, ne_eq, Int.not_lt, Int.not_le, Decidable.not_not] at hq)) <;> (try (have hr := hg; simp only [decide_eq_true_eq, decide_eq_false_iff_not] at hr)) <;> (try (exfalso; omega))) | ((first | refine aw_region ?_ | refine ago_if (by omega) ?_ | skip); simp (disch := first | exact okY | omega) only [ZU, dI, Nat.reduceAdd, Nat.reduceMul, AOpRun, aexec, Nat.reduceBEq, ↓eget_h, rows_len, isSh, ↓reduceIte, abin, hr, decide_false])))
    refine end_q [40] [] ?_ ?_ <;> repeat' (first | exact trivial | refine vr_fl _ _ _ _ _ (by decide) rfl ?_ ?_ ?_ ?_)
    all_goals first | exact rows_one _ | exact rows_len _ | exact rows_flat _ | exact rcells_in _
  have g1 := rows_gd frs k hk2
  rw [show frs[k]?.getD [] = frm frs k from rfl] at g1
  have hfl := hm k
  have e : rcells (frs.take (k + 1)) = rcells (frs.take k) ++ [.list (ints (frm frs k))] := by
    unfold rcells
    rw [List.take_add_one, List.map_append]
    simp [hk2, frm]
  have hcin := rcells_in (frs.take (k + 1))
  have hrl : (rcells (frs.take k)).length = k := by rw [rcells_len, List.length_take]; omega
  have hrt : (rcells (frs.take k)).take k = rcells (frs.take k) := List.take_of_length_le (by omega)
  have ki : (k : Int) < (frs.length : Int) := by omega
  rw [e] at hcin
  generalize frm frs k = fr at *
  generalize rcells (frs.take k) = R at *
  refine aw_seq (aw_seq (aw_region ?_))
  simp (disch := first | exact okY | omega) only [ZU, dI, Nat.reduceAdd, Nat.reduceMul, AOpRun, aexec, Nat.reduceBEq, ↓eget_h, rows_len, isSh, ↓reduceIte, abin, ki]
  refine aw_condT rfl (aw_skip ?_)
  refine aw_seq (aw_block ?_)
  refine aw_region_cut [⟨some 11, .mv (.tmp 3), none, []⟩,
            ⟨some 12, .buildSl 1 0 [] [], none, []⟩,
            ⟨some 13, .mv (.tmp 0), none, []⟩,
            ⟨some 14, .mv (.tmp 4), none, []⟩,
            ⟨some 15, .iadS 1 (.tmp 13) (.tmp 14), none, []⟩,
            ⟨some 16, .load1 (.tmp 15), none, []⟩,
            ⟨some 17, .app 1 8 (.tmp 12) (.tmp 16), none, []⟩] [⟨some 18, .buildSl 1 1 [(.val (.slice none 0 0))] [(0, 1, (.tmp 17))], none, []⟩,
            ⟨some 19, .app 1 24 (.tmp 11) (.tmp 18), none, []⟩,
            ⟨some 3, .mv (.tmp 19), none, []⟩] ?_
  simp (disch := first | exact okY | omega) only [ZU, Nat.reduceAdd, Nat.reduceMul, blockQ, AOpRun, aexec, fillD, D.isBot, D.cells, ne_eq, Nat.reduceGT, or_false, splice, List.take, Nat.reduceBEq, ↓eget_h, ↓reduceIte, rows_all, opt1, g1, run1, base, ↓hget_h, Nat.zero_le, elems, ints_all, ints_len, ints_flat, icells_leaf, and_true, ups]
  refine ago_if (by omega) ?_
  simp (disch := first | exact okY | omega) only [ZU, Nat.reduceAdd, Nat.reduceBEq, hdel_c, hdel_n]
  refine ⟨⟨[(0, .list (rows frs)), (4, dI k), (11, .vec 40 k 1), (17, .list (ints fr))], [(40, R)], 600⟩, ?_, of_decide_eq_true (by kernel_rfl), ?_⟩
  · unfold dI
    refine wk_q [480] [(40, 40)] ?_ ?_ <;> repeat' (first | exact trivial | exact vr_val _ | exact vr_list _ | exact vr_vec _ _ _ _ rfl | refine vr_fl _ _ _ _ _ (by decide) rfl ?_ ?_ ?_ ?_ | refine And.intro ⟨_, rfl, .inl ⟨_, rfl, by decide, ?_⟩⟩ ?_ | apply And.intro)
    all_goals first | exact ints_one _ | exact ints_len _ | exact ints_flat _ | exact icells_in _ | (refine vrl_flat _ fun d hd => hcin d ?_; simp [hd])
  simp (disch := first | exact okY | omega) only [ZU, Nat.reduceSub, Nat.reduceAdd, Nat.reduceBEq, ↓reduceIte, dI, ↓eget_h, not_true_eq_false, or_self, List.drop, AOpRun, aexec, base, Nat.mul_one, hrl, Nat.le_refl, hrt, elems, ↓hget_h, List.take, Nat.reduceMul, List.all, D.leaf, and_true, ups]
  refine ago_if (by omega) ?_
  simp (disch := first | exact okY | omega) only [ZU, Nat.reduceAdd, Nat.reduceBEq, hdel_c, hdel_n, AOpRun, aexec, ↓eget_h]
  refine aw_region ?_
  simp (disch := first | exact okY | omega) only [ZU, Nat.reduceAdd, Nat.reduceMul, AOpRun, aexec, Nat.reduceBEq, ↓eget_h, isSh, ↓reduceIte, abin, fits]
  refine ⟨k + 1, by omega, by omega, ?_⟩
  rw [e]
  refine wk_q [] [(40, 608)] ?_ ?_ <;> repeat' (first | exact trivial | exact vr_val _ | exact vr_list _ | exact vr_vec _ _ _ _ rfl | refine And.intro ⟨_, rfl, .inl ⟨_, rfl, by decide, ?_⟩⟩ ?_ | apply And.intro | exact vrl_flat _ (by first | exact icells_in _ | exact rcells_in _ | exact scells_in _ | exact bcells_in _ | assumption) | fail)
  all_goals exact vrl_flat _ hcin
def tpD (l : Lay) (frs : List (List Int)) : D := .agg [dI l.words, dI l.s0, dI l.s1, dI l.s2, dI l.s3, .list (fls l.fl), .list (rows frs)]
theorem in_tpD (S : Nat → Prop) (l : Lay) (frs : List (List Int)) : In S (tpD l frs) := .agg _ (vals_in rfl)
set_option maxRecDepth 100000 in
set_option maxHeartbeats 2000000 in
theorem own_ac (l : Lay) (frs : List (List Int)) (h1 : l.fl.length ≤ 1000) (hn : frs.length ≤ 1000) (hm : ∀ k, (frm frs k).length ≤ 1000000) : AC Try.prog 17 [tpD l frs] [] [] (tpD l frs) := by
  refine klaw12_own.ac (n0 := 0) (by simp) ⟨in_tpD _ _ _, trivial⟩ trivial rfl ?_
  have c1 := copyL_ac l h1
  have c2 := copyF_ac frs hn hm
  unfold claw12_own
  unfold tpD
  unfold layD layC at c1
  (repeat' (first | apply aw_seq | ((first | apply aw_skip | apply aw_exit); try simp only [thenQ, blockQ, if_true, if_false, Nat.reduceEqDiff, reduceCtorEq]) | apply aw_ret | apply aw_block | apply aw_condT rfl | apply aw_condF rfl | ((first | refine aw_region ?_ | refine acall0 (c1) ?_ | refine acall0 (c2) ?_ | refine ago_if (by omega) ?_ | skip); simp (disch := first | exact okY | omega) only [ZU, dI, Nat.reduceAdd, Nat.reduceMul, AOpRun, aexec, D.isBot, ↓eget_h, or_self, ↓reduceIte, D.cells, Nat.reduceBEq, Nat.reduceLeDiff, List.drop, List.take, run1, fillD, ne_eq, not_true_eq_false, Nat.reduceGT, splice, ↓hget_h, List.all, D.leaf])))
  all_goals (refine end_q [] [] ?_ ?_ <;> repeat' (first | exact trivial | exact vr_val _ | exact vr_list _ | apply vr_agg | apply And.intro))
def farTp (l : Lay) (frs : List (List Int)) : Bool := decide ((l.fl.length : Int) > 20) || decide ((frs.length : Int) > 220) || frs.any fun f => decide ((f.length : Int) > 50)
theorem far_small {l : Lay} {frs : List (List Int)} (h : farTp l frs = false) : l.fl.length ≤ 20 ∧ frs.length ≤ 220 ∧ ∀ k, (frm frs k).length ≤ 50 := by
  unfold farTp at h
  simp only [Bool.or_eq_false_iff, decide_eq_false_iff_not, List.any_eq_false] at h
  obtain ⟨⟨h1, h2⟩, h3⟩ := h
  refine ⟨by omega, by omega, fun k => ?_⟩
  unfold frm
  by_cases hk : k < frs.length
  · have := h3 _ (List.getElem_mem hk)
    simp [hk] at this ⊢
    omega
  · simp [List.getElem?_eq_none (by omega : frs.length ≤ k)]
set_option maxRecDepth 100000 in
set_option maxHeartbeats 2000000 in
theorem far_ac (l : Lay) (frs : List (List Int)) (m1 : l.fl.length ≤ maxLen) (m2 : frs.length ≤ maxLen) (m3 : ∀ k, (frm frs k).length ≤ maxLen) : AC Try.prog 15 [tpD l frs] [] [] (dB (farTp l frs)) := by
  refine klaw12_Far.ac (n0 := 0) (by simp) ⟨in_tpD _ _ _, trivial⟩ trivial rfl ?_
  unfold claw12_Far tpD farTp
  have hmax : maxLen = 9223372036854775807 := rfl
  cases q1 : decide ((l.fl.length : Int) > 20) with
  | true =>
    simp only [Bool.true_or]
    (repeat' (first | apply aw_seq | ((first | apply aw_skip | apply aw_exit); try simp only [thenQ, blockQ, if_true, if_false, Nat.reduceEqDiff, reduceCtorEq]) | apply aw_ret | apply aw_block | apply aw_condT rfl | apply aw_condF rfl | ((first | refine aw_region ?_ | refine ago_if (by omega) ?_ | skip); simp (disch := first | exact okY | omega) only [ZU, dB, Nat.reduceAdd, Nat.reduceMul, dI, AOpRun, aexec, D.isBot, ↓eget_h, or_self, ↓reduceIte, D.cells, Nat.reduceBEq, run1, fls_len, isSh, abin, q1, ARun_some, AG_tf])))
    all_goals (refine end_q [] [] ?_ ?_ <;> repeat' (first | exact trivial | exact vr_val _))
  | false =>
  cases q2 : decide ((frs.length : Int) > 220) with
  | true =>
    simp only [Bool.true_or, Bool.or_true]
    (repeat' (first | apply aw_seq | ((first | apply aw_skip | apply aw_exit); try simp only [thenQ, blockQ, if_true, if_false, Nat.reduceEqDiff, reduceCtorEq]) | apply aw_ret | apply aw_block | apply aw_condT rfl | apply aw_condF rfl | ((first | refine aw_region ?_ | refine ago_if (by omega) ?_ | skip); simp (disch := first | exact okY | omega) only [ZU, dB, Nat.reduceAdd, Nat.reduceMul, dI, AOpRun, aexec, D.isBot, ↓eget_h, or_self, ↓reduceIte, D.cells, Nat.reduceBEq, run1, fls_len, isSh, abin, q1, ARun_some, AG_ff, rows_len, q2])))
    all_goals (refine end_q [] [] ?_ ?_ <;> repeat' (first | exact trivial | exact vr_val _))
  | false =>
  simp only [Bool.or_self, Bool.false_or]
  refine aw_seq (aw_region ?_)
  simp (disch := first | exact okY | omega) only [ZU, Nat.reduceAdd, Nat.reduceMul, dI, AOpRun, aexec, D.isBot, ↓eget_h, or_self, ↓reduceIte, D.cells, Nat.reduceBEq]
  refine aw_seq (aw_seq (aw_region ?_))
  simp (disch := first | exact okY | omega) only [ZU, Nat.reduceAdd, Nat.reduceMul, AOpRun, aexec, Nat.reduceBEq, ↓eget_h, run1, fls_len, isSh, ↓reduceIte, abin, q1, ARun_some, AG_ff, rows_len, q2]
  refine aw_condF rfl (aw_skip ?_)
  refine aw_seq (aw_seq (aw_region ?_))
  simp (disch := first | exact okY | omega) only [ZU, Nat.reduceMul, Nat.reduceAdd, AOpRun, aexec, Nat.reduceBEq]
  refine aw_block (aw_loop (fun k : Nat => ⟨[(1, .ptr 0 0), (3, dI k)], [(0, [dI l.words, dI l.s0, dI l.s1, dI l.s2, dI l.s3, .list (fls l.fl), .list (rows frs)])], 400⟩) (fun k => k ≤ frs.length ∧ ∀ j, j < k → decide (((frm frs j).length : Int) > 50) = false) (fun k => frs.length - k) ⟨0, ⟨by omega, fun j hj => by omega⟩, ?_⟩ ?_)
  · unfold dI
    refine wk_q [] [(0, 0)] ?_ ?_ <;> repeat' (first | exact trivial | exact vr_val _ | exact vr_list _ | exact vr_ptr _ _ _ rfl | refine And.intro ⟨_, rfl, .inl ⟨_, rfl, by decide, ?_⟩⟩ ?_ | apply And.intro)
  rintro k ⟨hk, hin⟩
  have hm := m3 k
  by_cases hk2 : k < frs.length
  case neg =>
    obtain rfl : k = frs.length := by omega
    have e : frs.any (fun f => decide ((f.length : Int) > 50)) = false := List.any_eq_false.2 fun x hx => by
      obtain ⟨j, hj, rfl⟩ := List.getElem_of_mem hx
      have := hin j hj
      simp only [frm, hj, List.getElem?_eq_getElem, Option.getD_some] at this
      rw [this]; simp
    rw [e]
    (have hg : (987654321 : Nat) - 987654321 = 0 := rfl; have hr := hg; repeat' (first | apply aw_seq | ((first | apply aw_skip | apply aw_exit); try simp only [thenQ, blockQ, if_true, if_false, Nat.reduceEqDiff, reduceCtorEq]) | apply aw_ret | apply aw_block | apply aw_condT rfl | apply aw_condF rfl | (refine aw_cond rfl (fun hg => ?_) (fun hg => ?_) <;> (try (have hq := hg; simp only [Bool.not_eq_true', Bool.not_eq_false', Bool.and_eq_true, Bool.and_eq_false_iff, Bool.or_eq_true, Bool.or_eq_false_iff, decide_eq_true_eq, decide_eq_false_iff_not, bne_iff_ne, beq_iff_eq, beq_eq_false_iff_ne, bne_eq_false_iff_eq, ne_eq, Int.not_lt, Int.not_le, Decidable.not_not] at hq)) <;> (try (have hr := hg; simp only [decide_eq_true_eq, decide_eq_false_iff_not] at hr)) <;> (try (exfalso; omega))) | ((first | refine aw_region ?_ | refine ago_if (by omega) ?_ | skip); simp (disch := first | exact okY | omega) only [ZU, dI, dB, Nat.reduceAdd, Nat.reduceMul, AOpRun, aexec, Nat.reduceBEq, ↓eget_h, run1, rows_len, isSh, ↓reduceIte, abin, hr, decide_false])))
    all_goals (refine end_q [] [] ?_ ?_ <;> repeat' (first | exact trivial | exact vr_val _))
  have g1 := rows_gd frs k hk2
  rw [show frs[k]?.getD [] = frm frs k from rfl] at g1
  cases he : decide (((frm frs k).length : Int) > 50) with
  | true =>
    have e : frs.any (fun f => decide ((f.length : Int) > 50)) = true := List.any_eq_true.2 ⟨frs[k], List.getElem_mem hk2, by
      simp only [frm, hk2, List.getElem?_eq_getElem, Option.getD_some] at he
      exact he⟩
    rw [e]
    (have hg : (987654321 : Nat) - 987654321 = 0 := rfl; have hr := hg; repeat' (first | apply aw_seq | ((first | apply aw_skip | apply aw_exit); try simp only [thenQ, blockQ, if_true, if_false, Nat.reduceEqDiff, reduceCtorEq]) | apply aw_ret | apply aw_block | apply aw_condT rfl | apply aw_condF rfl | (refine aw_cond rfl (fun hg => ?_) (fun hg => ?_) <;> (try (have hq := hg; simp only [Bool.not_eq_true', Bool.not_eq_false', Bool.and_eq_true, Bool.and_eq_false_iff, Bool.or_eq_true, Bool.or_eq_false_iff, decide_eq_true_eq, decide_eq_false_iff_not, bne_iff_ne, beq_iff_eq, beq_eq_false_iff_ne, bne_eq_false_iff_eq, ne_eq, Int.not_lt, Int.not_le, Decidable.not_not] at hq)) <;> (try (have hr := hg; simp only [decide_eq_true_eq, decide_eq_false_iff_not] at hr)) <;> (try (exfalso; omega))) | ((first | refine aw_region ?_ | refine ago_if (by omega) ?_ | skip); simp (disch := first | exact okY | omega) only [ZU, dI, dB, Nat.reduceAdd, Nat.reduceMul, AOpRun, aexec, Nat.reduceBEq, ↓eget_h, run1, rows_len, isSh, ↓reduceIte, abin, hr, rows_all, opt1, g1, ints_len, he, blockQ])))
    all_goals (refine end_q [] [] ?_ ?_ <;> repeat' (first | exact trivial | exact vr_val _))
  | false =>
    (have hg : (987654321 : Nat) - 987654321 = 0 := rfl; have hr := hg; repeat' (first | apply aw_seq | ((first | apply aw_skip | apply aw_exit); try simp only [thenQ, blockQ, if_true, if_false, Nat.reduceEqDiff, reduceCtorEq]) | apply aw_ret | apply aw_block | apply aw_condT rfl | apply aw_condF rfl | (refine aw_cond rfl (fun hg => ?_) (fun hg => ?_) <;> (try (have hq := hg; simp only [Bool.not_eq_true', Bool.not_eq_false', Bool.and_eq_true, Bool.and_eq_false_iff, Bool.or_eq_true, Bool.or_eq_false_iff, decide_eq_true_eq, decide_eq_false_iff_not, bne_iff_ne, beq_iff_eq, beq_eq_false_iff_ne, bne_eq_false_iff_eq, ne_eq, Int.not_lt, Int.not_le, Decidable.not_not] at hq)) <;> (try (have hr := hg; simp only [decide_eq_true_eq, decide_eq_false_iff_not] at hr)) <;> (try (exfalso; omega))) | ((first | refine aw_region ?_ | refine ago_if (by omega) ?_ | skip); simp (disch := first | exact okY | omega) only [ZU, dI, dB, Nat.reduceAdd, Nat.reduceMul, AOpRun, aexec, Nat.reduceBEq, ↓eget_h, run1, rows_len, isSh, ↓reduceIte, abin, hr, rows_all, opt1, g1, ints_len, he, fits])))
    refine ⟨k + 1, ⟨by omega, fun j hj => ?_⟩, by omega, ?_⟩
    · rcases (by omega : j < k ∨ j = k) with h | rfl
      · exact hin j h
      · exact he
    · refine wk_q [] [(0, 0)] ?_ ?_ <;> repeat' (first | exact trivial | exact vr_val _ | exact vr_list _ | exact vr_ptr _ _ _ rfl | refine And.intro ⟨_, rfl, .inl ⟨_, rfl, by decide, ?_⟩⟩ ?_ | apply And.intro)
end Go.Proofs.Ytdcodicoclecnaa
/- The document of record: Peak; pairs compared. No conditions. -/
namespace Go.Proofs.Ytdcodicoclecnaa
open Go Go.RowKit Lift

theorem readR_len {l : Lay} {frs : List (List Int)} {x : Int} : (readR l frs x).length ≤ 200 := by
  unfold readR
  split
  · rename_i h
    obtain ⟨_, h2, _⟩ := wfE_ok h
    have := smps_len l (fAt l x.toNat) frs frs.length
    omega
  · simp
end Go.Proofs.Ytdcodicoclecnaa
/- record: Wear; the document's Wear (a reference to a yield, .yref, lies in memory; views last). No conditions. -/
namespace Go.Proofs.Ytdcodicoclecnaa
open Go.RowKit Lift

def weV (l : Lay) (frs : List (List Int)) (x : Int) : List Int := smV l (fAt l x.toNat) frs frs.length
noncomputable def weD (l : Lay) (frs : List (List Int)) (x : Int) (st : List (Int × Int)) : Int := if wfE l frs [x] = 0 then dmV (weV l frs x) st else 0
noncomputable def weE (l : Lay) (frs : List (List Int)) (x : Int) (st : List (Int × Int)) : Int := if wfE l frs [x] = 0 then dmE (weV l frs x) st else wfE l frs [x]
theorem weV_len (l : Lay) (frs : List (List Int)) (x : Int) : (weV l frs x).length ≤ frs.length := by unfold weV; rw [smV_len]; exact smps_len _ _ _ _
set_option maxRecDepth 100000 in
set_option maxHeartbeats 8000000 in
theorem wear_ok (l : Lay) (frs : List (List Int)) (k : Nat) (st : List (Int × Int)) (hl : LayIn l) (h1 : LayOk l) (h2 : frs.length ≤ 200) (hf : FrIn frs) (hk : k < l.fl.length) (hst : st.length ≤ 1000000) :
    AC Try.prog 58 [layD l, .list (rows frs), dI k, .list (sps st)] [] [] (.tup [dI (dmV (smV l (fAt l k) frs frs.length) st), dI (dmE (smV l (fAt l k) frs frs.length) st)]) := by
  refine krecord_Wear.ac (n0 := 0) (by simp) ⟨in_layD _ _, .list _, .val _, .list _, trivial⟩ trivial rfl ?_
  unfold crecord_Wear layD layC
  have hh : hasA l [(k : Int)] = true := by rw [hasA_one]; exact wI_y (by omega) (by omega)
  have nt := withField_ok l frs [(k : Int)] hl h1 h2 hf (Nat.le_of_ble_eq_true rfl) hh
  have sa := samples_ac l frs k hk (by have := h1.nf; omega)
  have hfo := fAt_ok h1 hk
  have cd := damage_ac (smV l (fAt l k) frs frs.length) st (by rw [smV_len]; have := smps_len l (fAt l k) frs frs.length; omega) hst
  generalize fAt l k = f at *
  refine aw_seq (aw_region ?_)
  simp (disch := first | exact okY | omega) only [ZU, dI, Nat.reduceAdd, Nat.reduceMul, AOpRun, aexec, D.isBot, ↓eget_h, or_self, ↓reduceIte, D.cells, Nat.reduceBEq]
  refine aw_seq (aw_region_cut [⟨some 16, .loadN 6 (.tmp 4), none, []⟩,
     ⟨some 17, .mv (.tmp 1), none, []⟩,
     ⟨some 18, .mv (.tmp 2), none, []⟩,
     ⟨some 19, .buildSl 1 1 [(.val (.int .i64 0))] [(0, 1, (.tmp 18))], none, []⟩]
     [⟨some 20, .call (.func 66) [(.tmp 16), (.tmp 17), (.tmp 19)], none, []⟩,
     ⟨some 15, .mv (.tmp 20), none, []⟩,
     ⟨some 21, .ext (.tmp 15) 0, none, []⟩,
     ⟨some 22, .ext (.tmp 15) 1, none, []⟩,
     ⟨some 10, .mv (.tmp 21), none, []⟩,
     ⟨some 11, .mv (.tmp 22), none, []⟩] ?_)
  simp (disch := first | exact okY | omega) only [ZU, Nat.reduceAdd, Nat.reduceMul, AOpRun, aexec, Nat.reduceBEq, ↓eget_h, Nat.reduceLeDiff, ↓reduceIte, List.drop, List.take, fillD, D.isBot, D.cells, ne_eq, not_true_eq_false, Nat.reduceGT, or_self, splice]
  refine ⟨⟨[(2, dI k), (3, .list (sps st)), (16, layD l), (17, .list (rows frs)), (19, .list (ints [(k : Int)]))], [], 96⟩, ?_, of_decide_eq_true (by kernel_rfl), ?_⟩
  · unfold layD layC dI
    refine wk_q [48] [] ?_ ?_ <;> repeat' (first | exact trivial | exact vr_val _ | exact vr_list _ | apply vr_agg | refine vr_fl _ _ _ _ _ (by decide) rfl ?_ ?_ ?_ ?_ | apply And.intro)
    all_goals first | exact ints_one _ | exact ints_len _ | exact ints_flat _ | exact icells_in _ | exact icells_in [(k : Int)]
  simp (disch := first | exact okY | omega) only [ZU, Nat.reduceSub, Nat.reduceAdd, Nat.reduceBEq, ↓eget_h]
  refine acallB nt (by repeat' (first | exact trivial | exact rfl | refine And.intro ?_ ?_)) (by kernel_rfl) (by kernel_rfl) (by kernel_rfl) ?_
  simp (disch := first | exact okY | omega) only [ZU, Nat.reduceAdd, dI, Nat.reduceBEq, AOpRun, aexec, ↓eget_h, opt1]
  refine aw_seq (aw_seq (aw_region ?_))
  simp (disch := first | exact okY | omega) only [ZU, Nat.reduceAdd, Nat.reduceMul, AOpRun, aexec, Nat.reduceBEq, ↓eget_h, isSh, ↓reduceIte, abin, bne_self_eq_false]
  refine aw_condF rfl (aw_skip ?_)
  refine aw_seq (aw_region ?_)
  simp (disch := first | exact okY | omega) only [ZU, Nat.reduceMul, Nat.reduceAdd, AOpRun, aexec, Nat.reduceBEq, ↓reduceIte]
  refine aw_wk (s' := ⟨[(2, dI k), (3, .list (sps st)), (10, .ptr 96 0), (12, .ptr 8 0)], [(96, tpC l frs), (8, [.vec 24 0 1]), (24, icells [])], 104⟩) ?_ ?_
  · unfold dI
    refine wk_q [] [(8, 160), (24, 900), (96, 96)] ?_ ?_ <;> repeat' (first | exact trivial | exact vr_val _ | exact vr_list _ | exact vr_ptr _ _ _ rfl | exact vr_nilv _ _ _ rfl | refine And.intro ⟨_, rfl, .inl ⟨_, rfl, by decide, ?_⟩⟩ ?_ | refine And.intro ⟨_, rfl, .inr ⟨rfl, rfl, of_decide_eq_true (by kernel_rfl)⟩⟩ ?_ | apply And.intro)
    all_goals exact tpC_in _ _ _
  refine aw_seq (aw_seq (aw_region ?_))
  simp (disch := first | exact okY | omega) only [ZU, Nat.reduceAdd, Nat.reduceMul, dI, AOpRun, aexec, Nat.reduceBEq, ↓eget_h]
  refine acallB sa (by repeat' (first | exact trivial | exact rfl | refine And.intro ?_ ?_)) (by kernel_rfl) (by kernel_rfl) (by kernel_rfl) ?_
  simp (disch := first | exact okY | omega) only [ZU, Nat.reduceAdd, Nat.reduceBEq]
  refine aw_wk (s' := ⟨[(3, .list (sps st)), (12, .ptr 8 0), (28, .fn 113 [] [.ptr 120 0, .ptr 121 0])], [(96, tpC l frs), (120, [.ptr 96 0]), (121, flC f), (8, [.vec 24 0 1]), (24, icells [])], 800⟩) ?_ ?_
  · refine wk_q [] [(8, 8), (24, 24), (96, 96), (120, 120), (121, 121)] ?_ ?_ <;> repeat' (first | exact trivial | exact vr_val _ | exact vr_list _ | exact vr_vec _ _ _ _ rfl | exact vr_ptr _ _ _ rfl | apply vr_fn | refine And.intro ⟨_, rfl, .inl ⟨_, rfl, by decide, ?_⟩⟩ ?_ | apply And.intro)
    all_goals first | exact tpC_in _ _ _ | exact flC_in _ _
  refine aw_block (aw_range [8, 96, 120, 121] [(3, .list (sps st)), (12, .ptr 8 0)] [.bot, .bot, .bot, .bot, .bot, .bot, .bot, .bot, .bot, .bot, .bot, .bot, .ptr 8 0] kprecord_tape_samples_S1 rfl (by simp) ⟨.inl rfl, .inl rfl, .inl rfl, .inl rfl, .inl rfl, .inl rfl, .inl rfl, .inl rfl, .inl rfl, .inl rfl, .inl rfl, .inl rfl, .inr rfl, trivial⟩ rfl rfl (by simp) ⟨.inr ⟨rfl, .list _⟩, .inr ⟨rfl, .ptr _ _ (by simp)⟩, trivial⟩ (fun r hr => ?_))
  refine samples_hit hr rfl l frs h2 h1 f hfo hf [8, 96, 120, 121] (by decide) [.bot, .bot, .bot, .bot, .bot, .bot, .bot, .bot, .bot, .bot, .bot, .bot, .ptr 8 0] rfl (by intro d hd; simp at hd; rcases hd with rfl | rfl; exact .bot; exact .ptr _ _ (by simp)) (by simp) (by simp) (by simp) (fun i => [(8, [.vec 24 (smV l f frs i).length 1]), (24, icells (smV l f frs i))]) (fun i => icV_low 800 8 24 _ _ (by decide) (by decide) .nil) (fun i hi hs => ?_) (fun i v hi hs => ?_) ?_
  · have e1 : smV l f frs (i + 1) = smV l f frs i := by unfold smV; rw [smps_succ, hs]; simp
    simp only [e1]
  · have hvl := smV_len l f frs i
    have hgl := smps_len l f frs i
    have e1 : smV l f frs (i + 1) = smV l f frs i ++ [v] := by unfold smV; rw [smps_succ, hs]; simp
    rw [e1]
    generalize smV l f frs i = L at *
    rw [← ic_app L v]
    have hic : (icells L).length = L.length := icells_len L
    have hit : (icells L).take L.length = icells L := ic_take L _ rfl
    have hcin : ∀ y ∈ icells L ++ [.val (.int .i64 v)], In (fun _ => False) y := by rw [ic_app]; exact icells_in _
    have hlen : (L ++ [v]).length = L.length + 1 := by simp
    rw [hlen]
    unfold crecord_Wear_B29 smH
    refine aw_block (aw_region ?_)
    simp (disch := first | exact okY | omega) only [ZU, blockQ, Nat.reduceAdd, Nat.reduceMul, true_and, bodyE, asgE, parE, dI, Nat.reduceBEq, ↓eget_h, AOpRun, aexec, run1, ↓hget_h, ↓reduceIte, fillD, D.isBot, D.cells, ne_eq, not_true_eq_false, Nat.reduceGT, or_self, splice, List.take, List.drop, base, Nat.mul_one, hic, Nat.le_refl, hit, elems, List.all, D.leaf, and_true, ups]
    refine ago_if (by omega) ?_
    simp (disch := first | exact okY | omega) only [ZU, Nat.reduceAdd, Nat.reduceBEq, hdel_c, hdel_n, AOpRun, aexec, ↓eget_h, ↓hget_h, D.isBot, D.cells, Nat.reduceLeDiff, List.all, D.leaf, ↓reduceIte, splice, List.take, List.drop]
    try refine ⟨rfl, ?_⟩
    refine wk_q [] [(8, 8), (24, 1524), (96, 96), (120, 120), (121, 121), (800, 800), (808, 808), (1000, 1000)] ?_ ?_ <;> repeat' (first | exact trivial | exact vr_val _ | exact vr_list _ | exact vr_vec _ _ _ _ rfl | exact vr_ptr _ _ _ rfl | refine And.intro ⟨_, rfl, .inl ⟨_, rfl, by decide, ?_⟩⟩ ?_ | apply And.intro | exact vr_yrefs _ _ rfl | exact vrl_flat _ (by first | exact icells_in _ | exact rcells_in _ | exact scells_in _ | exact bcells_in _ | assumption) | fail)
    all_goals first | exact tpC_in _ _ _ | exact flC_in _ _ | exact vrl_flat _ hcin | assumption
  · generalize smV l f frs frs.length = L at *
    unfold smH
    simp only [blockQ, thenQ]
    refine aw_wk (s' := ⟨[(3, .list (sps st)), (12, .ptr 8 0)], [(8, [.list (ints L)])], 2000⟩) ?_ ?_
    · refine wk_q [24] [(8, 8)] ?_ ?_ <;> repeat' (first | exact trivial | exact vr_list _ | exact vr_ptr _ _ _ rfl | refine vr_fl _ _ _ _ _ (by decide) rfl ?_ ?_ ?_ ?_ | refine And.intro ⟨_, rfl, .inl ⟨_, rfl, by decide, ?_⟩⟩ ?_ | apply And.intro)
      all_goals first | exact ints_one _ | exact ints_len _ | exact ints_flat _ | exact icells_in _ | (rw [Nat.mul_one, ic_take L _ rfl]; exact ints_flat _)
    generalize dmV L st = V at *
    generalize dmE L st = W at *
    (repeat' (first | (with_reducible first | refine thenQ_n ?_ | refine blockQ_n ?_ | refine thenQ_e ?_ | refine blockQ_t ?_ | refine blockQ_f (by decide) ?_) | apply aw_seq | apply aw_skip | apply aw_exit | apply aw_ret | apply aw_block | apply aw_condT rfl | apply aw_condF rfl | ((first | refine aw_hide fun K hK => aw_region ?_ | refine acall0 (cd) ?_ | refine ago_if (by omega) ?_ | skip); simp (disch := first | exact okY | omega) only [ZU, Nat.reduceAdd, Nat.reduceMul, AOpRun, aexec, run1, Nat.reduceBEq, ↓eget_h, dI, opt1]) | subst hK))
    (refine end_q [] [] ?_ ?_ <;> repeat' (first | exact trivial | exact vr_val _ | apply vr_tup | apply And.intro))
set_option maxRecDepth 100000 in
set_option maxHeartbeats 4000000 in
theorem wear_err (l : Lay) (frs : List (List Int)) (x : Int) (st : List (Int × Int)) (hl : LayIn l) (he : wfE l frs [x] ≠ 0) (hf : FrIn frs) : AC Try.prog 58 [layD l, .list (rows frs), dI x, .list (sps st)] [] [] (.tup [dI 0, dI (wfE l frs [x])]) := by
  refine krecord_Wear.ac (n0 := 0) (by simp) ⟨in_layD _ _, .list _, .val _, .list _, trivial⟩ trivial rfl ?_
  unfold crecord_Wear layD layC
  have nt := withField_err l frs [x] hl hf (Nat.le_of_ble_eq_true rfl) he
  have h1 : (wfE l frs [x] != 0) = true := by simpa using he
  generalize wfE l frs [x] = E at *
  refine aw_seq (aw_region ?_)
  simp (disch := first | exact okY | omega) only [ZU, dI, Nat.reduceAdd, Nat.reduceMul, AOpRun, aexec, D.isBot, ↓eget_h, or_self, ↓reduceIte, D.cells, Nat.reduceBEq]
  refine aw_seq (aw_region ?_)
  simp (disch := first | exact okY | omega) only [ZU, Nat.reduceAdd, Nat.reduceMul, AOpRun, aexec, Nat.reduceBEq, ↓eget_h, Nat.reduceLeDiff, ↓reduceIte, List.drop, List.take, fillD, D.isBot, D.cells, ne_eq, not_true_eq_false, Nat.reduceGT, or_self, splice]
  refine acall nt [48] ⟨.refl _, .refl _, vec_ints [x] (by simp) rfl rfl, trivial⟩ (.inr (.tup _ (by intro d hd; simp at hd; rcases hd with rfl | rfl <;> exact .val _))) (by intro g hg; simp at hg; subst hg; exact ⟨_, rfl⟩) (by kernel_rfl) ?_
  simp (disch := first | exact okY | omega) only [ZU, Nat.reduceAdd, dI, Nat.reduceBEq, AOpRun, aexec, ↓eget_h, opt1]
  (repeat' (first | (with_reducible first | refine thenQ_n ?_ | refine blockQ_n ?_ | refine thenQ_e ?_ | refine blockQ_t ?_ | refine blockQ_f (by decide) ?_) | apply aw_seq | apply aw_skip | apply aw_exit | apply aw_ret | apply aw_block | apply aw_condT rfl | apply aw_condF rfl | ((first | refine aw_hide fun K hK => aw_region ?_ | refine ago_if (by omega) ?_ | skip); simp (disch := first | exact okY | omega) only [ZU, Nat.reduceAdd, Nat.reduceMul, AOpRun, aexec, Nat.reduceBEq, ↓eget_h, isSh, ↓reduceIte, abin, h1]) | subst hK))
  (refine end_q [] [] ?_ ?_ <;> repeat' (first | exact trivial | exact vr_val _ | apply vr_tup | apply And.intro))
theorem wear_ac (l : Lay) (frs : List (List Int)) (x : Int) (st : List (Int × Int)) (hl : LayIn l) (hf : FrIn frs) (hst : st.length ≤ 1000000) : AC Try.prog 58 [layD l, .list (rows frs), dI x, .list (sps st)] [] [] (.tup [dI (weD l frs x st), dI (weE l frs x st)]) := by
  unfold weD weE
  by_cases h : wfE l frs [x] = 0
  · obtain ⟨h1, h2, _, k, rfl, hk⟩ := wfE_ok h
    rw [if_pos h, if_pos h]
    unfold weV
    rw [Int.toNat_natCast]
    exact wear_ok l frs k st hl h1 h2 hf hk hst
  · rw [if_neg h, if_neg h]
    exact wear_err l frs x st hl h hf
theorem readR_map {l : Lay} {frs : List (List Int)} {x : Int} (h : wfE l frs [x] = 0) : (readR l frs x).map (·.2) = weV l frs x := by
  unfold readR weV
  rw [if_pos h]; rfl
set_option maxRecDepth 100000 in
set_option maxHeartbeats 4000000 in
theorem rwear_ac (l : Lay) (frs : List (List Int)) (x : Int) (st : List (Int × Int)) (hl : LayIn l) (hf : FrIn frs) (hst : st.length ≤ 1000000) : AC Try.prog 59 [layD l, .list (rows frs), dI x, .list (sps st)] [] [] (.tup [dI (weD l frs x st), dI (weE l frs x st)]) := by
  refine kref12_Wear.ac (n0 := 0) (by simp) ⟨in_layD _ _, .list _, .val _, .list _, trivial⟩ trivial rfl ?_
  unfold cref12_Wear layD layC weD weE
  have cr := rread_ac l frs x hl hf
  have hrl := readR_len (l := l) (frs := frs) (x := x)
  have hwl := weV_len l frs x
  by_cases h : wfE l frs [x] = 0
  case neg =>
    have q : (wfE l frs [x] != 0) = true := by simpa using h
    rw [if_neg h, if_neg h]
    unfold layD layC at cr
    generalize wfE l frs [x] = E at *
    (repeat' (first | (with_reducible first | refine thenQ_n ?_ | refine blockQ_n ?_ | refine thenQ_e ?_ | refine blockQ_t ?_ | refine blockQ_f (by decide) ?_) | apply aw_seq | apply aw_skip | apply aw_exit | apply aw_ret | apply aw_block | apply aw_condT rfl | apply aw_condF rfl | ((first | refine aw_hide fun K hK => aw_region ?_ | refine acall0 (cr) ?_ | refine ago_if (by omega) ?_ | skip); simp (disch := first | exact okY | omega) only [ZU, Nat.reduceAdd, Nat.reduceMul, dI, AOpRun, aexec, D.isBot, ↓eget_h, or_self, ↓reduceIte, D.cells, Nat.reduceBEq, Nat.reduceLeDiff, List.drop, List.take, opt1, isSh, abin, q]) | subst hK))
    (refine end_q [] [] ?_ ?_ <;> repeat' (first | exact trivial | exact vr_val _ | apply vr_tup | apply And.intro))
  obtain ⟨h1, h2, _⟩ := wfE_ok h
  rw [if_pos h, if_pos h]
  rw [h] at cr
  have cs := rseries_ac (readR l frs x) (by omega)
  rw [readR_map h] at cs
  have cd := rdamage_ac (weV l frs x) st (by omega) hst
  unfold layD layC at cr
  generalize dmV (weV l frs x) st = V at *
  generalize dmE (weV l frs x) st = W at *
  (repeat' (first | (with_reducible first | refine thenQ_n ?_ | refine blockQ_n ?_ | refine thenQ_e ?_ | refine blockQ_t ?_ | refine blockQ_f (by decide) ?_) | apply aw_seq | apply aw_skip | apply aw_exit | apply aw_ret | apply aw_block | apply aw_condT rfl | apply aw_condF rfl | ((first | refine aw_hide fun K hK => aw_region ?_ | refine acall0 (cr) ?_ | refine acall0 (cs) ?_ | refine acall0 (cd) ?_ | refine ago_if (by omega) ?_ | skip); simp (disch := first | exact okY | omega) only [ZU, Nat.reduceAdd, Nat.reduceMul, dI, AOpRun, aexec, D.isBot, ↓eget_h, or_self, ↓reduceIte, D.cells, Nat.reduceBEq, Nat.reduceLeDiff, List.drop, List.take, opt1, isSh, abin, bne_self_eq_false]) | subst hK))
  (refine end_q [] [] ?_ ?_ <;> repeat' (first | exact trivial | exact vr_val _ | apply vr_tup | apply And.intro))
end Go.Proofs.Ytdcodicoclecnaa
/- The good frames of a tape by themselves. No conditions. -/
namespace Go.Proofs.Ytdcodicoclecnaa
open Go.RowKit Lift

def smL (l : Lay) (f : Fl) (L : List (List Int)) : List Int := L.flatMap fun fr => (smp l f fr).toList
theorem smL_app (l : Lay) (f : Fl) (a b : List (List Int)) : smL l f (a ++ b) = smL l f a ++ smL l f b := by simp [smL]
theorem smV_next (l : Lay) (f : Fl) (frs : List (List Int)) (k : Nat) : smV l f frs (k + 1) = smV l f frs k ++ (smp l f (frm frs k)).toList := by
  unfold smV
  rw [smps_succ]
  cases smp l f (frm frs k) <;> simp
theorem smV_take (l : Lay) (f : Fl) (frs : List (List Int)) : ∀ k, k ≤ frs.length → smV l f frs k = smL l f (frs.take k)
  | 0, _ => rfl
  | k + 1, h => by
    have hk : k < frs.length := by omega
    rw [smV_next, smV_take l f frs k (by omega), List.take_add_one, List.getElem?_eq_getElem hk, Option.toList_some, smL_app]
    congr 1
    unfold smL frm
    rw [List.getElem?_eq_getElem hk]; simp
theorem smV_all (l : Lay) (f : Fl) (frs : List (List Int)) : smV l f frs frs.length = smL l f frs := by
  rw [smV_take l f frs frs.length (Nat.le_refl _), List.take_length]
def subG (l : Lay) (frs : List (List Int)) (n : Nat) : List (List Int) := (gdI l frs n).map fun i => frm frs i.toNat
theorem subG_len (l : Lay) (frs : List (List Int)) (n : Nat) : (subG l frs n).length = (gdI l frs n).length := by simp [subG]
theorem smL_sub (l : Lay) (f : Fl) (frs : List (List Int)) : ∀ n, smL l f (subG l frs n) = smV l f frs n
  | 0 => rfl
  | n + 1 => by
    have ih := smL_sub l f frs n
    rw [smV_next, ← ih]
    by_cases h : 0 ≤ subF l (frm frs n)
    · have e : subG l frs (n + 1) = subG l frs n ++ [frm frs n] := by
        unfold subG
        rw [gdI_in l frs n h, List.map_append]
        simp
      rw [e, smL_app]
      congr 1
      simp [smL]
    · have e : subG l frs (n + 1) = subG l frs n := by unfold subG; rw [gdI_no l frs n h]
      have hs : smp l f (frm frs n) = none := if_neg fun q => h q.1
      rw [e, hs]
      simp
theorem gdI_get (l : Lay) (frs : List (List Int)) : ∀ n k, k < (gdI l frs n).length → ∃ j, j < n ∧ (gdI l frs n)[k]?.getD 0 = ((j : Nat) : Int)
  | 0, k, h => by simp [gdI, gds] at h
  | n + 1, k, h => by
    by_cases hg : 0 ≤ subF l (frm frs n)
    · rw [gdI_in l frs n hg] at h ⊢
      rw [List.length_append, List.length_singleton] at h
      by_cases hk : k < (gdI l frs n).length
      · obtain ⟨j, h1, h2⟩ := gdI_get l frs n k hk
        exact ⟨j, by omega, by rw [List.getElem?_append_left hk]; exact h2⟩
      · refine ⟨n, by omega, ?_⟩
        rw [List.getElem?_append_right (by omega), show k - (gdI l frs n).length = 0 by omega]; rfl
    · rw [gdI_no l frs n hg] at h ⊢
      obtain ⟨j, h1, h2⟩ := gdI_get l frs n k h
      exact ⟨j, by omega, h2⟩
theorem wfE_sub {l : Lay} {frs : List (List Int)} {x : Int} (h : wfE l frs [x] = 0) : wfE l (subG l frs frs.length) [x] = 0 := by
  obtain ⟨h1, h2, h3, _⟩ := wfE_ok h
  have hl := gdI_len l frs frs.length
  have := subG_len l frs frs.length
  unfold wfE
  rw [if_pos (tpE_ok h1 (by omega)), if_pos h3]
theorem subG_in {l : Lay} {frs : List (List Int)} (hf : FrIn frs) (n : Nat) (hn : n ≤ frs.length) : FrIn (subG l frs n) := by
  have hl := gdI_len l frs n
  have hs := subG_len l frs n
  have := hf.n
  refine ⟨by omega, fun k => ?_⟩
  by_cases hk : k < (subG l frs n).length
  · have e : frm (subG l frs n) k = frm frs ((gdI l frs n)[k]?.getD 0).toNat := by
      have hk2 : k < (gdI l frs n).length := by omega
      unfold subG
      rw [show ∀ (L : List (List Int)), frm L k = L[k]?.getD [] from fun _ => rfl, List.getElem?_map, List.getElem?_eq_getElem hk2]; rfl
    rw [e]; exact hf.m _
  · unfold frm
    rw [List.getElem?_eq_none (by omega)]; simp
end Go.Proofs.Ytdcodicoclecnaa
/- RecordWears: the wear of a field (views last). No conditions. -/
namespace Go.Proofs.Ytdcodicoclecnaa
open Go Go.RowKit Lift

theorem wear_sub {l : Lay} {frs : List (List Int)} {x : Int} (h : wfE l frs [x] = 0) (st : List (Int × Int)) : weD l (subG l frs frs.length) x st = dmV (weV l frs x) st ∧ weE l (subG l frs frs.length) x st = dmE (weV l frs x) st := by
  have h2 := wfE_sub h
  have e : weV l (subG l frs frs.length) x = weV l frs x := by unfold weV; rw [smV_all, smL_sub]
  unfold weD weE
  rw [if_pos h2, if_pos h2, e]
  exact ⟨rfl, rfl⟩
theorem rc_tk (L : List (List Int)) (n : Nat) (h : L.length = n) : (rcells L).take n = rcells L := List.take_of_length_le (by rw [rcells_len]; omega)
theorem rc_app (L : List (List Int)) (x : List Int) : rcells L ++ [.list (ints x)] = rcells (L ++ [x]) := by simp [rcells]
set_option maxRecDepth 100000 in
set_option maxHeartbeats 8000000 in
theorem lawWears_ac (l : Lay) (frs : List (List Int)) (x : Int) (st : List (Int × Int)) (hl : LayIn l) (hf : FrIn frs) : AC Try.prog 13 [tpD l frs, dI x, .list (sps st)] [] [] (dB true) := by
  refine klaw12_RecordWears.ac (n0 := 0) (by simp) ⟨in_tpD _ _ _, .val _, .list _, trivial⟩ trivial rfl ?_
  unfold claw12_RecordWears
  have fa := far_ac l frs hl.nf hf.n hf.m
  have sl := sps_len st
  unfold tpD at *
  cases hb : farTp l frs with
  | true =>
    rw [hb] at fa
    (repeat' (first | (with_reducible first | refine thenQ_n ?_ | refine blockQ_n ?_ | refine thenQ_e ?_ | refine blockQ_t ?_ | refine blockQ_f (by decide) ?_) | apply aw_seq | apply aw_skip | apply aw_exit | apply aw_ret | apply aw_block | apply aw_condT rfl | apply aw_condF rfl | ((first | refine aw_hide fun K hK => aw_region ?_ | refine acall0 (fa) ?_ | refine acall0 (works_ac) ?_ | refine ago_if (by omega) ?_ | skip); simp (disch := first | exact okY | omega) only [ZU, Nat.reduceAdd, Nat.reduceMul, dI, AOpRun, aexec, D.isBot, ↓eget_h, or_self, ↓reduceIte, D.cells, Nat.reduceBEq, Nat.reduceLeDiff, List.drop, List.take, dB, ARun_some, AG_tf]) | subst hK))
    all_goals (refine end_q [] [] ?_ ?_ <;> repeat' (first | exact trivial | exact vr_val _))
  | false =>
  rw [hb] at fa
  obtain ⟨f1, f2, f3⟩ := far_small hb
  cases q12 : decide ((st.length : Int) > 12) with
  | true =>
    (repeat' (first | (with_reducible first | refine thenQ_n ?_ | refine blockQ_n ?_ | refine thenQ_e ?_ | refine blockQ_t ?_ | refine blockQ_f (by decide) ?_) | apply aw_seq | apply aw_skip | apply aw_exit | apply aw_ret | apply aw_block | apply aw_condT rfl | apply aw_condF rfl | ((first | refine aw_hide fun K hK => aw_region ?_ | refine acall0 (fa) ?_ | refine acall0 (works_ac) ?_ | refine ago_if (by omega) ?_ | skip); simp (disch := first | exact okY | omega) only [ZU, Nat.reduceAdd, Nat.reduceMul, dI, AOpRun, aexec, D.isBot, ↓eget_h, or_self, ↓reduceIte, D.cells, Nat.reduceBEq, Nat.reduceLeDiff, List.drop, List.take, dB, ARun_some, AG_ff, sl, isSh, abin, q12]) | subst hK))
    all_goals (refine end_q [] [] ?_ ?_ <;> repeat' (first | exact trivial | exact vr_val _))
  | false =>
  have h12 := of_decide_eq_false q12
  have ow := own_ac l frs (by omega) (by omega) (fun k => by have := f3 k; omega)
  have c1 := wear_ac l frs x st hl hf (by omega)
  have c2 := rwear_ac l frs x st hl hf (by omega)
  have c3 := read_ac l frs x hl hf
  have sa := sps_all st
  have sf := sps_flat st
  have slf := scells_leaf st
  have scl := scells_len st
  unfold tpD at ow
  refine aw_seq (aw_region ?_)
  simp (disch := first | exact okY | omega) only [ZU, dB, Nat.reduceAdd, Nat.reduceMul, dI, AOpRun, aexec, D.isBot, ↓eget_h, or_self, ↓reduceIte, D.cells, Nat.reduceBEq]
  refine aw_seq (aw_seq (aw_region ?_))
  simp (disch := first | exact okY | omega) only [ZU, Nat.reduceAdd, Nat.reduceMul, AOpRun, aexec, Nat.reduceBEq, ↓eget_h, Nat.reduceLeDiff, ↓reduceIte, List.drop, List.take]
  refine acall0 fa ?_
  simp (disch := first | exact okY | omega) only [ZU, Nat.reduceAdd, dB, Nat.reduceBEq, AOpRun, aexec, ↓eget_h, ARun_some, AG_ff, sl, isSh, ↓reduceIte, abin, q12]
  refine aw_condF rfl (aw_skip ?_)
  refine aw_seq (aw_region ?_)
  simp (disch := first | exact okY | omega) only [ZU, Nat.reduceAdd, Nat.reduceMul, AOpRun, aexec, Nat.reduceBEq, ↓eget_h, Nat.reduceLeDiff, ↓reduceIte, List.drop, List.take]
  refine acall0 ow ?_
  simp (disch := first | exact okY | omega) only [ZU, Nat.reduceAdd, dI, Nat.reduceBEq, AOpRun, aexec, Nat.reduceMul, ↓reduceIte, ↓eget_h, ↓hget_h, D.isBot, D.cells, Nat.reduceLeDiff, List.all, D.leaf, splice, List.take, List.drop]
  refine aw_seq (aw_region ?_)
  simp (disch := first | exact okY | omega) only [ZU, Nat.reduceAdd, Nat.reduceMul, AOpRun, aexec, Nat.reduceBEq, ↓reduceIte, fillD, ↓eget_h, base, ↓hget_h, Nat.zero_le, List.take, elems, sa, sl, sf, slf, and_true, ups]
  refine ago_if (by omega) ?_
  simp (disch := first | exact okY | omega) only [ZU, Nat.reduceAdd, Nat.reduceBEq, hdel_c, hdel_n, AOpRun, aexec, ↓eget_h]
  refine aw_wk (s' := ⟨[(1, dI x), (2, .list (sps st)), (3, .ptr 0 0), (7, .ptr 8 0), (8, .list (sps st))], [(0, [dI l.words, dI l.s0, dI l.s1, dI l.s2, dI l.s3, .list (fls l.fl), .list (rows frs)]), (8, [dI l.words, dI l.s0, dI l.s1, dI l.s2, dI l.s3, .list (fls l.fl), .list (rows frs)])], 400⟩) ?_ ?_
  · unfold dI
    refine wk_q [120] [(0, 0), (8, 88)] ?_ ?_ <;> repeat' (first | exact trivial | exact vr_val _ | exact vr_list _ | exact vr_ptr _ _ _ rfl | refine vr_fl _ _ _ _ _ (by decide) rfl ?_ ?_ ?_ ?_ | refine And.intro ⟨_, rfl, .inl ⟨_, rfl, by decide, ?_⟩⟩ ?_ | apply And.intro)
    all_goals first | exact sps_two _ | exact sps_flat _ | (rw [Nat.zero_add]; exact sps_len _) | (rw [Nat.zero_add, List.nil_append, sc_tk]; exact sps_flat _) | (rw [Nat.zero_add, sc_tk]; exact sps_flat _) | exact sps_len _ | exact scells_in _
  clear fa ow sf slf scl q12
  have b1 : ∀ y : Int, (y != y) = false := fun y => by simp
  have b2 : ∀ y : Int, (y == y) = true := fun y => by simp
  by_cases hw : wfE l frs [x] = 0
  case neg =>
    have e1 : weD l frs x st = 0 := if_neg hw
    have e2 : weE l frs x st = wfE l frs [x] := if_neg hw
    have q : (wfE l frs [x] != 0) = true := by simpa using hw
    rw [e1, e2] at c1 c2
    clear e1 e2
    unfold layD layC at c1 c2 c3
    generalize wfE l frs [x] = E at *
    (repeat' (first | (with_reducible first | refine thenQ_n ?_ | refine blockQ_n ?_ | refine thenQ_e ?_ | refine blockQ_t ?_ | refine blockQ_f (by decide) ?_) | apply aw_seq | apply aw_skip | apply aw_exit | apply aw_ret | apply aw_block | apply aw_condT rfl | apply aw_condF rfl | ((first | refine aw_hide fun K hK => aw_region ?_ | refine acall0 (c1) ?_ | refine acall0 (c2) ?_ | refine acall0 (c3) ?_ | refine acall0 (works_ac) ?_ | refine ago_if (by omega) ?_ | skip); simp (disch := first | exact okY | omega) only [ZU, Nat.reduceAdd, Nat.reduceMul, dI, AOpRun, aexec, Nat.reduceBEq, ↓eget_h, ↓hget_h, Nat.reduceLeDiff, ↓reduceIte, List.drop, List.take, run1, opt1, isSh, abin, bne_self_eq_false, ARun_some, AG_ff, q, AG_tt, dB]) | subst hK))
    all_goals (refine end_q [] [] ?_ ?_ <;> repeat' (first | exact trivial | exact vr_val _))
  obtain ⟨h1, h2, _⟩ := wfE_ok hw
  have e1 : weD l frs x st = dmV (weV l frs x) st := if_pos hw
  have e2 : weE l frs x st = dmE (weV l frs x) st := if_pos hw
  have hwl := weV_len l frs x
  have hrl := readR_len (l := l) (frs := frs) (x := x)
  have c4 := rseries_ac (readR l frs x) (by omega)
  rw [readR_map hw] at c4
  have c5 := damage_ac (weV l frs x) st (by omega) (by omega)
  have c6 := good_ok l frs hl h1 h2 hf
  have hgl := gdI_len l frs frs.length
  have hsl := subG_len l frs frs.length
  have c7 := wear_ac l (subG l frs frs.length) x st hl (subG_in hf _ (Nat.le_refl _)) (by omega)
  rw [(wear_sub hw st).1, (wear_sub hw st).2] at c7
  rw [e1, e2] at c1 c2
  rw [hw] at c3
  clear e1 e2
  have gg := gdI_get l frs frs.length
  have hsub : ∀ k, k < (gdI l frs frs.length).length → (subG l frs frs.length).take (k + 1) = (subG l frs frs.length).take k ++ [frm frs ((gdI l frs frs.length)[k]?.getD 0).toNat] := fun k hk => by
    unfold subG
    rw [List.take_add_one, List.getElem?_map, List.getElem?_eq_getElem hk]; rfl
  generalize dmV (weV l frs x) st = a at *
  generalize dmE (weV l frs x) st = e at *
  generalize weV l frs x = V at *
  generalize readR l frs x = R at *
  generalize subG l frs frs.length = U at *
  generalize gdI l frs frs.length = G at *
  unfold layD layC at *
  have ga := ints_all G
  have gl := ints_len G
  have ra := rows_all frs
  have rl := rows_len frs
  (repeat' (first | (with_reducible first | refine thenQ_n ?_ | refine blockQ_n ?_ | refine thenQ_e ?_ | refine blockQ_t ?_ | refine blockQ_f (by decide) ?_) | apply aw_seq | apply aw_skip | apply aw_exit | apply aw_ret | apply aw_block | apply aw_condT rfl | apply aw_condF rfl | ((first | refine aw_hide fun K hK => aw_region ?_ | refine acall0 (c1) ?_ | refine acall0 (c2) ?_ | refine acall0 (c3) ?_ | refine acall0 (c4) ?_ | refine acall0 (c5) ?_ | refine acall0 (c6) ?_ | refine acall0 (works_ac) ?_ | refine ago_if (by omega) ?_ | skip); simp (disch := first | exact okY | omega) only [ZU, Nat.reduceAdd, Nat.reduceMul, dI, AOpRun, aexec, Nat.reduceBEq, ↓eget_h, ↓hget_h, Nat.reduceLeDiff, ↓reduceIte, List.drop, List.take, run1, opt1, isSh, abin, bne_self_eq_false, ARun_some, AG_ff]) | subst hK))
  clear c1 c2 c3 c4 c5 c6
  refine aw_loop (fun k : Nat => ⟨[(1, dI x), (7, .ptr 8 0), (8, .list (sps st)), (9, dI a), (10, dI e), (17, .list (ints G)), (19, .vec 40 k 1), (20, dI k)], [(8, [dI l.words, dI l.s0, dI l.s1, dI l.s2, dI l.s3, .list (fls l.fl), .list (rows frs)]), (40, rcells (U.take k))], 1000⟩) (fun k => k ≤ G.length) (fun k => G.length - k) ⟨0, by omega, ?_⟩ ?_
  · unfold dI
    refine wk_q [] [(8, 8), (40, 9000)] ?_ ?_ <;> repeat' (first | exact trivial | exact vr_val _ | exact vr_list _ | exact vr_ptr _ _ _ rfl | exact vr_nilv _ _ _ rfl | refine And.intro ⟨_, rfl, .inl ⟨_, rfl, by decide, ?_⟩⟩ ?_ | refine And.intro ⟨_, rfl, .inr ⟨rfl, rfl, of_decide_eq_true (by kernel_rfl)⟩⟩ ?_ | apply And.intro)
  intro k hk
  by_cases hk2 : k < G.length
  case neg =>
    obtain rfl : k = G.length := by omega
    rw [show U.take G.length = U from List.take_of_length_le (by omega)]
    refine aw_wk (s' := ⟨[(1, dI x), (7, .ptr 8 0), (8, .list (sps st)), (9, dI a), (10, dI e), (17, .list (ints G)), (19, .list (rows U)), (20, dI G.length)], [(8, [dI l.words, dI l.s0, dI l.s1, dI l.s2, dI l.s3, .list (fls l.fl), .list (rows frs)])], 1000⟩) ?_ ?_
    · unfold dI
      refine wk_q [40] [(8, 8)] ?_ ?_ <;> repeat' (first | exact trivial | exact vr_val _ | exact vr_list _ | exact vr_ptr _ _ _ rfl | refine vr_fl _ _ _ _ _ (by decide) rfl ?_ ?_ ?_ ?_ | refine And.intro ⟨_, rfl, .inl ⟨_, rfl, by decide, ?_⟩⟩ ?_ | apply And.intro)
      all_goals first | exact rows_one _ | (rw [rows_len]; exact hsl) | exact rows_len _ | exact rcells_in _ | (rw [Nat.mul_one, rc_tk U _ hsl]; exact rows_flat _) | exact rows_flat _
    (repeat' (first | (with_reducible first | refine thenQ_n ?_ | refine blockQ_n ?_ | refine thenQ_e ?_ | refine blockQ_t ?_ | refine blockQ_f (by decide) ?_) | apply aw_seq | apply aw_skip | apply aw_exit | apply aw_ret | apply aw_block | apply aw_condT rfl | apply aw_condF rfl | ((first | refine aw_hide fun K hK => aw_region ?_ | refine acall0 (c7) ?_ | refine acall0 (works_ac) ?_ | refine ago_if (by omega) ?_ | skip); simp (disch := first | exact okY | omega) only [ZU, Nat.reduceAdd, Nat.reduceMul, dI, AOpRun, aexec, Nat.reduceBEq, ↓eget_h, gl, isSh, ↓reduceIte, abin, Int.lt_irrefl, decide_false, Nat.reduceLeDiff, List.drop, List.take, opt1, ARun_some, AG_tt, dB]) | subst hK))
    (refine end_q [] [] ?_ ?_ <;> repeat' (first | exact trivial | exact vr_val _))
  obtain ⟨j, hj, ej⟩ := gg k hk2
  have gk := ints_gd G k hk2
  have hs := hsub k hk2
  rw [ej] at gk hs
  rw [Int.toNat_natCast] at hs
  have kk : (k : Int) < (G.length : Int) := by omega
  have kj : (j : Int) < (frs.length : Int) := by omega
  have q1 : decide ((j : Int) < 0) = false := decide_eq_false (by omega)
  have q2 : decide ((j : Int) ≥ (frs.length : Int)) = false := decide_eq_false (by omega)
  have gj := rows_gd frs j hj
  rw [show frs[j]?.getD [] = frm frs j from rfl] at gj
  have hul : (U.take k).length = k := by simp; omega
  have hrc : (rcells (U.take k)).length = k := by rw [rcells_len]; exact hul
  have hrt : (rcells (U.take k)).take k = rcells (U.take k) := rc_tk _ _ hul
  have hap := rc_app (U.take k) (frm frs j)
  rw [← hs] at hap
  have hin := rcells_in (U.take (k + 1))
  have fin : k + 1 ≤ G.length := by omega
  have fin2 : G.length - (k + 1) < G.length - k := by omega
  clear c7 gg hsub ej hs
  generalize hT : rcells (U.take (k + 1)) = T at *
  generalize rcells (U.take k) = C at *
  generalize frm frs j = fr at *
  rw [← hap] at hin
  (repeat' (first | (with_reducible first | refine thenQ_n ?_ | refine blockQ_n ?_ | refine thenQ_e ?_ | refine blockQ_t ?_ | refine blockQ_f (by decide) ?_) | apply aw_seq | apply aw_skip | apply aw_exit | apply aw_ret | apply aw_block | apply aw_condT rfl | apply aw_condF rfl | ((first | refine aw_hide fun K hK => aw_region ?_ | refine ago_if (by omega) ?_ | skip); simp (disch := first | exact okY | omega) only [ZU, Nat.reduceAdd, Nat.reduceMul, dI, AOpRun, aexec, Nat.reduceBEq, ↓eget_h, gl, isSh, ↓reduceIte, abin, kk, ga, opt1, gk, run1, q1, ARun_some, AG_ff, Nat.add_zero, rl, q2, ra, gj, fillD, D.isBot, D.cells, ne_eq, not_true_eq_false, Nat.reduceGT, or_self, splice, List.take, List.drop, base, ↓hget_h, Nat.mul_one, hrc, Nat.le_refl, hrt, elems, List.all, D.leaf, and_true, ups, hdel_c, hdel_n, fits]) | subst hK))
  refine ⟨k + 1, fin, fin2, ?_⟩
  rw [hT, ← hap]
  refine wk_q [] [(8, 8), (40, 1232)] ?_ ?_ <;> repeat' (first | exact trivial | exact vr_val _ | exact vr_list _ | exact vr_vec _ _ _ _ rfl | exact vr_ptr _ _ _ rfl | refine And.intro ⟨_, rfl, .inl ⟨_, rfl, by decide, ?_⟩⟩ ?_ | apply And.intro | exact vrl_flat _ (by first | exact icells_in _ | exact rcells_in _ | exact scells_in _ | exact bcells_in _ | assumption) | fail)
end Go.Proofs.Ytdcodicoclecnaa
/- Arguments that came in: what their cells are. No conditions. -/
namespace Go.Proofs.Ytdcodicoclecnaa
open Go.RowKit Lift

theorem in_ints {l : List (List D)} (h : ∀ x ∈ l, CfL [.int] x) : ∃ xs, l = ints xs ∧ ∀ x ∈ xs, -9223372036854775808 ≤ x ∧ x ≤ 9223372036854775807 := by
  induction l with
  | nil => exact ⟨[], rfl, by simp⟩
  | cons x l ih =>
    obtain ⟨xs, rfl, hx⟩ := ih fun y hy => h y (List.mem_cons_of_mem _ hy)
    have h0 := h x (List.mem_cons_self ..)
    cases h0 with
    | int n ss ds h1 h2 h3 =>
      cases h3
      exact ⟨n :: xs, rfl, fun y hy => by
        rcases List.mem_cons.1 hy with rfl | hy
        · exact ⟨h1, h2⟩
        · exact hx y hy⟩
theorem in_rows {l : List (List D)} (h : ∀ x ∈ l, CfL [.sl [.int]] x) : ∃ vs, l = rows vs ∧ ∀ r ∈ vs, r.length ≤ maxLen := by
  induction l with
  | nil => exact ⟨[], rfl, by simp⟩
  | cons x l ih =>
    obtain ⟨vs, rfl, hx⟩ := ih fun y hy => h y (List.mem_cons_of_mem _ hy)
    have h0 := h x (List.mem_cons_self ..)
    cases h0 with
    | sl e k ss ds h1 h2 h3 =>
      cases h3
      obtain ⟨xs, rfl, _⟩ := in_ints h2
      exact ⟨xs :: vs, rfl, fun y hy => by
        rcases List.mem_cons.1 hy with rfl | hy
        · simpa [ints] using h1
        · exact hx y hy⟩
end Go.Proofs.Ytdcodicoclecnaa
/- Arguments that came in: layouts, frames, cases. No conditions. -/
namespace Go.Proofs.Ytdcodicoclecnaa
open Go.RowKit Lift

theorem inc_int {ss : List Sh} {ds : List D} (h : CfL (.int :: ss) ds) : ∃ (a : Int) (r : List D), ds = dI a :: r ∧ CfL ss r ∧ -9223372036854775808 ≤ a ∧ a ≤ 9223372036854775807 := by
  cases h with
  | int a ss ds h1 h2 h3 => exact ⟨a, ds, rfl, h3, h1, h2⟩
theorem inc_bool {ss : List Sh} {ds : List D} (h : CfL (.bool :: ss) ds) : ∃ (a : Bool) (r : List D), ds = dB a :: r ∧ CfL ss r := by
  cases h with
  | bool a ss ds h3 => exact ⟨a, ds, rfl, h3⟩
theorem inc_sl {e ss : List Sh} {ds : List D} (h : CfL (.sl e :: ss) ds) : ∃ (l : List (List D)) (r : List D), ds = .list l :: r ∧ CfL ss r ∧ l.length ≤ maxLen ∧ ∀ x ∈ l, CfL e x := by
  cases h with
  | sl e l ss ds h1 h2 h3 => exact ⟨l, ds, rfl, h3, h1, h2⟩
theorem inc_nil {ds : List D} (h : CfL [] ds) : ds = [] := by cases h; rfl
theorem in_fls {l : List (List D)} (h : ∀ x ∈ l, CfL [.int, .int, .int, .bool, .int, .int, .int, .int, .int] x) : ∃ fs : List Fl, l = fls fs ∧ ∀ f ∈ fs, f.size ≤ 9223372036854775807 := by
  induction l with
  | nil => exact ⟨[], rfl, by simp⟩
  | cons x l ih =>
    obtain ⟨fs, rfl, hx⟩ := ih fun y hy => h y (List.mem_cons_of_mem _ hy)
    obtain ⟨a1, _, rfl, e1, _, _⟩ := inc_int (h x (List.mem_cons_self ..))
    obtain ⟨a2, _, rfl, e2, _, _⟩ := inc_int e1
    obtain ⟨a3, _, rfl, e3, _, b3⟩ := inc_int e2
    obtain ⟨a4, _, rfl, e4⟩ := inc_bool e3
    obtain ⟨a5, _, rfl, e5, _, _⟩ := inc_int e4
    obtain ⟨a6, _, rfl, e6, _, _⟩ := inc_int e5
    obtain ⟨a7, _, rfl, e7, _, _⟩ := inc_int e6
    obtain ⟨a8, _, rfl, e8, _, _⟩ := inc_int e7
    obtain ⟨a9, _, rfl, e9, _, _⟩ := inc_int e8
    obtain rfl := inc_nil e9
    exact ⟨⟨a1, a2, a3, a4, a5, a6, a7, a8, a9⟩ :: fs, rfl, fun y hy => by
      rcases List.mem_cons.1 hy with rfl | hy
      · exact b3
      · exact hx y hy⟩
theorem in_lay {ss : List Sh} {ds : List D} (h : CfL (.int :: .int :: .int :: .int :: .int :: .sl [.int, .int, .int, .bool, .int, .int, .int, .int, .int] :: ss) ds) : ∃ (l : Lay) (r : List D), ds = dI l.words :: dI l.s0 :: dI l.s1 :: dI l.s2 :: dI l.s3 :: .list (fls l.fl) :: r ∧ CfL ss r ∧ LayIn l := by
  obtain ⟨w, _, rfl, e1, _, _⟩ := inc_int h
  obtain ⟨s0, _, rfl, e2, _, _⟩ := inc_int e1
  obtain ⟨s1, _, rfl, e3, _, _⟩ := inc_int e2
  obtain ⟨s2, _, rfl, e4, _, _⟩ := inc_int e3
  obtain ⟨s3, _, rfl, e5, _, _⟩ := inc_int e4
  obtain ⟨l, r, rfl, e6, h1, h2⟩ := inc_sl e5
  obtain ⟨fs, rfl, h3⟩ := in_fls h2
  refine ⟨⟨w, s0, s1, s2, s3, fs⟩, r, rfl, e6, ⟨by simpa [fls] using h1, fun k hk => ?_⟩⟩
  have hk' : k < fs.length := hk
  show (fs[k]?.getD fl0).size ≤ _
  rw [List.getElem?_eq_getElem hk']
  exact h3 _ (List.getElem_mem hk')
theorem in_frames {ss : List Sh} {ds : List D} (h : CfL (.sl [.sl [.int]] :: ss) ds) : ∃ (frs : List (List Int)) (r : List D), ds = .list (rows frs) :: r ∧ CfL ss r ∧ FrIn frs := by
  obtain ⟨l, r, rfl, e1, h1, h2⟩ := inc_sl h
  obtain ⟨frs, rfl, h3⟩ := in_rows h2
  refine ⟨frs, r, rfl, e1, ⟨by simpa [rows] using h1, fun k => ?_⟩⟩
  unfold frm
  by_cases hk : k < frs.length
  · rw [List.getElem?_eq_getElem hk]; exact h3 _ (List.getElem_mem hk)
  · rw [List.getElem?_eq_none (by omega)]; simp
theorem in_tape {ds : List D} (h : CfL [.int, .int, .int, .int, .int, .sl [.int, .int, .int, .bool, .int, .int, .int, .int, .int], .sl [.sl [.int]]] ds) : ∃ (l : Lay) (frs : List (List Int)), ds = [dI l.words, dI l.s0, dI l.s1, dI l.s2, dI l.s3, .list (fls l.fl), .list (rows frs)] ∧ LayIn l ∧ FrIn frs := by
  obtain ⟨l, _, rfl, e1, hl⟩ := in_lay h
  obtain ⟨frs, _, rfl, e2, hf⟩ := in_frames e1
  obtain rfl := inc_nil e2
  exact ⟨l, frs, rfl, hl, hf⟩
theorem in_num {ds : List D} (h : CfL [.int] ds) : ∃ n : Int, ds = [dI n] ∧ -9223372036854775808 ≤ n ∧ n ≤ 9223372036854775807 := by
  obtain ⟨n, _, rfl, e1, h1, h2⟩ := inc_int h
  obtain rfl := inc_nil e1
  exact ⟨n, rfl, h1, h2⟩
end Go.Proofs.Ytdcodicoclecnaa
/- Arguments that came in: pairs of numbers. No conditions. -/
namespace Go.Proofs.Ytdcodicoclecnaa
open Go.RowKit Lift

theorem in_prs {l : List (List D)} (h : ∀ x ∈ l, CfL [.int, .int] x) : ∃ st : List (Int × Int), l = sps st := by
  induction l with
  | nil => exact ⟨[], rfl⟩
  | cons x l ih =>
    obtain ⟨st, rfl⟩ := ih fun y hy => h y (List.mem_cons_of_mem _ hy)
    obtain ⟨a, _, rfl, e1, _, _⟩ := inc_int (h x (List.mem_cons_self ..))
    obtain ⟨b, _, rfl, e2, _, _⟩ := inc_int e1
    obtain rfl := inc_nil e2
    exact ⟨(a, b) :: st, rfl⟩
theorem in_steps {ds : List D} (h : CfL [.sl [.int, .int]] ds) : ∃ st : List (Int × Int), ds = [.list (sps st)] := by
  obtain ⟨l, _, rfl, e1, h1, h2⟩ := inc_sl h
  obtain rfl := inc_nil e1
  obtain ⟨st, rfl⟩ := in_prs h2
  exact ⟨st, rfl⟩
end Go.Proofs.Ytdcodicoclecnaa
/- Arguments opened: what a row needs. No conditions. -/
namespace Go.Proofs.Ytdcodicoclecnaa
open Go.ChangeShapes Go.WideShapes Go.ChangeAt Go.RowKit Go.Joins

theorem Try.own : ownKnob Try.prog.godebug = none := by kernel_rfl
theorem Try.laidOut : laidOutB Try.prog = true := by kernel_rfl
theorem agg_struct {P : Program} {w : World} {r : Reach} {b0 : Nat} {v : Value} {t : TypeId} {fs : Array Field} (ht : P.underlying t = some (.struct fs)) (hv : Value.okWide P w r b0 t v) : ∃ cs, v = .agg cs := by
  cases v <;> first | exact ⟨_, rfl⟩ | (simp [Value.okWide, Cell.okWide, Cell.ok, ht] at hv)
theorem notagg_slice {P : Program} {w : World} {r : Reach} {b0 : Nat} {t e : TypeId} {v : Value} (ht : P.underlying t = some (.slice e)) (hv : Value.okWide P w r b0 t v) : ∀ cs, v ≠ .agg cs := by
  rintro cs rfl
  simp [Value.okWide, Cell.okWide, Cell.ok, ht] at hv
theorem notagg_int {P : Program} {w : World} {r : Reach} {b0 : Nat} {t : TypeId} {k : IntKind} {v : Value} (ht : P.underlying t = some (.int k)) (hv : Value.okWide P w r b0 t v) : ∀ cs, v ≠ .agg cs := by
  rintro cs rfl
  simp [Value.okWide, Cell.okWide, Cell.ok, ht] at hv
end Go.Proofs.Ytdcodicoclecnaa
