/- Texts of the law RecordEvery, part 10. No conditions. -/
import Derived.Test.YtdcodicoclecnaaPRecordEvery09
/- The document of record: a frame's subframe, a sample. No conditions. -/
set_option linter.unusedSimpArgs false
set_option linter.unusedVariables false
namespace Go.Proofs.Ytdcodicoclecnaa
open Go Go.RowKit Lift

theorem idx4_at (l : Lay) (x : Int) (k : Nat) (hk : k < 4) (hn : ∀ j, j < k → x ≠ (sync l)[j]?.getD 0) (he : x = (sync l)[k]?.getD 0) : idx4 l x = k := by
  rw [← idx_sync]
  exact idx_at (l := sync l) (by simpa [sync] using hk) (fun j hj h => hn j hj h.symm) he.symm
theorem idx4_no (l : Lay) (x : Int) (hn : ∀ j, j < 4 → x ≠ (sync l)[j]?.getD 0) : idx4 l x = -1 := by
  rw [← idx_sync]
  exact idx_no fun j hj h => hn j (by simpa [sync] using hj) h.symm
set_option maxRecDepth 100000 in
set_option maxHeartbeats 4000000 in
theorem subf_ac (l : Lay) (fr : List Int) (hw : 2 ≤ l.words) (hl : fr.length ≤ maxLen) : AC Try.prog 73 [layD l, .list (ints fr)] [] [] (dI (subF l fr)) := by
  refine kref12_Subframe.ac (n0 := 0) (by simp) ⟨in_layD _ _, .list _, trivial⟩ trivial rfl ?_
  unfold cref12_Subframe layD layC
  have hmax : maxLen = 9223372036854775807 := rfl
  by_cases hlen : (fr.length : Int) = l.words
  case neg =>
    have q : ((fr.length : Int) != l.words) = true := by simpa using hlen
    rw [show subF l fr = -1 from if_neg fun h => hlen h.1]
    (have hg : (987654321 : Nat) - 987654321 = 0 := rfl; have hr := hg; repeat' (first | refine aw_seq ?_ | (refine aw_skip ?_; try simp only [thenQ, blockQ, if_true, if_false, Nat.reduceEqDiff, reduceCtorEq]) | (refine aw_exit ?_; try simp only [thenQ, blockQ, if_true, if_false, Nat.reduceEqDiff, reduceCtorEq]) | refine aw_ret ?_ | refine aw_block ?_ | refine aw_condT rfl ?_ | refine aw_condF rfl ?_ | ((first | refine aw_region ?_ | refine ago_if (by omega) ?_ | skip); simp (config := {maxSteps := 10000000}) (disch := first | exact okYes (by kernel_rfl) | omega) only [thenQ, List.map, Int.reduceNeg, dI, List.length, Nat.zero_add, Nat.reduceAdd, Nat.reduceMul, envOf, ARun_none, AOpRun, aexec, D.isBot, FSt.ev, St.F, ↓eget_h, Bool.false_eq_true, Option.isSome, hget_n, or_self, ↓reduceIte, D.cells, AGo_ok, St.app, putO, eput_c, Nat.reduceBEq, eput_n, cond_false, hups, hput_n, ARun_nil, dropE_c, inL_n, dropE_n, eget_c, ints_len, Option.map, run1, hget_c, beq_self_eq_true, cond_true, List.getElem?_cons_zero, isSh, abin, q, inL_c])))
    all_goals (refine end_to [] [] (by first | exact .inl rfl | exact .inr rfl) rfl (by kernel_rfl) (by kernel_rfl) (by kernel_rfl) ?_ ?_ <;> repeat' (first | exact trivial | exact vr_val _))
  have q : ((fr.length : Int) != l.words) = false := by simpa using hlen
  refine aw_seq (aw_region ?_)
  simp (config := {maxSteps := 10000000}) (disch := first | exact okYes (by kernel_rfl) | omega) only [thenQ, List.map, Int.reduceNeg, dI, List.length, Nat.zero_add, Nat.reduceAdd, Nat.reduceMul, envOf, ARun_none, AOpRun, aexec, D.isBot, FSt.ev, St.F, ↓eget_h, Bool.false_eq_true, Option.isSome, hget_n, or_self, ↓reduceIte, D.cells, AGo_ok, St.app, putO, eput_c, Nat.reduceBEq, eput_n, cond_false, hups, hput_n, ARun_nil, dropE_c, inL_n, dropE_n]
  refine aw_seq (aw_seq (aw_region ?_))
  simp (config := {maxSteps := 10000000}) (disch := first | exact okYes (by kernel_rfl) | omega) only [thenQ, Int.reduceNeg, List.length, Nat.zero_add, Nat.reduceAdd, Nat.reduceMul, ARun_none, AOpRun, aexec, FSt.ev, St.F, eget_c, Nat.reduceBEq, ↓eget_h, cond_false, AGo_ok, St.app, putO, eput_c, eput_n, hups, List.map, ints_len, Option.map, run1, hget_c, beq_self_eq_true, hget_n, cond_true, List.getElem?_cons_zero, isSh, Bool.false_eq_true, ↓reduceIte, abin, q, ARun_nil, dropE_c, inL_c, inL_n, dropE_n]
  refine aw_condF rfl (aw_skip ?_)
  have hall : ∀ k, (∀ j, j < k → wOk (fr[j]?.getD 0) = true) → k = fr.length → fr.all wOk = true := fun k h hk => List.all_eq_true.2 fun x hx => by
    obtain ⟨j, hj, rfl⟩ := List.getElem_of_mem hx
    have := h j (by omega)
    simpa [hj] using this
  by_cases ha : fr.all wOk = true
  case neg =>
    rw [show subF l fr = -1 from if_neg fun h => ha h.2]
    refine aw_seq (aw_seq (aw_region ?_))
    simp (config := {maxSteps := 10000000}) (disch := first | exact okYes (by kernel_rfl) | omega) only [thenQ, Int.reduceNeg, List.length, Nat.zero_add, Nat.reduceMul, Nat.reduceAdd, ARun_none, AOpRun, aexec, FSt.ev, AGo_ok, St.app, putO, eput_c, Nat.reduceBEq, eput_n, cond_false, hups, List.map, ARun_nil, dropE_c, inL_n, dropE_n]
    refine aw_block (aw_loop (fun k : Nat => ⟨[(1, .list (ints fr)), (2, .ptr 0 0), (5, dI k)], [(0, [dI l.words, dI l.s0, dI l.s1, dI l.s2, dI l.s3, .list (fls l.fl)])], 400⟩) (fun k => k ≤ fr.length ∧ ∀ j, j < k → wOk (fr[j]?.getD 0) = true) (fun k => fr.length - k) ⟨0, ⟨by omega, fun j hj => by omega⟩, ?_⟩ ?_)
    · unfold dI
      refine wk_to [] [(0, 0)] (by kernel_rfl) (by kernel_rfl) (by kernel_rfl) (by kernel_rfl) (by kernel_rfl) ?_ ?_ <;> repeat' (first | exact trivial | exact vr_val _ | exact vr_list _ | exact vr_ptr _ _ _ rfl | refine And.intro ⟨_, rfl, .inl ⟨_, rfl, by decide, ?_⟩⟩ ?_ | apply And.intro)
    rintro k ⟨hk, hin⟩
    by_cases hk2 : k < fr.length
    case neg => exact absurd (hall k hin (by omega)) ha
    have g1 := ints_gd fr k hk2
    have fa := from_ac (fr[k]?.getD 0) 0 4095
    rw [wI_w] at fa
    cases he : wOk (fr[k]?.getD 0) with
    | false =>
      rw [he] at fa
      (have hg : (987654321 : Nat) - 987654321 = 0 := rfl; have hr := hg; repeat' (first | refine aw_seq ?_ | (refine aw_skip ?_; try simp only [thenQ, blockQ, if_true, if_false, Nat.reduceEqDiff, reduceCtorEq]) | (refine aw_exit ?_; try simp only [thenQ, blockQ, if_true, if_false, Nat.reduceEqDiff, reduceCtorEq]) | refine aw_ret ?_ | refine aw_block ?_ | refine aw_condT rfl ?_ | refine aw_condF rfl ?_ | (refine aw_cond rfl (fun hg => ?_) (fun hg => ?_) <;> (try (have hq := hg; simp only [Bool.not_eq_true', Bool.not_eq_false', Bool.and_eq_true, Bool.and_eq_false_iff, Bool.or_eq_true, Bool.or_eq_false_iff, decide_eq_true_eq, decide_eq_false_iff_not, bne_iff_ne, beq_iff_eq, beq_eq_false_iff_ne, bne_eq_false_iff_eq, ne_eq, Int.not_lt, Int.not_le, Decidable.not_not] at hq)) <;> (try (have hr := hg; simp only [decide_eq_true_eq, decide_eq_false_iff_not] at hr)) <;> (try (exfalso; omega))) | ((first | refine aw_region ?_ | refine acall0 (fa) ?_ | refine ago_if (by omega) ?_ | skip); simp (config := {maxSteps := 10000000}) (disch := first | exact okYes (by kernel_rfl) | omega) only [thenQ, Int.reduceNeg, dI, List.length, Nat.zero_add, Nat.reduceAdd, Nat.reduceMul, ARun_none, AOpRun, aexec, FSt.ev, St.F, eget_c, Nat.reduceBEq, ↓eget_h, cond_false, AGo_ok, St.app, putO, eput_c, eput_n, hups, List.map, ints_len, isSh, Bool.false_eq_true, ↓reduceIte, Option.map, abin, ARun_nil, dropE_c, inL_c, inL_n, beq_self_eq_true, cond_true, dropE_n, hr, decide_true, Int.natCast_nonneg, ints_all, and_self, opt1, Int.toNat_natCast, g1, run1, List.getElem?_cons_zero, dB, Bool.not_false, blockQ])))
      all_goals (refine end_to [] [] (by first | exact .inl rfl | exact .inr rfl) rfl (by kernel_rfl) (by kernel_rfl) (by kernel_rfl) ?_ ?_ <;> repeat' (first | exact trivial | exact vr_val _))
    | true =>
      rw [he] at fa
      (have hg : (987654321 : Nat) - 987654321 = 0 := rfl; have hr := hg; repeat' (first | refine aw_seq ?_ | (refine aw_skip ?_; try simp only [thenQ, blockQ, if_true, if_false, Nat.reduceEqDiff, reduceCtorEq]) | (refine aw_exit ?_; try simp only [thenQ, blockQ, if_true, if_false, Nat.reduceEqDiff, reduceCtorEq]) | refine aw_ret ?_ | refine aw_block ?_ | refine aw_condT rfl ?_ | refine aw_condF rfl ?_ | (refine aw_cond rfl (fun hg => ?_) (fun hg => ?_) <;> (try (have hq := hg; simp only [Bool.not_eq_true', Bool.not_eq_false', Bool.and_eq_true, Bool.and_eq_false_iff, Bool.or_eq_true, Bool.or_eq_false_iff, decide_eq_true_eq, decide_eq_false_iff_not, bne_iff_ne, beq_iff_eq, beq_eq_false_iff_ne, bne_eq_false_iff_eq, ne_eq, Int.not_lt, Int.not_le, Decidable.not_not] at hq)) <;> (try (have hr := hg; simp only [decide_eq_true_eq, decide_eq_false_iff_not] at hr)) <;> (try (exfalso; omega))) | ((first | refine aw_region ?_ | refine acall0 (fa) ?_ | refine ago_if (by omega) ?_ | skip); simp (config := {maxSteps := 10000000}) (disch := first | exact okYes (by kernel_rfl) | omega) only [thenQ, Int.reduceNeg, dI, List.length, Nat.zero_add, Nat.reduceAdd, Nat.reduceMul, ARun_none, AOpRun, aexec, FSt.ev, St.F, eget_c, Nat.reduceBEq, ↓eget_h, cond_false, AGo_ok, St.app, putO, eput_c, eput_n, hups, List.map, ints_len, isSh, Bool.false_eq_true, ↓reduceIte, Option.map, abin, ARun_nil, dropE_c, inL_c, inL_n, beq_self_eq_true, cond_true, dropE_n, hr, decide_true, Int.natCast_nonneg, ints_all, and_self, opt1, Int.toNat_natCast, g1, run1, List.getElem?_cons_zero, dB, Bool.not_true, fits])))
      refine ⟨k + 1, ⟨by omega, fun j hj => ?_⟩, by omega, ?_⟩
      · rcases (by omega : j < k ∨ j = k) with h | rfl
        · exact hin j h
        · exact he
      · refine wk_to [] [(0, 0)] (by kernel_rfl) (by kernel_rfl) (by kernel_rfl) (by kernel_rfl) (by kernel_rfl) ?_ ?_ <;> repeat' (first | exact trivial | exact vr_val _ | exact vr_list _ | exact vr_ptr _ _ _ rfl | refine And.intro ⟨_, rfl, .inl ⟨_, rfl, by decide, ?_⟩⟩ ?_ | apply And.intro)
  have hsub : subF l fr = idx4 l (fr[0]?.getD 0) := if_pos ⟨hlen, ha⟩
  refine aw_cut ⟨[(1, .list (ints fr)), (2, .ptr 0 0)], [(0, [dI l.words, dI l.s0, dI l.s1, dI l.s2, dI l.s3, .list (fls l.fl)])], 600⟩ ?_ ?_
  · refine aw_seq (aw_region ?_)
    simp (config := {maxSteps := 10000000}) (disch := first | exact okYes (by kernel_rfl) | omega) only [thenQ, Int.reduceNeg, dI, List.length, Nat.zero_add, Nat.reduceMul, Nat.reduceAdd, ARun_none, AOpRun, aexec, FSt.ev, AGo_ok, St.app, putO, eput_c, Nat.reduceBEq, eput_n, cond_false, hups, List.map, ARun_nil, dropE_c, inL_n, dropE_n]
    refine aw_block (aw_loop (fun k : Nat => ⟨[(1, .list (ints fr)), (2, .ptr 0 0), (5, dI k)], [(0, [dI l.words, dI l.s0, dI l.s1, dI l.s2, dI l.s3, .list (fls l.fl)])], 400⟩) (fun k => k ≤ fr.length ) (fun k => fr.length - k) ⟨0, by omega, ?_⟩ ?_)
    · unfold dI
      refine wk_to [] [(0, 0)] (by kernel_rfl) (by kernel_rfl) (by kernel_rfl) (by kernel_rfl) (by kernel_rfl) ?_ ?_ <;> repeat' (first | exact trivial | exact vr_val _ | exact vr_list _ | exact vr_ptr _ _ _ rfl | refine And.intro ⟨_, rfl, .inl ⟨_, rfl, by decide, ?_⟩⟩ ?_ | apply And.intro)
    intro k hk
    by_cases hk2 : k < fr.length
    case neg =>
      obtain rfl : k = fr.length := by omega
      (have hg : (987654321 : Nat) - 987654321 = 0 := rfl; have hr := hg; repeat' (first | refine aw_seq ?_ | (refine aw_skip ?_; try simp only [thenQ, blockQ, if_true, if_false, Nat.reduceEqDiff, reduceCtorEq]) | (refine aw_exit ?_; try simp only [thenQ, blockQ, if_true, if_false, Nat.reduceEqDiff, reduceCtorEq]) | refine aw_ret ?_ | refine aw_block ?_ | refine aw_condT rfl ?_ | refine aw_condF rfl ?_ | (refine aw_cond rfl (fun hg => ?_) (fun hg => ?_) <;> (try (have hq := hg; simp only [Bool.not_eq_true', Bool.not_eq_false', Bool.and_eq_true, Bool.and_eq_false_iff, Bool.or_eq_true, Bool.or_eq_false_iff, decide_eq_true_eq, decide_eq_false_iff_not, bne_iff_ne, beq_iff_eq, beq_eq_false_iff_ne, bne_eq_false_iff_eq, ne_eq, Int.not_lt, Int.not_le, Decidable.not_not] at hq)) <;> (try (have hr := hg; simp only [decide_eq_true_eq, decide_eq_false_iff_not] at hr)) <;> (try (exfalso; omega))) | ((first | refine aw_region ?_ | refine ago_if (by omega) ?_ | skip); simp (config := {maxSteps := 10000000}) (disch := first | exact okYes (by kernel_rfl) | omega) only [thenQ, Int.reduceNeg, dI, List.length, Nat.zero_add, Nat.reduceAdd, Nat.reduceMul, ARun_none, AOpRun, aexec, FSt.ev, St.F, eget_c, Nat.reduceBEq, ↓eget_h, cond_false, AGo_ok, St.app, putO, eput_c, eput_n, hups, List.map, ints_len, isSh, Bool.false_eq_true, ↓reduceIte, Option.map, abin, ARun_nil, dropE_c, inL_c, inL_n, beq_self_eq_true, cond_true, dropE_n, hr, decide_false])))
      refine wk_to [] [(0, 0)] (by kernel_rfl) (by kernel_rfl) (by kernel_rfl) (by kernel_rfl) (by kernel_rfl) ?_ ?_ <;> repeat' (first | exact trivial | exact vr_val _ | exact vr_list _ | exact vr_ptr _ _ _ rfl | refine And.intro ⟨_, rfl, .inl ⟨_, rfl, by decide, ?_⟩⟩ ?_ | apply And.intro)
    have g1 := ints_gd fr k hk2
    have fa := from_ac (fr[k]?.getD 0) 0 4095
    have he : wOk (fr[k]?.getD 0) = true := by
      rw [List.getElem?_eq_getElem hk2]
      exact List.all_eq_true.1 ha _ (List.getElem_mem hk2)
    rw [wI_w, he] at fa
    (have hg : (987654321 : Nat) - 987654321 = 0 := rfl; have hr := hg; repeat' (first | refine aw_seq ?_ | (refine aw_skip ?_; try simp only [thenQ, blockQ, if_true, if_false, Nat.reduceEqDiff, reduceCtorEq]) | (refine aw_exit ?_; try simp only [thenQ, blockQ, if_true, if_false, Nat.reduceEqDiff, reduceCtorEq]) | refine aw_ret ?_ | refine aw_block ?_ | refine aw_condT rfl ?_ | refine aw_condF rfl ?_ | (refine aw_cond rfl (fun hg => ?_) (fun hg => ?_) <;> (try (have hq := hg; simp only [Bool.not_eq_true', Bool.not_eq_false', Bool.and_eq_true, Bool.and_eq_false_iff, Bool.or_eq_true, Bool.or_eq_false_iff, decide_eq_true_eq, decide_eq_false_iff_not, bne_iff_ne, beq_iff_eq, beq_eq_false_iff_ne, bne_eq_false_iff_eq, ne_eq, Int.not_lt, Int.not_le, Decidable.not_not] at hq)) <;> (try (have hr := hg; simp only [decide_eq_true_eq, decide_eq_false_iff_not] at hr)) <;> (try (exfalso; omega))) | ((first | refine aw_region ?_ | refine acall0 (fa) ?_ | refine ago_if (by omega) ?_ | skip); simp (config := {maxSteps := 10000000}) (disch := first | exact okYes (by kernel_rfl) | omega) only [thenQ, Int.reduceNeg, dI, List.length, Nat.zero_add, Nat.reduceAdd, Nat.reduceMul, ARun_none, AOpRun, aexec, FSt.ev, St.F, eget_c, Nat.reduceBEq, ↓eget_h, cond_false, AGo_ok, St.app, putO, eput_c, eput_n, hups, List.map, ints_len, isSh, Bool.false_eq_true, ↓reduceIte, Option.map, abin, ARun_nil, dropE_c, inL_c, inL_n, beq_self_eq_true, cond_true, dropE_n, hr, decide_true, Int.natCast_nonneg, ints_all, and_self, opt1, Int.toNat_natCast, g1, run1, List.getElem?_cons_zero, dB, Bool.not_true, fits])))
    refine ⟨k + 1, by omega, by omega, ?_⟩
    refine wk_to [] [(0, 0)] (by kernel_rfl) (by kernel_rfl) (by kernel_rfl) (by kernel_rfl) (by kernel_rfl) ?_ ?_ <;> repeat' (first | exact trivial | exact vr_val _ | exact vr_list _ | exact vr_ptr _ _ _ rfl | refine And.intro ⟨_, rfl, .inl ⟨_, rfl, by decide, ?_⟩⟩ ?_ | apply And.intro)
  have g0 := ints_gd fr 0 (by omega)
  have hl0 : 0 < fr.length := by omega
  rw [hsub]
  refine aw_seq (aw_seq (aw_region ?_))
  simp (config := {maxSteps := 10000000}) (disch := first | exact okYes (by kernel_rfl) | omega) only [thenQ, Int.reduceNeg, List.length, Nat.zero_add, Nat.reduceMul, Nat.reduceAdd, dI, ARun_none, AOpRun, aexec, FSt.ev, AGo_ok, St.app, putO, eput_c, Nat.reduceBEq, eput_n, cond_false, hups, List.map, ARun_nil, dropE_c, inL_n, dropE_n]
  refine aw_block (aw_loop (fun k : Nat => ⟨[(1, .list (ints fr)), (2, .ptr 0 0), (6, dI k)], [(0, [dI l.words, dI l.s0, dI l.s1, dI l.s2, dI l.s3, .list (fls l.fl)])], 800⟩) (fun k => k ≤ 4 ∧ ∀ j, j < k → fr[0]?.getD 0 ≠ (sync l)[j]?.getD 0) (fun k => 4 - k) ⟨0, ⟨by omega, fun j hj => by omega⟩, ?_⟩ ?_)
  · unfold dI
    refine wk_to [] [(0, 0)] (by kernel_rfl) (by kernel_rfl) (by kernel_rfl) (by kernel_rfl) (by kernel_rfl) ?_ ?_ <;> repeat' (first | exact trivial | exact vr_val _ | exact vr_list _ | exact vr_ptr _ _ _ rfl | refine And.intro ⟨_, rfl, .inl ⟨_, rfl, by decide, ?_⟩⟩ ?_ | apply And.intro)
  rintro k ⟨hk, hin⟩
  by_cases hk2 : k < 4
  case neg =>
    obtain rfl : k = 4 := by omega
    rw [idx4_no l _ hin]
    (have hg : (987654321 : Nat) - 987654321 = 0 := rfl; have hr := hg; repeat' (first | refine aw_seq ?_ | (refine aw_skip ?_; try simp only [thenQ, blockQ, if_true, if_false, Nat.reduceEqDiff, reduceCtorEq]) | (refine aw_exit ?_; try simp only [thenQ, blockQ, if_true, if_false, Nat.reduceEqDiff, reduceCtorEq]) | refine aw_ret ?_ | refine aw_block ?_ | refine aw_condT rfl ?_ | refine aw_condF rfl ?_ | ((first | refine aw_region ?_ | refine ago_if (by omega) ?_ | skip); simp (config := {maxSteps := 10000000}) (disch := first | exact okYes (by kernel_rfl) | omega) only [thenQ, ne_eq, hg, dI, Int.reduceNeg, List.length, Nat.zero_add, Nat.reduceAdd, Nat.reduceMul, cast_lit, ARun_none, AOpRun, aexec, FSt.ev, St.F, eget_c, Nat.reduceBEq, ↓eget_h, cond_false, AGo_ok, St.app, putO, eput_c, eput_n, hups, List.map, isSh, Bool.false_eq_true, ↓reduceIte, Option.map, abin, Int.reduceLT, decide_false, ARun_nil, dropE_c, inL_c, inL_n, beq_self_eq_true, cond_true, dropE_n])))
    all_goals (refine end_to [] [] (by first | exact .inl rfl | exact .inr rfl) rfl (by kernel_rfl) (by kernel_rfl) (by kernel_rfl) ?_ ?_ <;> repeat' (first | exact trivial | exact vr_val _))
  have gs := sync_at l k hk2
  by_cases he : fr[0]?.getD 0 = (sync l)[k]?.getD 0
  · rw [idx4_at l _ k hk2 hin he]
    have q2 : (fr[0]?.getD 0 == (sync l)[k]?.getD 0) = true := by simpa using he
    rcases (by omega : k = 0 ∨ k = 1 ∨ k = 2 ∨ k = 3) with rfl | rfl | rfl | rfl
    all_goals
      simp only [sync, List.getElem?_cons_zero, List.getElem?_cons_succ, Option.getD_some] at q2
      (have hg : (987654321 : Nat) - 987654321 = 0 := rfl; have hr := hg; repeat' (first | refine aw_seq ?_ | (refine aw_skip ?_; try simp only [thenQ, blockQ, if_true, if_false, Nat.reduceEqDiff, reduceCtorEq]) | (refine aw_exit ?_; try simp only [thenQ, blockQ, if_true, if_false, Nat.reduceEqDiff, reduceCtorEq]) | refine aw_ret ?_ | refine aw_block ?_ | refine aw_condT rfl ?_ | refine aw_condF rfl ?_ | ((first | refine aw_region ?_ | refine ago_if (by omega) ?_ | skip); simp (config := {maxSteps := 10000000}) (disch := first | exact okYes (by kernel_rfl) | omega) only [thenQ, ne_eq, Nat.reduceSub, dI, Int.reduceNeg, cast_lit, List.length, Nat.zero_add, Nat.reduceAdd, Nat.reduceMul, ARun_none, AOpRun, aexec, FSt.ev, St.F, eget_c, Nat.reduceBEq, ↓eget_h, cond_false, AGo_ok, St.app, putO, eput_c, eput_n, hups, List.map, isSh, Bool.false_eq_true, ↓reduceIte, Option.map, abin, Int.reduceLT, decide_true, ARun_nil, dropE_c, inL_c, inL_n, beq_self_eq_true, cond_true, dropE_n, Int.le_refl, ints_all, and_self, opt1, Int.toNat_zero, g0, run1, List.getElem?_cons_zero, hget_c, hget_n, List.getElem?_cons_succ, q2, blockQ, Int.reduceLE, Int.reduceToNat])))
      all_goals (refine end_to [] [] (by first | exact .inl rfl | exact .inr rfl) rfl (by kernel_rfl) (by kernel_rfl) (by kernel_rfl) ?_ ?_ <;> repeat' (first | exact trivial | exact vr_val _))
  · have q2 : (fr[0]?.getD 0 == (sync l)[k]?.getD 0) = false := by simpa using he
    have hin2 : ∀ j, j < k + 1 → fr[0]?.getD 0 ≠ (sync l)[j]?.getD 0 := fun j hj => by
      rcases (by omega : j < k ∨ j = k) with h | rfl
      · exact hin j h
      · exact he
    rcases (by omega : k = 0 ∨ k = 1 ∨ k = 2 ∨ k = 3) with rfl | rfl | rfl | rfl
    all_goals
      simp only [sync, List.getElem?_cons_zero, List.getElem?_cons_succ, Option.getD_some] at q2
      (have hg : (987654321 : Nat) - 987654321 = 0 := rfl; have hr := hg; repeat' (first | refine aw_seq ?_ | (refine aw_skip ?_; try simp only [thenQ, blockQ, if_true, if_false, Nat.reduceEqDiff, reduceCtorEq]) | (refine aw_exit ?_; try simp only [thenQ, blockQ, if_true, if_false, Nat.reduceEqDiff, reduceCtorEq]) | refine aw_ret ?_ | refine aw_block ?_ | refine aw_condT rfl ?_ | refine aw_condF rfl ?_ | ((first | refine aw_region ?_ | refine ago_if (by omega) ?_ | skip); simp (config := {maxSteps := 10000000}) (disch := first | exact okYes (by kernel_rfl) | omega) only [thenQ, ne_eq, Nat.reduceSub, dI, Int.reduceNeg, List.length, Nat.zero_add, Nat.reduceAdd, Nat.reduceMul, cast_lit, ARun_none, AOpRun, aexec, FSt.ev, St.F, eget_c, Nat.reduceBEq, ↓eget_h, cond_false, AGo_ok, St.app, putO, eput_c, eput_n, hups, List.map, isSh, Bool.false_eq_true, ↓reduceIte, Option.map, abin, Int.reduceLT, decide_true, ARun_nil, dropE_c, inL_c, inL_n, beq_self_eq_true, cond_true, dropE_n, Int.le_refl, ints_all, and_self, opt1, Int.toNat_zero, g0, run1, List.getElem?_cons_zero, hget_c, hget_n, List.getElem?_cons_succ, q2, Int.reduceAdd, fits, Int.reduceLE, Int.reduceToNat])))
      refine ⟨_, ⟨?_, hin2⟩, ?_, ?_⟩
      · omega
      · omega
      · refine wk_to [] [(0, 0)] (by kernel_rfl) (by kernel_rfl) (by kernel_rfl) (by kernel_rfl) (by kernel_rfl) ?_ ?_ <;> repeat' (first | exact trivial | exact vr_val _ | exact vr_list _ | exact vr_ptr _ _ _ rfl | refine And.intro ⟨_, rfl, .inl ⟨_, rfl, by decide, ?_⟩⟩ ?_ | apply And.intro)
end Go.Proofs.Ytdcodicoclecnaa
/- The document of record: Good, samples, Read, Peak. No conditions. -/
set_option linter.unusedSimpArgs false
set_option linter.unusedVariables false
namespace Go.Proofs.Ytdcodicoclecnaa
open Go Go.RowKit Lift

theorem uw_in {x : Int} (h1 : 0 ≤ x) (h2 : x < 18446744073709551616) : IntKind.u64.wrap x = x := by
  have h3 : x % 18446744073709551616 = x := Int.emod_eq_of_lt h1 h2
  unfold IntKind.wrap
  show (if (false && _) = true then _ else x % (2 ^ 64 : Int)) = x
  rw [Bool.false_and, if_neg (by simp)]
  exact h3
end Go.Proofs.Ytdcodicoclecnaa
/- The document of record: samples, Read, Peak. No conditions. -/
set_option linter.unusedSimpArgs false
set_option linter.unusedVariables false
namespace Go.Proofs.Ytdcodicoclecnaa
open Go Go.RowKit Lift

set_option maxHeartbeats 2000000 in
theorem rraw_ac {w : Int} {f : Fl} (h : FOk w f) (fr : List Int) (x : Nat) (hw : f.word.toNat < fr.length) (hx : fr[f.word.toNat]?.getD 0 = (x : Int)) (hlt : x < 4096) : AC Try.prog 127 [flD f, .list (ints fr)] [] [] (dI (rawI f x)) := by
  refine kref12_raw.ac (n0 := 0) (by simp) ⟨in_flD _ _, .list _, trivial⟩ trivial rfl ?_
  unfold cref12_raw flD flC
  obtain ⟨h1, h2, h3, h4, h5, h6, h7⟩ := size_pow h
  have b1 := h.b1
  have s1 := h.s1
  have bs := h.bs
  have w1 := h.w1
  have e0 : IntKind.i64.bits = 64 := rfl
  have e1 : min f.bit.toNat IntKind.i64.bits = f.bit.toNat := by rw [e0]; omega
  have e2 : min (f.size - 1).toNat IntKind.i64.bits = f.size.toNat - 1 := by rw [e0]; omega
  have e3 : min f.size.toNat IntKind.i64.bits = f.size.toNat := by rw [e0]; omega
  have c1 : IntKind.u64.wrap f.bit = f.bit := uw_in (by omega) (by omega)
  have c2 : IntKind.u64.wrap f.size = f.size := uw_in (by omega) (by omega)
  have c3 : IntKind.u64.wrap (f.size - 1) = f.size - 1 := uw_in (by omega) (by omega)
  have p0 : 0 ≤ f.size := by omega
  have p1 : 0 ≤ f.size - 1 := by omega
  have p2 : 0 ≤ f.word := by omega
  have p3 : f.word < (fr.length : Int) := by omega
  have g1 := ints_gd fr f.word.toNat hw
  rw [hx] at g1
  have a0 : Int.fdiv (x : Int) (2 ^ f.bit.toNat) = ((x / 2 ^ f.bit.toNat : Nat) : Int) := fdiv_pow _ _
  have pp : ((2 ^ f.size.toNat : Nat) : Int) = (2 : Int) ^ f.size.toNat := by simp
  have a1 : IntKind.i64.wrap (1 * 2 ^ f.size.toNat) = ((2 ^ f.size.toNat : Nat) : Int) := by rw [Int.one_mul, ← pp]; exact wrap_in (by omega) (by omega)
  have a2 : ((2 ^ f.size.toNat : Nat) : Int) - 1 = ((2 ^ f.size.toNat - 1 : Nat) : Int) := by omega
  have a3 : IntKind.i64.wrap ((2 ^ f.size.toNat - 1 : Nat) : Int) = ((2 ^ f.size.toNat - 1 : Nat) : Int) := wrap_in (by omega) (by omega)
  have hd : x / 2 ^ f.bit.toNat ≤ x := Nat.div_le_self _ _
  have a4 : IntKind.i64.wrap ((BitVec.ofInt IntKind.i64.bits ((x / 2 ^ f.bit.toNat : Nat) : Int) &&& BitVec.ofInt IntKind.i64.bits ((2 ^ f.size.toNat - 1 : Nat) : Int)).toNat) = ((rawU f x : Nat) : Int) := by
    rw [and_nat _ _ (by omega) (by omega), and_low]; rfl
  have hr := rawU_lt h x
  have pq : ((2 ^ (f.size.toNat - 1) : Nat) : Int) = (2 : Int) ^ (f.size.toNat - 1) := by simp
  have a5 : IntKind.i64.wrap (1 * 2 ^ (f.size.toNat - 1)) = ((2 ^ (f.size.toNat - 1) : Nat) : Int) := by rw [Int.one_mul, ← pq]; exact wrap_in (by omega) (by omega)
  unfold rawI
  cases hs : f.sgn with
  | false =>
    rw [if_neg (by rintro ⟨h, _⟩; cases h)]
    (have hg : (987654321 : Nat) - 987654321 = 0 := rfl; have hr := hg; repeat' (first | refine aw_seq ?_ | (refine aw_skip ?_; try simp only [thenQ, blockQ, if_true, if_false, Nat.reduceEqDiff, reduceCtorEq]) | (refine aw_exit ?_; try simp only [thenQ, blockQ, if_true, if_false, Nat.reduceEqDiff, reduceCtorEq]) | refine aw_ret ?_ | refine aw_block ?_ | refine aw_condT rfl ?_ | refine aw_condF rfl ?_ | ((first | refine aw_region ?_ | refine ago_if (by omega) ?_ | skip); simp (config := {maxSteps := 10000000}) (disch := first | exact okYes (by kernel_rfl) | omega) only [thenQ, List.map, dI, List.length, Nat.zero_add, Nat.reduceAdd, Nat.reduceMul, envOf, dB, ARun_none, AOpRun, aexec, D.isBot, FSt.ev, St.F, ↓eget_h, Bool.false_eq_true, Option.isSome, hget_n, or_self, ↓reduceIte, D.cells, AGo_ok, St.app, putO, eput_c, Nat.reduceBEq, eput_n, cond_false, hups, hput_n, ARun_nil, dropE_c, inL_n, dropE_n, eget_c, Option.map, run1, hget_c, beq_self_eq_true, cond_true, List.getElem?_cons_zero, p2, ints_all, and_self, opt1, g1, List.getElem?_cons_succ, c1, isSh, ash, b1, e1, a0, c2, p0, e3, a1, abin, a2, a3, a4, inL_c, ARun_some, AG_ft])))
    all_goals (refine end_to [] [] (by first | exact .inl rfl | exact .inr rfl) rfl (by kernel_rfl) (by kernel_rfl) (by kernel_rfl) ?_ ?_ <;> repeat' (first | exact trivial | exact vr_val _))
  | true =>
    by_cases hh : 2 ^ (f.size.toNat - 1) ≤ rawU f x
    · have q : decide (((rawU f x : Nat) : Int) ≥ ((2 ^ (f.size.toNat - 1) : Nat) : Int)) = true := decide_eq_true (by omega)
      rw [if_pos ⟨rfl, hh⟩]
      have a6 : IntKind.i64.wrap (((rawU f x : Nat) : Int) - ((2 ^ f.size.toNat : Nat) : Int)) = ((rawU f x : Nat) : Int) - 2 ^ f.size.toNat := by rw [← pp]; exact wrap_in (by omega) (by omega)
      (have hg : (987654321 : Nat) - 987654321 = 0 := rfl; have hr := hg; repeat' (first | refine aw_seq ?_ | (refine aw_skip ?_; try simp only [thenQ, blockQ, if_true, if_false, Nat.reduceEqDiff, reduceCtorEq]) | (refine aw_exit ?_; try simp only [thenQ, blockQ, if_true, if_false, Nat.reduceEqDiff, reduceCtorEq]) | refine aw_ret ?_ | refine aw_block ?_ | refine aw_condT rfl ?_ | refine aw_condF rfl ?_ | ((first | refine aw_region ?_ | refine ago_if (by omega) ?_ | skip); simp (config := {maxSteps := 10000000}) (disch := first | exact okYes (by kernel_rfl) | omega) only [thenQ, List.map, dI, List.length, Nat.zero_add, Nat.reduceAdd, Nat.reduceMul, envOf, dB, ARun_none, AOpRun, aexec, D.isBot, FSt.ev, St.F, ↓eget_h, Bool.false_eq_true, Option.isSome, hget_n, or_self, ↓reduceIte, D.cells, AGo_ok, St.app, putO, eput_c, Nat.reduceBEq, eput_n, cond_false, hups, hput_n, ARun_nil, dropE_c, inL_n, dropE_n, eget_c, Option.map, run1, hget_c, beq_self_eq_true, cond_true, List.getElem?_cons_zero, p2, ints_all, and_self, opt1, g1, List.getElem?_cons_succ, c1, isSh, ash, b1, e1, a0, c2, p0, e3, a1, abin, a2, a3, a4, inL_c, ARun_some, AG_tt, fits, c3, p1, e2, a5, q, a6])))
      all_goals (refine end_to [] [] (by first | exact .inl rfl | exact .inr rfl) rfl (by kernel_rfl) (by kernel_rfl) (by kernel_rfl) ?_ ?_ <;> repeat' (first | exact trivial | exact vr_val _))
    · have q : decide (((rawU f x : Nat) : Int) ≥ ((2 ^ (f.size.toNat - 1) : Nat) : Int)) = false := decide_eq_false (by omega)
      rw [if_neg (by rintro ⟨_, h⟩; exact hh h)]
      (have hg : (987654321 : Nat) - 987654321 = 0 := rfl; have hr := hg; repeat' (first | refine aw_seq ?_ | (refine aw_skip ?_; try simp only [thenQ, blockQ, if_true, if_false, Nat.reduceEqDiff, reduceCtorEq]) | (refine aw_exit ?_; try simp only [thenQ, blockQ, if_true, if_false, Nat.reduceEqDiff, reduceCtorEq]) | refine aw_ret ?_ | refine aw_block ?_ | refine aw_condT rfl ?_ | refine aw_condF rfl ?_ | ((first | refine aw_region ?_ | refine ago_if (by omega) ?_ | skip); simp (config := {maxSteps := 10000000}) (disch := first | exact okYes (by kernel_rfl) | omega) only [thenQ, List.map, dI, List.length, Nat.zero_add, Nat.reduceAdd, Nat.reduceMul, envOf, dB, ARun_none, AOpRun, aexec, D.isBot, FSt.ev, St.F, ↓eget_h, Bool.false_eq_true, Option.isSome, hget_n, or_self, ↓reduceIte, D.cells, AGo_ok, St.app, putO, eput_c, Nat.reduceBEq, eput_n, cond_false, hups, hput_n, ARun_nil, dropE_c, inL_n, dropE_n, eget_c, Option.map, run1, hget_c, beq_self_eq_true, cond_true, List.getElem?_cons_zero, p2, ints_all, and_self, opt1, g1, List.getElem?_cons_succ, c1, isSh, ash, b1, e1, a0, c2, p0, e3, a1, abin, a2, a3, a4, inL_c, ARun_some, AG_tt, fits, c3, p1, e2, a5, q])))
      all_goals (refine end_to [] [] (by first | exact .inl rfl | exact .inr rfl) rfl (by kernel_rfl) (by kernel_rfl) (by kernel_rfl) ?_ ?_ <;> repeat' (first | exact trivial | exact vr_val _))
/-- the parts of a sample -/
theorem smp_parts {l : Lay} {f : Fl} {fr : List Int} (hf : FOk l.words f) (hs : 0 ≤ subF l fr) : ∃ x : Nat, f.word.toNat < fr.length ∧ fr[f.word.toNat]?.getD 0 = (x : Int) ∧ x < 4096 ∧ (inSub f (subF l fr) → smp l f fr = some (valI f (rawI f x))) := by
  obtain ⟨hfl, hfa⟩ := subF_ok hs
  have w1 := hf.w1
  have w2 := hf.w2
  have hwl : f.word.toNat < fr.length := by omega
  have h4 : wOk (fr[f.word.toNat]?.getD 0) = true := by
    rw [List.getElem?_eq_getElem hwl]
    exact List.all_eq_true.1 hfa _ (List.getElem_mem hwl)
  have h5 : 0 ≤ fr[f.word.toNat]?.getD 0 ∧ fr[f.word.toNat]?.getD 0 ≤ 4095 := by unfold wOk at h4; simpa using h4
  exact ⟨(fr[f.word.toNat]?.getD 0).toNat, hwl, (Int.toNat_of_nonneg h5.1).symm, by omega, fun h => if_pos ⟨hs, h⟩⟩
set_option maxRecDepth 100000 in
set_option maxHeartbeats 4000000 in
theorem rsample_ac (l : Lay) (f : Fl) (fr : List Int) (hw : 2 ≤ l.words) (hf : FOk l.words f) (hl : fr.length ≤ maxLen) : AC Try.prog 96 [layD l, flD f, .list (ints fr)] [] [] (.tup [dI ((smp l f fr).getD 0), dB (smp l f fr).isSome]) := by
  refine kref12_sample.ac (n0 := 0) (by simp) ⟨in_layD _ _, in_flD _ _, .list _, trivial⟩ trivial rfl ?_
  unfold cref12_sample
  have sf := subf_ac l fr hw hl
  have ev : f.every ≠ 0 := by rcases hf.ev with h | h | h <;> omega
  have sb := subF_bd l fr
  by_cases hs : 0 ≤ subF l fr
  case neg =>
    have q : decide (subF l fr < 0) = true := decide_eq_true (by omega)
    rw [show smp l f fr = none from if_neg fun h => hs h.1]
    unfold layD layC flD flC at *
    (have hg : (987654321 : Nat) - 987654321 = 0 := rfl; have hr := hg; repeat' (first | refine aw_seq ?_ | (refine aw_skip ?_; try simp only [thenQ, blockQ, if_true, if_false, Nat.reduceEqDiff, reduceCtorEq]) | (refine aw_exit ?_; try simp only [thenQ, blockQ, if_true, if_false, Nat.reduceEqDiff, reduceCtorEq]) | refine aw_ret ?_ | refine aw_block ?_ | refine aw_condT rfl ?_ | refine aw_condF rfl ?_ | ((first | refine aw_region ?_ | refine acall0 (sf) ?_ | refine ago_if (by omega) ?_ | skip); simp (config := {maxSteps := 10000000}) (disch := first | exact okYes (by kernel_rfl) | omega) only [thenQ, List.map, dI, dB, Option.isSome, List.length, Nat.zero_add, Nat.reduceAdd, Nat.reduceMul, envOf, ARun_none, AOpRun, aexec, D.isBot, FSt.ev, St.F, ↓eget_h, Bool.false_eq_true, hget_n, or_self, ↓reduceIte, D.cells, AGo_ok, St.app, putO, eput_c, Nat.reduceBEq, eput_n, cond_false, hups, hput_n, eget_c, hget_c, hput_c, ARun_nil, dropE_c, inL_n, dropE_n, beq_self_eq_true, cond_true, Nat.reduceLeDiff, List.drop, List.take, inL_c, isSh, Option.map, abin, q, ARun_some, AG_tf])))
    all_goals (refine end_to [] [] (by first | exact .inl rfl | exact .inr rfl) rfl (by kernel_rfl) (by kernel_rfl) (by kernel_rfl) ?_ ?_ <;> repeat' (first | exact trivial | exact vr_val _ | apply vr_tup | apply And.intro))
  obtain ⟨x, x1, x2, x3, x4⟩ := smp_parts hf hs
  have q : decide (subF l fr < 0) = false := decide_eq_false (by omega)
  by_cases hin : inSub f (subF l fr)
  case neg =>
    have q2 : ((subF l fr).tmod f.every != f.phase) = true := by simp only [bne_iff_ne, ne_eq]; exact hin
    rw [show smp l f fr = none from if_neg fun h => hin h.2]
    unfold layD layC flD flC at *
    (have hg : (987654321 : Nat) - 987654321 = 0 := rfl; have hr := hg; repeat' (first | refine aw_seq ?_ | (refine aw_skip ?_; try simp only [thenQ, blockQ, if_true, if_false, Nat.reduceEqDiff, reduceCtorEq]) | (refine aw_exit ?_; try simp only [thenQ, blockQ, if_true, if_false, Nat.reduceEqDiff, reduceCtorEq]) | refine aw_ret ?_ | refine aw_block ?_ | refine aw_condT rfl ?_ | refine aw_condF rfl ?_ | ((first | refine aw_region ?_ | refine acall0 (sf) ?_ | refine ago_if (by omega) ?_ | skip); simp (config := {maxSteps := 10000000}) (disch := first | exact okYes (by kernel_rfl) | omega) only [thenQ, List.map, dI, dB, Option.isSome, List.length, Nat.zero_add, Nat.reduceAdd, Nat.reduceMul, envOf, ARun_none, AOpRun, aexec, D.isBot, FSt.ev, St.F, ↓eget_h, Bool.false_eq_true, hget_n, or_self, ↓reduceIte, D.cells, AGo_ok, St.app, putO, eput_c, Nat.reduceBEq, eput_n, cond_false, hups, hput_n, eget_c, hget_c, hput_c, ARun_nil, dropE_c, inL_n, dropE_n, beq_self_eq_true, cond_true, Nat.reduceLeDiff, List.drop, List.take, inL_c, isSh, Option.map, abin, q, ARun_some, AG_ff, run1, ↓hget_h, List.getElem?_cons_succ, List.getElem?_cons_zero, ev, q2])))
    all_goals (refine end_to [] [] (by first | exact .inl rfl | exact .inr rfl) rfl (by kernel_rfl) (by kernel_rfl) (by kernel_rfl) ?_ ?_ <;> repeat' (first | exact trivial | exact vr_val _ | apply vr_tup | apply And.intro))
  have q2 : ((subF l fr).tmod f.every != f.phase) = false := by simp only [bne_eq_false_iff_eq]; exact hin
  have rr := rraw_ac hf fr x x1 x2 x3
  rw [x4 hin]
  have m1 := mul_bd hf.a1 hf.a2 (by have := hf.d1; omega : -(1000 : Int) ≤ f.den) hf.d2
  have rb := rawI_bd hf x
  have m2 := mul_bd rb.1 rb.2 hf.n1 hf.n2
  have e1 : IntKind.i64.wrap (f.add * f.den) = f.add * f.den := wrap_in (by omega) (by omega)
  have e2 : IntKind.i64.wrap (rawI f x * f.num) = rawI f x * f.num := wrap_in (by omega) (by omega)
  have e3 : IntKind.i64.wrap (f.add * f.den + rawI f x * f.num) = valI f (rawI f x) := wrap_in (by omega) (by omega)
  simp only [Option.getD_some, Option.isSome_some]
  unfold layD layC flD flC at *
  generalize rawI f x = rw at *
  (have hg : (987654321 : Nat) - 987654321 = 0 := rfl; have hr := hg; repeat' (first | refine aw_seq ?_ | (refine aw_skip ?_; try simp only [thenQ, blockQ, if_true, if_false, Nat.reduceEqDiff, reduceCtorEq]) | (refine aw_exit ?_; try simp only [thenQ, blockQ, if_true, if_false, Nat.reduceEqDiff, reduceCtorEq]) | refine aw_ret ?_ | refine aw_block ?_ | refine aw_condT rfl ?_ | refine aw_condF rfl ?_ | ((first | refine aw_region ?_ | refine acall0 (sf) ?_ | refine acall0 (rr) ?_ | refine ago_if (by omega) ?_ | skip); simp (config := {maxSteps := 10000000}) (disch := first | exact okYes (by kernel_rfl) | omega) only [thenQ, List.map, dI, dB, List.length, Nat.zero_add, Nat.reduceAdd, Nat.reduceMul, envOf, ARun_none, AOpRun, aexec, D.isBot, FSt.ev, St.F, ↓eget_h, Bool.false_eq_true, Option.isSome, hget_n, or_self, ↓reduceIte, D.cells, AGo_ok, St.app, putO, eput_c, Nat.reduceBEq, eput_n, cond_false, hups, hput_n, eget_c, hget_c, hput_c, ARun_nil, dropE_c, inL_n, dropE_n, beq_self_eq_true, cond_true, Nat.reduceLeDiff, List.drop, List.take, inL_c, isSh, Option.map, abin, q, ARun_some, AG_ff, run1, ↓hget_h, List.getElem?_cons_succ, List.getElem?_cons_zero, ev, q2, e1, e2, e3])))
  all_goals (refine end_to [] [] (by first | exact .inl rfl | exact .inr rfl) rfl (by kernel_rfl) (by kernel_rfl) (by kernel_rfl) ?_ ?_ <;> repeat' (first | exact trivial | exact vr_val _ | apply vr_tup | apply And.intro))
set_option maxRecDepth 100000 in
set_option maxHeartbeats 1000000 in
theorem rfield_ac (l : Lay) (n : Int) (hn : l.fl.length ≤ 1000) : AC Try.prog 69 [layD l, dI n] [] [] (dB (wI n 0 ((l.fl.length : Int) - 1))) := by
  refine kref12_field.ac (n0 := 0) (by simp) ⟨in_layD _ _, .val _, trivial⟩ trivial rfl ?_
  unfold cref12_field layD layC
  (have hg : (987654321 : Nat) - 987654321 = 0 := rfl; have hr := hg; repeat' (first | refine aw_seq ?_ | (refine aw_skip ?_; try simp only [thenQ, blockQ, if_true, if_false, Nat.reduceEqDiff, reduceCtorEq]) | (refine aw_exit ?_; try simp only [thenQ, blockQ, if_true, if_false, Nat.reduceEqDiff, reduceCtorEq]) | refine aw_ret ?_ | refine aw_block ?_ | refine aw_condT rfl ?_ | refine aw_condF rfl ?_ | ((first | refine aw_region ?_ | refine acall0 (from_ac _ _ _) ?_ | refine ago_if (by omega) ?_ | skip); simp (config := {maxSteps := 10000000}) (disch := first | exact okYes (by kernel_rfl) | omega) only [thenQ, List.map, dB, List.length, Nat.zero_add, Nat.reduceAdd, Nat.reduceMul, envOf, dI, ARun_none, AOpRun, aexec, D.isBot, FSt.ev, St.F, ↓eget_h, Bool.false_eq_true, Option.isSome, hget_n, or_self, ↓reduceIte, D.cells, AGo_ok, St.app, putO, eput_c, Nat.reduceBEq, eput_n, cond_false, hups, hput_n, ARun_nil, dropE_c, inL_n, dropE_n, eget_c, Option.map, run1, hget_c, beq_self_eq_true, cond_true, List.getElem?_cons_succ, List.getElem?_cons_zero, fls_len, isSh, abin, fits, inL_c])))
  all_goals (refine end_to [] [] (by first | exact .inl rfl | exact .inr rfl) rfl (by kernel_rfl) (by kernel_rfl) (by kernel_rfl) ?_ ?_ <;> repeat' (first | exact trivial | exact vr_val _))
end Go.Proofs.Ytdcodicoclecnaa
/- Events, on both sides (views last). No conditions. -/
set_option linter.unusedSimpArgs false
set_option linter.unusedVariables false
namespace Go.Proofs.Ytdcodicoclecnaa
open Go Go.RowKit Lift

/-- the error of events -/
noncomputable def evE (l : Lay) (frs : List (List Int)) (cs : List Cd) (h : Int) : Int := if tpE l frs = 0 then (if evB l cs h = true then 0 else 121) else tpE l frs
noncomputable def evR (l : Lay) (frs : List (List Int)) (cs : List Cd) (h : Int) : List (Int × Int) := if evE l frs cs h = 0 then (evK (isJ l frs cs) h (frs.length + 1)).2 else []
theorem evR_len (l : Lay) (frs : List (List Int)) (cs : List Cd) (h : Int) : (evR l frs cs h).length ≤ 201 := by
  unfold evR
  split
  · rename_i h0
    have : frs.length ≤ 200 := by
      rcases tpE_cases l frs with ⟨_, _, h2⟩ | ⟨h3, _⟩
      · exact h2
      · unfold evE at h0; rw [if_neg h3] at h0; exact absurd h0 h3
    have := (evK_bd (isJ l frs cs) h (frs.length + 1)).2.2
    omega
  · simp
set_option maxRecDepth 100000 in
set_option maxHeartbeats 8000000 in
theorem events_ac (l : Lay) (frs : List (List Int)) (cs : List Cd) (h : Int) (hl : LayIn l) (hf : FrIn frs) (hn : cs.length ≤ 1000000) : AC Try.prog 45 [layD l, .list (rows frs), evD cs h] [] [] (.tup [.list (sps (evR l frs cs h)), dI (evE l frs cs h)]) := by
  refine krecord_Events.ac (n0 := 0) (by simp) ⟨in_layD _ _, .list _, in_ev _ _ _, trivial⟩ trivial rfl ?_
  unfold crecord_Events
  rcases tpE_cases l frs with ⟨h0, h1, h2⟩ | ⟨h0, hb⟩
  case inr =>
    have e : evE l frs cs h = tpE l frs := if_neg h0
    have er : evR l frs cs h = [] := if_neg (by rw [e]; exact h0)
    rw [er, e]
    have nt := newTape_err l frs hl (fun h => h0 (tpE_ok h.1 h.2)) hf
    unfold layD layC evD at *
    generalize tpE l frs = E at *
    (have hg : (987654321 : Nat) - 987654321 = 0 := rfl; have hr := hg; repeat' (first | refine aw_seq ?_ | (refine aw_skip ?_; repeat' (first | with_reducible refine thenQ_n ?_ | with_reducible refine blockQ_n ?_ | with_reducible refine thenQ_e ?_ | with_reducible refine blockQ_t ?_ | with_reducible refine blockQ_f (by decide) ?_)) | (refine aw_exit ?_; repeat' (first | with_reducible refine thenQ_n ?_ | with_reducible refine blockQ_n ?_ | with_reducible refine thenQ_e ?_ | with_reducible refine blockQ_t ?_ | with_reducible refine blockQ_f (by decide) ?_)) | refine aw_ret ?_ | refine aw_block ?_ | refine aw_condT rfl ?_ | refine aw_condF rfl ?_ | ((first | refine aw_hide fun K hK => aw_region ?_ | refine acall0 (nt) ?_ | refine ago_if (by omega) ?_ | skip); simp (config := {maxSteps := 10000000}) (disch := first | exact okYes (by kernel_rfl) | omega) only [List.length, Nat.zero_add, Nat.reduceAdd, Nat.reduceMul, envOf, dI, ARun_none, AOpRun, aexec, D.isBot, FSt.ev, St.F, ↓eget_h, Bool.false_eq_true, Option.isSome, hget_n, or_self, ↓reduceIte, D.cells, AGo_ok, St.app, putO, eput_c, Nat.reduceBEq, eput_n, cond_false, hups, hput_n, List.map, eget_c, hget_c, hput_c, ARun_nil, dropE_c, inL_n, dropE_n, beq_self_eq_true, cond_true, Nat.reduceLeDiff, List.drop, List.take, opt1, Option.map, List.getElem?_cons_zero, List.getElem?_cons_succ, inL_c, isSh, abin, hb, thenQ]) | (subst hK; repeat' (first | with_reducible refine thenQ_n ?_ | with_reducible refine blockQ_n ?_ | with_reducible refine thenQ_e ?_ | with_reducible refine blockQ_t ?_ | with_reducible refine blockQ_f (by decide) ?_))))
    (refine end_to [] [] (by first | exact .inl rfl | exact .inr rfl) rfl (by kernel_rfl) (by kernel_rfl) (by kernel_rfl) ?_ ?_ <;> repeat' (first | exact trivial | exact vr_val _ | exact vr_nil | apply vr_tup | apply And.intro))
  have nt := newTape_ok l frs hl h1 h2 hf
  have va := evalid_ac l frs cs h hn (by have := h1.nf; omega)
  have e : evE l frs cs h = if evB l cs h = true then 0 else 121 := if_pos h0
  have er : evR l frs cs h = if evE l frs cs h = 0 then (evK (isJ l frs cs) h (frs.length + 1)).2 else [] := rfl
  have et := eventsT_ac l frs cs h h1 h2 hf
  unfold layD layC evD at *
  refine aw_seq (aw_region ?_)
  simp (config := {maxSteps := 10000000}) (disch := first | exact okYes (by kernel_rfl) | omega) only [thenQ, List.map, dI, List.length, Nat.zero_add, Nat.reduceAdd, Nat.reduceMul, envOf, ARun_none, AOpRun, aexec, D.isBot, FSt.ev, St.F, ↓eget_h, Bool.false_eq_true, Option.isSome, hget_n, or_self, ↓reduceIte, D.cells, AGo_ok, St.app, putO, eput_c, Nat.reduceBEq, eput_n, cond_false, hups, hput_n, eget_c, hget_c, hput_c, ARun_nil, dropE_c, inL_n, dropE_n]
  refine aw_wk (s' := ⟨[(1, .list (rows frs)), (3, .ptr 0 0), (5, .ptr 8 0)], [(0, [dI l.words, dI l.s0, dI l.s1, dI l.s2, dI l.s3, .list (fls l.fl)]), (8, [.list (cds cs), dI h])], 80⟩) ?_ ?_
  · unfold dI
    refine wk_to [] [(0, 0), (8, 8)] (by kernel_rfl) (by kernel_rfl) (by kernel_rfl) (by kernel_rfl) (by kernel_rfl) ?_ ?_ <;> repeat' (first | exact trivial | exact vr_val _ | exact vr_list _ | exact vr_ptr _ _ _ rfl | refine And.intro ⟨_, rfl, .inl ⟨_, rfl, by decide, ?_⟩⟩ ?_ | apply And.intro)
  refine aw_seq (aw_region ?_)
  simp (config := {maxSteps := 10000000}) (disch := first | exact okYes (by kernel_rfl) | omega) only [thenQ, List.length, Nat.zero_add, Nat.reduceAdd, Nat.reduceMul, dI, ARun_none, AOpRun, aexec, FSt.ev, St.F, eget_c, Nat.reduceBEq, ↓eget_h, cond_false, hget_c, beq_self_eq_true, hget_n, cond_true, Nat.reduceLeDiff, ↓reduceIte, List.drop, List.take, AGo_ok, St.app, putO, eput_c, eput_n, hups, List.map]
  refine acallB nt (by repeat' (first | exact trivial | exact rfl | refine And.intro ?_ ?_)) (by kernel_rfl) (by kernel_rfl) (by kernel_rfl) ?_
  simp (config := {maxSteps := 10000000}) (disch := first | exact okYes (by kernel_rfl) | omega) only [Nat.reduceAdd, St.app, putO, dI, eput_c, Nat.reduceBEq, eput_n, cond_false, hups, hput_c, hput_n, List.map, List.append_nil, ARun_none, AOpRun, aexec, FSt.ev, St.F, eget_c, ↓eget_h, AGo_ok, opt1, Option.map, List.getElem?_cons_zero, List.getElem?_cons_succ, ARun_nil, dropE_c, inL_c, inL_n, beq_self_eq_true, cond_true, dropE_n]
  refine aw_seq (aw_seq (aw_region ?_))
  simp (config := {maxSteps := 10000000}) (disch := first | exact okYes (by kernel_rfl) | omega) only [thenQ, List.length, Nat.zero_add, Nat.reduceAdd, Nat.reduceMul, ARun_none, AOpRun, aexec, FSt.ev, St.F, eget_c, Nat.reduceBEq, ↓eget_h, cond_false, AGo_ok, St.app, putO, eput_c, eput_n, hups, List.map, isSh, Bool.false_eq_true, ↓reduceIte, Option.map, abin, bne_self_eq_false, ARun_nil, dropE_c, inL_c, inL_n, beq_self_eq_true, cond_true, dropE_n]
  refine aw_condF rfl (aw_skip ?_)
  cases hv : evB l cs h with
  | false =>
    rw [hv, if_neg (by simp)] at e
    rw [e, if_neg (by omega)] at er
    rw [er, e]
    rw [hv] at va
    (have hg : (987654321 : Nat) - 987654321 = 0 := rfl; have hr := hg; repeat' (first | refine aw_seq ?_ | (refine aw_skip ?_; repeat' (first | with_reducible refine thenQ_n ?_ | with_reducible refine blockQ_n ?_ | with_reducible refine thenQ_e ?_ | with_reducible refine blockQ_t ?_ | with_reducible refine blockQ_f (by decide) ?_)) | (refine aw_exit ?_; repeat' (first | with_reducible refine thenQ_n ?_ | with_reducible refine blockQ_n ?_ | with_reducible refine thenQ_e ?_ | with_reducible refine blockQ_t ?_ | with_reducible refine blockQ_f (by decide) ?_)) | refine aw_ret ?_ | refine aw_block ?_ | refine aw_condT rfl ?_ | refine aw_condF rfl ?_ | ((first | refine aw_hide fun K hK => aw_region ?_ | refine acallB (va) (by repeat' (first | exact trivial | exact rfl | refine And.intro ?_ ?_)) (by kernel_rfl) (by kernel_rfl) (by kernel_rfl) ?_ | refine ago_if (by omega) ?_ | skip); simp (config := {maxSteps := 10000000}) (disch := first | exact okYes (by kernel_rfl) | omega) only [List.length, Nat.zero_add, Nat.reduceAdd, Nat.reduceMul, ARun_none, AOpRun, aexec, FSt.ev, St.F, eget_c, Nat.reduceBEq, ↓eget_h, cond_false, AGo_ok, St.app, putO, eput_c, eput_n, hups, List.map, hget_c, ↓hget_h, Nat.reduceLeDiff, ↓reduceIte, List.drop, List.take, dB, hput_c, beq_self_eq_true, hput_n, cond_true, List.append_nil, Bool.not_false, ARun_nil, dropE_c, inL_c, inL_n, dropE_n, thenQ]) | (subst hK; repeat' (first | with_reducible refine thenQ_n ?_ | with_reducible refine blockQ_n ?_ | with_reducible refine thenQ_e ?_ | with_reducible refine blockQ_t ?_ | with_reducible refine blockQ_f (by decide) ?_))))
    (refine end_to [] [] (by first | exact .inl rfl | exact .inr rfl) rfl (by kernel_rfl) (by kernel_rfl) (by kernel_rfl) ?_ ?_ <;> repeat' (first | exact trivial | exact vr_val _ | exact vr_nil | apply vr_tup | apply And.intro))
  | true =>
    rw [hv, if_pos rfl] at e
    rw [e, if_pos rfl] at er
    rw [er, e]
    rw [hv] at va
    have et2 := et hv
    generalize (evK (isJ l frs cs) h (frs.length + 1)).2 = L at *
    (have hg : (987654321 : Nat) - 987654321 = 0 := rfl; have hr := hg; repeat' (first | refine aw_seq ?_ | (refine aw_skip ?_; repeat' (first | with_reducible refine thenQ_n ?_ | with_reducible refine blockQ_n ?_ | with_reducible refine thenQ_e ?_ | with_reducible refine blockQ_t ?_ | with_reducible refine blockQ_f (by decide) ?_)) | (refine aw_exit ?_; repeat' (first | with_reducible refine thenQ_n ?_ | with_reducible refine blockQ_n ?_ | with_reducible refine thenQ_e ?_ | with_reducible refine blockQ_t ?_ | with_reducible refine blockQ_f (by decide) ?_)) | refine aw_ret ?_ | refine aw_block ?_ | refine aw_condT rfl ?_ | refine aw_condF rfl ?_ | ((first | refine aw_hide fun K hK => aw_region ?_ | refine acallB (va) (by repeat' (first | exact trivial | exact rfl | refine And.intro ?_ ?_)) (by kernel_rfl) (by kernel_rfl) (by kernel_rfl) ?_ | refine acallB (et2) (by repeat' (first | exact trivial | exact rfl | refine And.intro ?_ ?_)) (by kernel_rfl) (by kernel_rfl) (by kernel_rfl) ?_ | refine ago_if (by omega) ?_ | skip); simp (config := {maxSteps := 10000000}) (disch := first | exact okYes (by kernel_rfl) | omega) only [List.length, Nat.zero_add, Nat.reduceAdd, Nat.reduceMul, ARun_none, AOpRun, aexec, FSt.ev, St.F, eget_c, Nat.reduceBEq, ↓eget_h, cond_false, AGo_ok, St.app, putO, eput_c, eput_n, hups, List.map, hget_c, ↓hget_h, Nat.reduceLeDiff, ↓reduceIte, List.drop, List.take, dB, hput_c, beq_self_eq_true, hput_n, cond_true, List.append_nil, Bool.not_true, ARun_nil, dropE_c, inL_c, inL_n, dropE_n]) | (subst hK; repeat' (first | with_reducible refine thenQ_n ?_ | with_reducible refine blockQ_n ?_ | with_reducible refine thenQ_e ?_ | with_reducible refine blockQ_t ?_ | with_reducible refine blockQ_f (by decide) ?_))))
    (refine end_to [] [] (by first | exact .inl rfl | exact .inr rfl) rfl (by kernel_rfl) (by kernel_rfl) (by kernel_rfl) ?_ ?_ <;> repeat' (first | exact trivial | exact vr_val _ | exact vr_list _ | apply vr_tup | apply And.intro))
set_option maxRecDepth 100000 in
set_option maxHeartbeats 8000000 in
theorem checkE_ac (l : Lay) (cs : List Cd) (h : Int) (hn : cs.length ≤ maxLen) (hl : l.fl.length ≤ 1000) : AC Try.prog 49 [layD l, evD cs h] [] [] (dB (evB l cs h)) := by
  refine kref12_CheckEvent.ac (n0 := 0) (by simp) ⟨in_layD _ _, in_ev _ _ _, trivial⟩ trivial rfl ?_
  unfold cref12_CheckEvent evB
  have hmax : maxLen = 9223372036854775807 := rfl
  have h1 := from_ac cs.length 1 4
  have h3 := from_ac h 1 100
  have rf := fun x => rfield_ac l x hl
  unfold layD layC evD at *
  cases q1 : wI cs.length 1 4 with
  | false =>
    rw [q1] at h1
    rw [Bool.false_and, Bool.false_and]
    (have hg : (987654321 : Nat) - 987654321 = 0 := rfl; have hr := hg; repeat' (first | refine aw_seq ?_ | (refine aw_skip ?_; repeat' (first | with_reducible refine thenQ_n ?_ | with_reducible refine blockQ_n ?_ | with_reducible refine thenQ_e ?_ | with_reducible refine blockQ_t ?_ | with_reducible refine blockQ_f (by decide) ?_)) | (refine aw_exit ?_; repeat' (first | with_reducible refine thenQ_n ?_ | with_reducible refine blockQ_n ?_ | with_reducible refine thenQ_e ?_ | with_reducible refine blockQ_t ?_ | with_reducible refine blockQ_f (by decide) ?_)) | refine aw_ret ?_ | refine aw_block ?_ | refine aw_condT rfl ?_ | refine aw_condF rfl ?_ | ((first | refine aw_hide fun K hK => aw_region ?_ | refine acall0 (h1) ?_ | refine ago_if (by omega) ?_ | skip); simp (config := {maxSteps := 10000000}) (disch := first | exact okYes (by kernel_rfl) | omega) only [List.length, Nat.zero_add, Nat.reduceAdd, Nat.reduceMul, envOf, dI, ARun_none, AOpRun, aexec, D.isBot, FSt.ev, St.F, ↓eget_h, Bool.false_eq_true, Option.isSome, hget_n, or_self, ↓reduceIte, D.cells, AGo_ok, St.app, putO, eput_c, Nat.reduceBEq, eput_n, cond_false, hups, hput_n, List.map, eget_c, hget_c, hput_c, ARun_nil, dropE_c, inL_n, dropE_n, Option.map, run1, ↓hget_h, List.getElem?_cons_zero, cds_len, dB, Bool.not_false, ARun_some, AG_tf, inL_c, beq_self_eq_true, cond_true, thenQ]) | (subst hK; repeat' (first | with_reducible refine thenQ_n ?_ | with_reducible refine blockQ_n ?_ | with_reducible refine thenQ_e ?_ | with_reducible refine blockQ_t ?_ | with_reducible refine blockQ_f (by decide) ?_))))
    all_goals (refine end_to [] [] (by first | exact .inl rfl | exact .inr rfl) rfl (by kernel_rfl) (by kernel_rfl) (by kernel_rfl) ?_ ?_ <;> repeat' (first | exact trivial | exact vr_val _))
  | true =>
  rw [q1] at h1
  cases q3 : wI h 1 100 with
  | false =>
    rw [q3] at h3
    rw [Bool.and_false]
    (have hg : (987654321 : Nat) - 987654321 = 0 := rfl; have hr := hg; repeat' (first | refine aw_seq ?_ | (refine aw_skip ?_; repeat' (first | with_reducible refine thenQ_n ?_ | with_reducible refine blockQ_n ?_ | with_reducible refine thenQ_e ?_ | with_reducible refine blockQ_t ?_ | with_reducible refine blockQ_f (by decide) ?_)) | (refine aw_exit ?_; repeat' (first | with_reducible refine thenQ_n ?_ | with_reducible refine blockQ_n ?_ | with_reducible refine thenQ_e ?_ | with_reducible refine blockQ_t ?_ | with_reducible refine blockQ_f (by decide) ?_)) | refine aw_ret ?_ | refine aw_block ?_ | refine aw_condT rfl ?_ | refine aw_condF rfl ?_ | ((first | refine aw_hide fun K hK => aw_region ?_ | refine acall0 (h1) ?_ | refine acall0 (h3) ?_ | refine ago_if (by omega) ?_ | skip); simp (config := {maxSteps := 10000000}) (disch := first | exact okYes (by kernel_rfl) | omega) only [List.length, Nat.zero_add, Nat.reduceAdd, Nat.reduceMul, envOf, dI, ARun_none, AOpRun, aexec, D.isBot, FSt.ev, St.F, ↓eget_h, Bool.false_eq_true, Option.isSome, hget_n, or_self, ↓reduceIte, D.cells, AGo_ok, St.app, putO, eput_c, Nat.reduceBEq, eput_n, cond_false, hups, hput_n, List.map, eget_c, hget_c, hput_c, ARun_nil, dropE_c, inL_n, dropE_n, Option.map, run1, ↓hget_h, List.getElem?_cons_zero, cds_len, dB, Bool.not_true, ARun_some, AG_ff, List.getElem?_cons_succ, Bool.not_false, inL_c, beq_self_eq_true, cond_true, thenQ]) | (subst hK; repeat' (first | with_reducible refine thenQ_n ?_ | with_reducible refine blockQ_n ?_ | with_reducible refine thenQ_e ?_ | with_reducible refine blockQ_t ?_ | with_reducible refine blockQ_f (by decide) ?_))))
    all_goals (refine end_to [] [] (by first | exact .inl rfl | exact .inr rfl) rfl (by kernel_rfl) (by kernel_rfl) (by kernel_rfl) ?_ ?_ <;> repeat' (first | exact trivial | exact vr_val _))
  | true =>
  rw [q3] at h3
  have hcl := wI_t q1
  rw [Bool.true_and, Bool.and_true]
  refine aw_seq (aw_region ?_)
  simp (config := {maxSteps := 10000000}) (disch := first | exact okYes (by kernel_rfl) | omega) only [thenQ, List.map, Int.reduceNeg, dB, List.length, Nat.zero_add, Nat.reduceAdd, Nat.reduceMul, envOf, dI, ARun_none, AOpRun, aexec, D.isBot, FSt.ev, St.F, ↓eget_h, Bool.false_eq_true, Option.isSome, hget_n, or_self, ↓reduceIte, D.cells, AGo_ok, St.app, putO, eput_c, Nat.reduceBEq, eput_n, cond_false, hups, hput_n, eget_c, hget_c, hput_c, ARun_nil, dropE_c, inL_n, dropE_n]
  refine aw_seq (aw_seq (aw_region ?_))
  simp (config := {maxSteps := 10000000}) (disch := first | exact okYes (by kernel_rfl) | omega) only [thenQ, Int.reduceNeg, List.length, Nat.zero_add, Nat.reduceAdd, Nat.reduceMul, ARun_none, AOpRun, aexec, FSt.ev, St.F, eget_c, Nat.reduceBEq, ↓eget_h, cond_false, AGo_ok, St.app, putO, eput_c, eput_n, hups, List.map, Option.map, run1, hget_c, ↓hget_h, List.getElem?_cons_zero, cds_len]
  refine acall0 h1 ?_
  simp (config := {maxSteps := 10000000}) (disch := first | exact okYes (by kernel_rfl) | omega) only [Int.reduceNeg, Nat.reduceAdd, St.app, putO, dB, eput_c, Nat.reduceBEq, eput_n, cond_false, hups, ARun_none, AOpRun, aexec, FSt.ev, St.F, eget_c, ↓eget_h, Bool.not_true, AGo_ok, List.map, ARun_some, AG_ff, Nat.zero_add, Option.map, run1, hget_c, ↓hget_h, List.getElem?_cons_succ, List.getElem?_cons_zero]
  refine acall0 h3 ?_
  simp (config := {maxSteps := 10000000}) (disch := first | exact okYes (by kernel_rfl) | omega) only [Int.reduceNeg, Nat.reduceAdd, St.app, putO, dB, eput_c, Nat.reduceBEq, eput_n, cond_false, hups, ARun_some, eget_c, ↓eget_h, AG_ff, AOpRun, aexec, FSt.ev, St.F, Bool.not_true, AGo_ok, List.map, ARun_none, Bool.false_eq_true, ↓reduceIte, ARun_nil, dropE_c, inL_c, inL_n, beq_self_eq_true, cond_true, dropE_n]
  refine aw_condF rfl (aw_skip ?_)
  refine aw_seq (aw_seq (aw_region ?_))
  simp (config := {maxSteps := 10000000}) (disch := first | exact okYes (by kernel_rfl) | omega) only [thenQ, Int.reduceNeg, List.length, Nat.zero_add, Nat.reduceMul, Nat.reduceAdd, ARun_none, AOpRun, aexec, FSt.ev, AGo_ok, St.app, putO, eput_c, Nat.reduceBEq, eput_n, cond_false, hups, List.map, ARun_nil, dropE_c, inL_n, dropE_n]
  refine aw_block (aw_loop (fun k : Nat => ⟨[(2, .ptr 0 0), (3, .ptr 8 0), (5, dI k)], [(0, [dI l.words, dI l.s0, dI l.s1, dI l.s2, dI l.s3, .list (fls l.fl)]), (8, [.list (cds cs), dI h])], 400⟩) (fun k => k ≤ cs.length ∧ ∀ j, j < k → cdB l (cs[j]?.getD cd0) = true) (fun k => cs.length - k) ⟨0, ⟨by omega, fun j hj => by omega⟩, ?_⟩ ?_)
  · unfold dI
    refine wk_to [] [(0, 0), (8, 8)] (by kernel_rfl) (by kernel_rfl) (by kernel_rfl) (by kernel_rfl) (by kernel_rfl) ?_ ?_ <;> repeat' (first | exact trivial | exact vr_val _ | exact vr_list _ | exact vr_ptr _ _ _ rfl | refine And.intro ⟨_, rfl, .inl ⟨_, rfl, by decide, ?_⟩⟩ ?_ | apply And.intro)
  rintro k ⟨hk, hin⟩
  by_cases hk2 : k < cs.length
  case neg =>
    obtain rfl : k = cs.length := by omega
    have e : cs.all (cdB l) = true := List.all_eq_true.2 fun x hx => by
      obtain ⟨j, hj, rfl⟩ := List.getElem_of_mem hx
      have := hin j hj
      simpa [hj] using this
    rw [e]
    (have hg : (987654321 : Nat) - 987654321 = 0 := rfl; have hr := hg; repeat' (first | refine aw_seq ?_ | (refine aw_skip ?_; repeat' (first | with_reducible refine thenQ_n ?_ | with_reducible refine blockQ_n ?_ | with_reducible refine thenQ_e ?_ | with_reducible refine blockQ_t ?_ | with_reducible refine blockQ_f (by decide) ?_)) | (refine aw_exit ?_; repeat' (first | with_reducible refine thenQ_n ?_ | with_reducible refine blockQ_n ?_ | with_reducible refine thenQ_e ?_ | with_reducible refine blockQ_t ?_ | with_reducible refine blockQ_f (by decide) ?_)) | refine aw_ret ?_ | refine aw_block ?_ | refine aw_condT rfl ?_ | refine aw_condF rfl ?_ | (refine aw_cond rfl (fun hg => ?_) (fun hg => ?_) <;> (try (have hq := hg; simp only [Bool.not_eq_true', Bool.not_eq_false', Bool.and_eq_true, Bool.and_eq_false_iff, Bool.or_eq_true, Bool.or_eq_false_iff, decide_eq_true_eq, decide_eq_false_iff_not, bne_iff_ne, beq_iff_eq, beq_eq_false_iff_ne, bne_eq_false_iff_eq, ne_eq, Int.not_lt, Int.not_le, Decidable.not_not] at hq)) <;> (try (have hr := hg; simp only [decide_eq_true_eq, decide_eq_false_iff_not] at hr)) <;> (try (exfalso; omega))) | ((first | refine aw_hide fun K hK => aw_region ?_ | refine ago_if (by omega) ?_ | skip); simp (config := {maxSteps := 10000000}) (disch := first | exact okYes (by kernel_rfl) | omega) only [List.length, Nat.zero_add, Nat.reduceAdd, Nat.reduceMul, dI, ARun_none, AOpRun, aexec, FSt.ev, St.F, eget_c, Nat.reduceBEq, ↓eget_h, cond_false, AGo_ok, St.app, putO, eput_c, eput_n, hups, List.map, Option.map, run1, hget_c, ↓hget_h, List.getElem?_cons_zero, cds_len, isSh, Bool.false_eq_true, ↓reduceIte, abin, ARun_nil, dropE_c, inL_c, inL_n, beq_self_eq_true, cond_true, dropE_n, hr, decide_false]) | (subst hK; repeat' (first | with_reducible refine thenQ_n ?_ | with_reducible refine blockQ_n ?_ | with_reducible refine thenQ_e ?_ | with_reducible refine blockQ_t ?_ | with_reducible refine blockQ_f (by decide) ?_))))
    all_goals (refine end_to [] [] (by first | exact .inl rfl | exact .inr rfl) rfl (by kernel_rfl) (by kernel_rfl) (by kernel_rfl) ?_ ?_ <;> repeat' (first | exact trivial | exact vr_val _))
  have g1 := cds_gd cs k hk2
  have hall : cdB l (cs[k]?.getD cd0) = false → cs.all (cdB l) = false := fun h => List.all_eq_false.2 ⟨cs[k], List.getElem_mem hk2, by simpa [hk2] using h⟩
  have hnx : cdB l (cs[k]?.getD cd0) = true → ∀ j, j < k + 1 → cdB l (cs[j]?.getD cd0) = true := fun h j hj => by
    rcases (by omega : j < k ∨ j = k) with h' | rfl
    · exact hin j h'
    · exact h
  have ki : (k : Int) < (cs.length : Int) := by omega
  generalize cs[k]?.getD cd0 = c at *
  have r1 := rf c.field
  have r2 := from_ac c.lim (-1000000) 1000000
  have hcb : cdB l c = (wI c.field 0 ((l.fl.length : Int) - 1) && wI c.lim (-1000000) 1000000) := rfl
  unfold cdC at g1
  cases p1 : wI c.field 0 ((l.fl.length : Int) - 1) with
  | false =>
    rw [p1] at r1 hcb
    rw [hall (by rw [hcb]; rfl)]
    (have hg : (987654321 : Nat) - 987654321 = 0 := rfl; have hr := hg; repeat' (first | refine aw_seq ?_ | (refine aw_skip ?_; repeat' (first | with_reducible refine thenQ_n ?_ | with_reducible refine blockQ_n ?_ | with_reducible refine thenQ_e ?_ | with_reducible refine blockQ_t ?_ | with_reducible refine blockQ_f (by decide) ?_)) | (refine aw_exit ?_; repeat' (first | with_reducible refine thenQ_n ?_ | with_reducible refine blockQ_n ?_ | with_reducible refine thenQ_e ?_ | with_reducible refine blockQ_t ?_ | with_reducible refine blockQ_f (by decide) ?_)) | refine aw_ret ?_ | refine aw_block ?_ | refine aw_condT rfl ?_ | refine aw_condF rfl ?_ | ((first | refine aw_hide fun K hK => aw_region ?_ | refine acall0 (r1) ?_ | refine acall0 (r2) ?_ | refine ago_if (by omega) ?_ | skip); simp (config := {maxSteps := 10000000}) (disch := first | exact okYes (by kernel_rfl) | omega) only [List.length, Nat.zero_add, Nat.reduceAdd, Nat.reduceMul, dI, ARun_none, AOpRun, aexec, FSt.ev, St.F, eget_c, Nat.reduceBEq, ↓eget_h, cond_false, AGo_ok, St.app, putO, eput_c, eput_n, hups, List.map, Option.map, run1, hget_c, ↓hget_h, List.getElem?_cons_zero, cds_len, isSh, Bool.false_eq_true, ↓reduceIte, abin, ki, decide_true, ARun_nil, dropE_c, inL_c, inL_n, beq_self_eq_true, cond_true, dropE_n, Int.reduceNeg, hget_n, Nat.reduceLeDiff, List.drop, List.take, Int.natCast_nonneg, cds_all, and_self, opt1, Int.toNat_natCast, g1, dB, Bool.not_false, ARun_some, AG_tf, blockQ, thenQ]) | (subst hK; repeat' (first | with_reducible refine thenQ_n ?_ | with_reducible refine blockQ_n ?_ | with_reducible refine thenQ_e ?_ | with_reducible refine blockQ_t ?_ | with_reducible refine blockQ_f (by decide) ?_))))
    all_goals (refine end_to [] [] (by first | exact .inl rfl | exact .inr rfl) rfl (by kernel_rfl) (by kernel_rfl) (by kernel_rfl) ?_ ?_ <;> repeat' (first | exact trivial | exact vr_val _))
  | true =>
  rw [p1] at r1 hcb
  cases p2 : wI c.lim (-1000000) 1000000 with
  | false =>
    rw [p2] at r2 hcb
    rw [hall (by rw [hcb]; rfl)]
    (have hg : (987654321 : Nat) - 987654321 = 0 := rfl; have hr := hg; repeat' (first | refine aw_seq ?_ | (refine aw_skip ?_; repeat' (first | with_reducible refine thenQ_n ?_ | with_reducible refine blockQ_n ?_ | with_reducible refine thenQ_e ?_ | with_reducible refine blockQ_t ?_ | with_reducible refine blockQ_f (by decide) ?_)) | (refine aw_exit ?_; repeat' (first | with_reducible refine thenQ_n ?_ | with_reducible refine blockQ_n ?_ | with_reducible refine thenQ_e ?_ | with_reducible refine blockQ_t ?_ | with_reducible refine blockQ_f (by decide) ?_)) | refine aw_ret ?_ | refine aw_block ?_ | refine aw_condT rfl ?_ | refine aw_condF rfl ?_ | ((first | refine aw_hide fun K hK => aw_region ?_ | refine acall0 (r1) ?_ | refine acall0 (r2) ?_ | refine ago_if (by omega) ?_ | skip); simp (config := {maxSteps := 10000000}) (disch := first | exact okYes (by kernel_rfl) | omega) only [List.length, Nat.zero_add, Nat.reduceAdd, Nat.reduceMul, dI, ARun_none, AOpRun, aexec, FSt.ev, St.F, eget_c, Nat.reduceBEq, ↓eget_h, cond_false, AGo_ok, St.app, putO, eput_c, eput_n, hups, List.map, Option.map, run1, hget_c, ↓hget_h, List.getElem?_cons_zero, cds_len, isSh, Bool.false_eq_true, ↓reduceIte, abin, ki, decide_true, ARun_nil, dropE_c, inL_c, inL_n, beq_self_eq_true, cond_true, dropE_n, Int.reduceNeg, hget_n, Nat.reduceLeDiff, List.drop, List.take, Int.natCast_nonneg, cds_all, and_self, opt1, Int.toNat_natCast, g1, dB, Bool.not_true, ARun_some, AG_ff, Bool.not_false, blockQ, thenQ]) | (subst hK; repeat' (first | with_reducible refine thenQ_n ?_ | with_reducible refine blockQ_n ?_ | with_reducible refine thenQ_e ?_ | with_reducible refine blockQ_t ?_ | with_reducible refine blockQ_f (by decide) ?_))))
    all_goals (refine end_to [] [] (by first | exact .inl rfl | exact .inr rfl) rfl (by kernel_rfl) (by kernel_rfl) (by kernel_rfl) ?_ ?_ <;> repeat' (first | exact trivial | exact vr_val _))
  | true =>
    rw [p2] at r2 hcb
    (have hg : (987654321 : Nat) - 987654321 = 0 := rfl; have hr := hg; repeat' (first | refine aw_seq ?_ | (refine aw_skip ?_; repeat' (first | with_reducible refine thenQ_n ?_ | with_reducible refine blockQ_n ?_ | with_reducible refine thenQ_e ?_ | with_reducible refine blockQ_t ?_ | with_reducible refine blockQ_f (by decide) ?_)) | (refine aw_exit ?_; repeat' (first | with_reducible refine thenQ_n ?_ | with_reducible refine blockQ_n ?_ | with_reducible refine thenQ_e ?_ | with_reducible refine blockQ_t ?_ | with_reducible refine blockQ_f (by decide) ?_)) | refine aw_ret ?_ | refine aw_block ?_ | refine aw_condT rfl ?_ | refine aw_condF rfl ?_ | ((first | refine aw_hide fun K hK => aw_region ?_ | refine acall0 (r1) ?_ | refine acall0 (r2) ?_ | refine ago_if (by omega) ?_ | skip); simp (config := {maxSteps := 10000000}) (disch := first | exact okYes (by kernel_rfl) | omega) only [List.length, Nat.zero_add, Nat.reduceAdd, Nat.reduceMul, dI, ARun_none, AOpRun, aexec, FSt.ev, St.F, eget_c, Nat.reduceBEq, ↓eget_h, cond_false, AGo_ok, St.app, putO, eput_c, eput_n, hups, List.map, Option.map, run1, hget_c, ↓hget_h, List.getElem?_cons_zero, cds_len, isSh, Bool.false_eq_true, ↓reduceIte, abin, ki, decide_true, ARun_nil, dropE_c, inL_c, inL_n, beq_self_eq_true, cond_true, dropE_n, Int.reduceNeg, hget_n, Nat.reduceLeDiff, List.drop, List.take, Int.natCast_nonneg, cds_all, and_self, opt1, Int.toNat_natCast, g1, dB, Bool.not_true, ARun_some, AG_ff, fits]) | (subst hK; repeat' (first | with_reducible refine thenQ_n ?_ | with_reducible refine blockQ_n ?_ | with_reducible refine thenQ_e ?_ | with_reducible refine blockQ_t ?_ | with_reducible refine blockQ_f (by decide) ?_))))
    refine ⟨k + 1, ⟨by omega, hnx (by rw [hcb]; rfl)⟩, by omega, ?_⟩
    refine wk_to [] [(0, 0), (8, 8)] (by kernel_rfl) (by kernel_rfl) (by kernel_rfl) (by kernel_rfl) (by kernel_rfl) ?_ ?_ <;> repeat' (first | exact trivial | exact vr_val _ | exact vr_list _ | exact vr_ptr _ _ _ rfl | refine And.intro ⟨_, rfl, .inl ⟨_, rfl, by decide, ?_⟩⟩ ?_ | apply And.intro)
end Go.Proofs.Ytdcodicoclecnaa
/- The document of record: events (views last). No conditions. -/
set_option linter.unusedSimpArgs false
set_option linter.unusedVariables false
namespace Go.Proofs.Ytdcodicoclecnaa
open Go Go.RowKit Lift

/-- a look back from frame j to before frame k -/
theorem lookR_step {l : Lay} {frs : List (List Int)} {c : Cd} {f : Fl} {j k : Nat} (h : ¬ (k : Int) ≤ j - f.every) : lookR l frs c f j (k + 1) = match smp l f (frm frs k) with
    | some v => cndV c f v
    | none => lookR l frs c f j k := by
  rw [lookR, if_neg h]
  cases smp l f (frm frs k) <;> rfl
set_option maxRecDepth 100000 in
set_option maxHeartbeats 8000000 in
theorem holding_ac (l : Lay) (frs : List (List Int)) (c : Cd) (j : Nat) (h1 : LayOk l) (h2 : frs.length ≤ 200) (hf : FrIn frs) (hc : cdB l c = true) (hj : j < frs.length) : AC Try.prog 50 [layD l, .list (rows frs), .agg (cdC c), dI j] [] [] (dB (holdJ l frs c (fOf l c) j)) := by
  refine kref12_Holding.ac (n0 := 0) (by simp) ⟨in_layD _ _, .list _, in_cd _ _, .val _, trivial⟩ trivial rfl ?_
  unfold cref12_Holding
  unfold cdB at hc
  rw [Bool.and_eq_true] at hc
  have c1 := wI_t hc.1
  have c2 := wI_t hc.2
  have nf := h1.nf
  obtain ⟨k, hk⟩ : ∃ k : Nat, c.field = k := ⟨c.field.toNat, by omega⟩
  have hkn : k < l.fl.length := by omega
  have hfo : fOf l c = fAt l k := by unfold fOf fAt; rw [hk, Int.toNat_natCast]
  rw [hfo]
  have g1 : (fls l.fl)[k]? = some (flC (fAt l k)) := fls_gd l.fl k hkn
  have ki : (k : Int) < (l.fl.length : Int) := by omega
  have fa := fls_all l.fl
  have fl := fls_len l.fl
  have hF := fAt_ok h1 hkn
  have rs := fun i => rsample_ac l (fAt l k) (frm frs i) h1.w1 hF (hf.m i)
  generalize fAt l k = f at *
  have ev : f.every = 1 ∨ f.every = 2 ∨ f.every = 4 := hF.ev
  have mb := mul_bd (a := c.lim) (b := f.den) (A := 1000000) (B := 1000) (by omega) (by omega) (by have := hF.d1; omega) hF.d2
  have e1 : IntKind.i64.wrap (c.lim * f.den) = c.lim * f.den := wrap_in (by omega) (by omega)
  have e2 : IntKind.i64.wrap ((j : Int) - f.every) = (j : Int) - f.every := wrap_in (by omega) (by omega)
  unfold layD layC flD flC cdC at *
  rw [hk]
  refine aw_seq (aw_region ?_)
  simp (config := {maxSteps := 10000000}) (disch := first | exact okYes (by kernel_rfl) | omega) only [thenQ, List.map, dB, List.length, Nat.zero_add, Nat.reduceAdd, Nat.reduceMul, envOf, dI, ARun_none, AOpRun, aexec, D.isBot, FSt.ev, St.F, ↓eget_h, Bool.false_eq_true, Option.isSome, hget_n, or_self, ↓reduceIte, D.cells, AGo_ok, St.app, putO, eput_c, Nat.reduceBEq, eput_n, cond_false, hups, hput_n, eget_c, hget_c, hput_c, ARun_nil, dropE_c, inL_n, dropE_n]
  refine aw_seq (aw_region ?_)
  simp (config := {maxSteps := 10000000}) (disch := first | exact okYes (by kernel_rfl) | omega) only [thenQ, List.length, Nat.zero_add, Nat.reduceAdd, Nat.reduceMul, ARun_none, AOpRun, aexec, FSt.ev, St.F, eget_c, Nat.reduceBEq, ↓eget_h, cond_false, AGo_ok, St.app, putO, eput_c, eput_n, hups, List.map, Option.map, run1, hget_c, beq_self_eq_true, hget_n, cond_true, List.getElem?_cons_succ, List.getElem?_cons_zero, ↓hget_h, Int.natCast_nonneg, fa, and_self, ↓reduceIte, opt1, Int.toNat_natCast, g1, dI, dB, Nat.reduceLeDiff, List.take, Option.isSome, Bool.false_eq_true, hput_c, hput_n, D.isBot, D.cells, List.all, D.leaf, Bool.and_true, splice, List.nil_append, List.drop, List.append_nil, ARun_nil, dropE_c, inL_c, inL_n, dropE_n]
  refine aw_seq (aw_seq (aw_region ?_))
  simp (config := {maxSteps := 10000000}) (disch := first | exact okYes (by kernel_rfl) | omega) only [thenQ, List.length, Nat.zero_add, Nat.reduceAdd, Nat.reduceMul, ARun_none, AOpRun, aexec, FSt.ev, St.F, eget_c, Nat.reduceBEq, ↓eget_h, cond_false, AGo_ok, St.app, putO, eput_c, eput_n, hups, List.map, ARun_nil, dropE_c, inL_c, inL_n, beq_self_eq_true, cond_true, dropE_n]
  refine aw_block (aw_loop (fun i : Nat => ⟨[(1, .list (rows frs)), (3, dI j), (4, .ptr 0 0), (6, .ptr 8 0), (9, .ptr 16 0), (10, dI ((i : Int) - 1))], [(0, [dI l.words, dI l.s0, dI l.s1, dI l.s2, dI l.s3, .list (fls l.fl)]), (8, [dI k, dI c.lim, dB c.above]), (16, [dI f.word, dI f.bit, dI f.size, dB f.sgn, dI f.num, dI f.den, dI f.add, dI f.every, dI f.phase])], 400⟩) (fun i => i ≤ j + 1 ∧ lookR l frs c f j i = holdJ l frs c f j) (fun i => i) ⟨j + 1, ⟨by omega, rfl⟩, ?_⟩ ?_)
  · have e : ((j + 1 : Nat) : Int) - 1 = (j : Int) := by omega
    rw [e]
    unfold dI dB
    refine wk_to [] [(0, 0), (8, 8), (16, 72)] (by kernel_rfl) (by kernel_rfl) (by kernel_rfl) (by kernel_rfl) (by kernel_rfl) ?_ ?_ <;> repeat' (first | exact trivial | exact vr_val _ | exact vr_list _ | exact vr_ptr _ _ _ rfl | refine And.intro ⟨_, rfl, .inl ⟨_, rfl, by decide, ?_⟩⟩ ?_ | apply And.intro)
  rintro i ⟨hi, hlk⟩
  rw [← hlk]
  cases i with
  | zero =>
    have e : ((0 : Nat) : Int) - 1 = -1 := rfl
    rw [e]
    have q : decide ((-1 : Int) ≥ 0) = false := rfl
    show AWb _ _ _ _ _ _ _
    (have hg : (987654321 : Nat) - 987654321 = 0 := rfl; have hr := hg; repeat' (first | refine aw_seq ?_ | (refine aw_skip ?_; repeat' (first | with_reducible refine thenQ_n ?_ | with_reducible refine blockQ_n ?_ | with_reducible refine thenQ_e ?_ | with_reducible refine blockQ_t ?_ | with_reducible refine blockQ_f (by decide) ?_)) | (refine aw_exit ?_; repeat' (first | with_reducible refine thenQ_n ?_ | with_reducible refine blockQ_n ?_ | with_reducible refine thenQ_e ?_ | with_reducible refine blockQ_t ?_ | with_reducible refine blockQ_f (by decide) ?_)) | refine aw_ret ?_ | refine aw_block ?_ | refine aw_condT rfl ?_ | refine aw_condF rfl ?_ | ((first | refine aw_hide fun K hK => aw_region ?_ | refine ago_if (by omega) ?_ | skip); simp (config := {maxSteps := 10000000}) (disch := first | exact okYes (by kernel_rfl) | omega) only [List.length, Nat.zero_add, Nat.reduceAdd, Nat.reduceMul, dI, Int.reduceNeg, dB, ARun_none, AOpRun, aexec, FSt.ev, St.F, eget_c, Nat.reduceBEq, ↓eget_h, cond_false, AGo_ok, St.app, putO, eput_c, eput_n, hups, List.map, isSh, Bool.false_eq_true, ↓reduceIte, Option.map, abin, q, ARun_some, AG_ft, ARun_nil, dropE_c, inL_c, inL_n, beq_self_eq_true, cond_true, dropE_n]) | (subst hK; repeat' (first | with_reducible refine thenQ_n ?_ | with_reducible refine blockQ_n ?_ | with_reducible refine thenQ_e ?_ | with_reducible refine blockQ_t ?_ | with_reducible refine blockQ_f (by decide) ?_))))
    all_goals (refine end_to [] [] (by first | exact .inl rfl | exact .inr rfl) rfl (by kernel_rfl) (by kernel_rfl) (by kernel_rfl) ?_ ?_ <;> repeat' (first | exact trivial | exact vr_val _))
  | succ i =>
  have e : ((i + 1 : Nat) : Int) - 1 = (i : Int) := by omega
  rw [e]
  by_cases hfar : (i : Int) ≤ j - f.every
  · have q : decide ((i : Int) > (j : Int) - f.every) = false := decide_eq_false (by omega)
    have q0 : decide ((i : Int) ≥ 0) = true := decide_eq_true (by omega)
    have ef : lookR l frs c f j (i + 1) = false := by rw [lookR, if_pos hfar]
    rw [ef]
    (have hg : (987654321 : Nat) - 987654321 = 0 := rfl; have hr := hg; repeat' (first | refine aw_seq ?_ | (refine aw_skip ?_; repeat' (first | with_reducible refine thenQ_n ?_ | with_reducible refine blockQ_n ?_ | with_reducible refine thenQ_e ?_ | with_reducible refine blockQ_t ?_ | with_reducible refine blockQ_f (by decide) ?_)) | (refine aw_exit ?_; repeat' (first | with_reducible refine thenQ_n ?_ | with_reducible refine blockQ_n ?_ | with_reducible refine thenQ_e ?_ | with_reducible refine blockQ_t ?_ | with_reducible refine blockQ_f (by decide) ?_)) | refine aw_ret ?_ | refine aw_block ?_ | refine aw_condT rfl ?_ | refine aw_condF rfl ?_ | ((first | refine aw_hide fun K hK => aw_region ?_ | refine ago_if (by omega) ?_ | skip); simp (config := {maxSteps := 10000000}) (disch := first | exact okYes (by kernel_rfl) | omega) only [List.length, Nat.zero_add, Nat.reduceAdd, Nat.reduceMul, dI, dB, ARun_none, AOpRun, aexec, FSt.ev, St.F, eget_c, Nat.reduceBEq, ↓eget_h, cond_false, AGo_ok, St.app, putO, eput_c, eput_n, hups, List.map, isSh, Bool.false_eq_true, ↓reduceIte, Option.map, abin, Int.natCast_nonneg, decide_true, ARun_some, AG_tt, run1, hget_c, ↓hget_h, List.getElem?_cons_succ, List.getElem?_cons_zero, e2, q, ARun_nil, dropE_c, inL_c, inL_n, beq_self_eq_true, cond_true, dropE_n]) | (subst hK; repeat' (first | with_reducible refine thenQ_n ?_ | with_reducible refine blockQ_n ?_ | with_reducible refine thenQ_e ?_ | with_reducible refine blockQ_t ?_ | with_reducible refine blockQ_f (by decide) ?_))))
    all_goals (refine end_to [] [] (by first | exact .inl rfl | exact .inr rfl) rfl (by kernel_rfl) (by kernel_rfl) (by kernel_rfl) ?_ ?_ <;> repeat' (first | exact trivial | exact vr_val _))
  · have q : decide ((i : Int) > (j : Int) - f.every) = true := decide_eq_true (by omega)
    have q0 : decide ((i : Int) ≥ 0) = true := decide_eq_true (by omega)
    have g2 := rows_gd frs i (by omega)
    rw [show frs[i]?.getD [] = frm frs i from rfl] at g2
    have ii : (i : Int) < (frs.length : Int) := by omega
    have sf := rs i
    have hst := lookR_step (l := l) (frs := frs) (c := c) hfar
    cases hs : smp l f (frm frs i) with
    | some v =>
      rw [hs] at sf hst
      simp only [Option.getD_some, Option.isSome_some] at sf hst
      rw [hst]
      unfold cndV
      cases ha : c.above with
      | true =>
        rw [if_pos rfl]
        cases q3 : decide (v ≥ c.lim * f.den)
        all_goals
          (have hg : (987654321 : Nat) - 987654321 = 0 := rfl; have hr := hg; repeat' (first | refine aw_seq ?_ | (refine aw_skip ?_; repeat' (first | with_reducible refine thenQ_n ?_ | with_reducible refine blockQ_n ?_ | with_reducible refine thenQ_e ?_ | with_reducible refine blockQ_t ?_ | with_reducible refine blockQ_f (by decide) ?_)) | (refine aw_exit ?_; repeat' (first | with_reducible refine thenQ_n ?_ | with_reducible refine blockQ_n ?_ | with_reducible refine thenQ_e ?_ | with_reducible refine blockQ_t ?_ | with_reducible refine blockQ_f (by decide) ?_)) | refine aw_ret ?_ | refine aw_block ?_ | refine aw_condT rfl ?_ | refine aw_condF rfl ?_ | ((first | refine aw_hide fun K hK => aw_region ?_ | refine acall0 (sf) ?_ | refine ago_if (by omega) ?_ | skip); simp (config := {maxSteps := 10000000}) (disch := first | exact okYes (by kernel_rfl) | omega) only [List.length, Nat.zero_add, Nat.reduceAdd, Nat.reduceMul, dI, dB, ARun_none, AOpRun, aexec, FSt.ev, St.F, eget_c, Nat.reduceBEq, ↓eget_h, cond_false, AGo_ok, St.app, putO, eput_c, eput_n, hups, List.map, isSh, Bool.false_eq_true, ↓reduceIte, Option.map, abin, Int.natCast_nonneg, decide_true, ARun_some, AG_tt, run1, hget_c, ↓hget_h, List.getElem?_cons_succ, List.getElem?_cons_zero, e2, q, ARun_nil, dropE_c, inL_c, inL_n, beq_self_eq_true, cond_true, dropE_n, hget_n, Nat.reduceLeDiff, List.drop, List.take, rows_all, and_self, opt1, Int.toNat_natCast, g2, e1, q3, AG_ff, Bool.not_true, AG_ft, blockQ, thenQ, AG_tf, AG_un]) | (subst hK; repeat' (first | with_reducible refine thenQ_n ?_ | with_reducible refine blockQ_n ?_ | with_reducible refine thenQ_e ?_ | with_reducible refine blockQ_t ?_ | with_reducible refine blockQ_f (by decide) ?_))))
          all_goals (refine end_to [] [] (by first | exact .inl rfl | exact .inr rfl) rfl (by kernel_rfl) (by kernel_rfl) (by kernel_rfl) ?_ ?_ <;> repeat' (first | exact trivial | exact vr_val _))
      | false =>
        rw [if_neg (by simp)]
        cases q3 : decide (v ≤ c.lim * f.den)
        all_goals
          (have hg : (987654321 : Nat) - 987654321 = 0 := rfl; have hr := hg; repeat' (first | refine aw_seq ?_ | (refine aw_skip ?_; repeat' (first | with_reducible refine thenQ_n ?_ | with_reducible refine blockQ_n ?_ | with_reducible refine thenQ_e ?_ | with_reducible refine blockQ_t ?_ | with_reducible refine blockQ_f (by decide) ?_)) | (refine aw_exit ?_; repeat' (first | with_reducible refine thenQ_n ?_ | with_reducible refine blockQ_n ?_ | with_reducible refine thenQ_e ?_ | with_reducible refine blockQ_t ?_ | with_reducible refine blockQ_f (by decide) ?_)) | refine aw_ret ?_ | refine aw_block ?_ | refine aw_condT rfl ?_ | refine aw_condF rfl ?_ | ((first | refine aw_hide fun K hK => aw_region ?_ | refine acall0 (sf) ?_ | refine ago_if (by omega) ?_ | skip); simp (config := {maxSteps := 10000000}) (disch := first | exact okYes (by kernel_rfl) | omega) only [List.length, Nat.zero_add, Nat.reduceAdd, Nat.reduceMul, dI, dB, ARun_none, AOpRun, aexec, FSt.ev, St.F, eget_c, Nat.reduceBEq, ↓eget_h, cond_false, AGo_ok, St.app, putO, eput_c, eput_n, hups, List.map, isSh, Bool.false_eq_true, ↓reduceIte, Option.map, abin, Int.natCast_nonneg, decide_true, ARun_some, AG_tt, run1, hget_c, ↓hget_h, List.getElem?_cons_succ, List.getElem?_cons_zero, e2, q, ARun_nil, dropE_c, inL_c, inL_n, beq_self_eq_true, cond_true, dropE_n, hget_n, Nat.reduceLeDiff, List.drop, List.take, rows_all, and_self, opt1, Int.toNat_natCast, g2, AG_ft, AG_ff, Bool.not_false, e1, q3, blockQ, thenQ]) | (subst hK; repeat' (first | with_reducible refine thenQ_n ?_ | with_reducible refine blockQ_n ?_ | with_reducible refine thenQ_e ?_ | with_reducible refine blockQ_t ?_ | with_reducible refine blockQ_f (by decide) ?_))))
          all_goals (refine end_to [] [] (by first | exact .inl rfl | exact .inr rfl) rfl (by kernel_rfl) (by kernel_rfl) (by kernel_rfl) ?_ ?_ <;> repeat' (first | exact trivial | exact vr_val _))
    | none =>
      rw [hs] at sf hst
      simp only [Option.getD_none, Option.isSome_none] at sf hst
      (have hg : (987654321 : Nat) - 987654321 = 0 := rfl; have hr := hg; repeat' (first | refine aw_seq ?_ | (refine aw_skip ?_; repeat' (first | with_reducible refine thenQ_n ?_ | with_reducible refine blockQ_n ?_ | with_reducible refine thenQ_e ?_ | with_reducible refine blockQ_t ?_ | with_reducible refine blockQ_f (by decide) ?_)) | (refine aw_exit ?_; repeat' (first | with_reducible refine thenQ_n ?_ | with_reducible refine blockQ_n ?_ | with_reducible refine thenQ_e ?_ | with_reducible refine blockQ_t ?_ | with_reducible refine blockQ_f (by decide) ?_)) | refine aw_ret ?_ | refine aw_block ?_ | refine aw_condT rfl ?_ | refine aw_condF rfl ?_ | ((first | refine aw_hide fun K hK => aw_region ?_ | refine acall0 (sf) ?_ | refine ago_if (by omega) ?_ | skip); simp (config := {maxSteps := 10000000}) (disch := first | exact okYes (by kernel_rfl) | omega) only [List.length, Nat.zero_add, Nat.reduceAdd, Nat.reduceMul, dI, dB, ARun_none, AOpRun, aexec, FSt.ev, St.F, eget_c, Nat.reduceBEq, ↓eget_h, cond_false, AGo_ok, St.app, putO, eput_c, eput_n, hups, List.map, isSh, Bool.false_eq_true, ↓reduceIte, Option.map, abin, Int.natCast_nonneg, decide_true, ARun_some, AG_tt, run1, hget_c, ↓hget_h, List.getElem?_cons_succ, List.getElem?_cons_zero, e2, q, ARun_nil, dropE_c, inL_c, inL_n, beq_self_eq_true, cond_true, dropE_n, hget_n, Nat.reduceLeDiff, List.drop, List.take, rows_all, and_self, opt1, Int.toNat_natCast, g2, fits]) | (subst hK; repeat' (first | with_reducible refine thenQ_n ?_ | with_reducible refine blockQ_n ?_ | with_reducible refine thenQ_e ?_ | with_reducible refine blockQ_t ?_ | with_reducible refine blockQ_f (by decide) ?_))))
      refine ⟨i, ⟨by omega, by rw [← hst, hlk]⟩, by omega, ?_⟩
      refine wk_to [] [(0, 0), (8, 8), (16, 16)] (by kernel_rfl) (by kernel_rfl) (by kernel_rfl) (by kernel_rfl) (by kernel_rfl) ?_ ?_ <;> repeat' (first | exact trivial | exact vr_val _ | exact vr_list _ | exact vr_ptr _ _ _ rfl | refine And.intro ⟨_, rfl, .inl ⟨_, rfl, by decide, ?_⟩⟩ ?_ | apply And.intro)
end Go.Proofs.Ytdcodicoclecnaa
/- The document of record: all events (views last). No conditions. -/
set_option linter.unusedSimpArgs false
set_option linter.unusedVariables false
namespace Go.Proofs.Ytdcodicoclecnaa
open Go Go.RowKit Lift

theorem isJ_all {l : Lay} {frs : List (List Int)} {cs : List Cd} {j : Nat} (h : j < frs.length) : isJ l frs cs j = allK l frs cs cs.length j := by
  rw [← aF_end]; unfold aF; rw [decide_eq_true h, Bool.true_and]
end Go.Proofs.Ytdcodicoclecnaa
/- A safety case, in numbers. No conditions. -/
namespace Go.Proofs.Ytdcodicoclecnaa
open Go.RowKit Lift

/-- a claim -/
structure Clm where
  needs : List Int
  proofs : List Int
  any : Bool
/-- a case -/
structure Cas where
  cl : List Clm
  pf : List (Int × Int)
def clC (x : Clm) : List D := [.list (ints x.needs), .list (ints x.proofs), dB x.any]
def cls (l : List Clm) : List (List D) := l.map clC
def cl0 : Clm := ⟨[], [], false⟩
theorem cls_len (l : List Clm) : (cls l).length = l.length := by simp [cls]
theorem cls_all (l : List Clm) : (cls l).all (fun x => x.length == 3) = true := by simp [cls, clC]
theorem cls_three (l : List Clm) : ∀ e ∈ cls l, e.length = 3 := by simp [cls, clC]
theorem cls_gd (l : List Clm) (k : Nat) (h : k < l.length) : (cls l)[k]? = some (clC (l[k]?.getD cl0)) := by simp [cls, h]
/-- strictly ascending, from 0 to below a limit -/
def Asc (l : List Int) (b : Int) : Prop := ∀ i, i < l.length → 0 ≤ l[i]?.getD 0 ∧ l[i]?.getD 0 < b ∧ (0 < i → l[i - 1]?.getD 0 < l[i]?.getD 0)
def pfOk (a : Int × Int) : Prop := 0 ≤ a.1 ∧ a.1 ≤ a.2 ∧ a.2 ≤ 2000
instance (a : Int × Int) : Decidable (pfOk a) := inferInstanceAs (Decidable (_ ∧ _))
def clAt (c : Cas) (i : Nat) : Clm := c.cl[i]?.getD cl0
def pfAt (c : Cas) (i : Nat) : Int × Int := c.pf[i]?.getD (0, 0)
structure CasOk (c : Cas) : Prop where
  n1 : c.cl.length ≤ 16
  n2 : c.pf.length ≤ 12
  asc : ∀ i, i < c.cl.length → Asc (clAt c i).needs i ∧ Asc (clAt c i).proofs c.pf.length
  pf : ∀ i, i < c.pf.length → pfOk (pfAt c i)
open Classical in
noncomputable def casE (c : Cas) (E : Int) : Int := if CasOk c then 0 else E
theorem casE_ok {c : Cas} {E : Int} (h : CasOk c) : casE c E = 0 := if_pos h
theorem casE_no {c : Cas} {E : Int} (h : ¬ CasOk c) : casE c E = E := if_neg h
noncomputable def clmE (c : Cas) (claim tick E A : Int) : Int := if casE c E ≠ 0 then casE c E else if 0 ≤ claim ∧ claim ≤ (c.cl.length : Int) - 1 ∧ 0 ≤ tick ∧ tick ≤ 2000 then 0 else A
/-- the proofs that count in a tick -/
def cntT (c : Cas) (tick : Int) (i : Nat) : Bool := decide (i < c.pf.length) && (decide ((pfAt c i).1 ≤ tick) && decide (tick ≤ (pfAt c i).2))
/-- whether a claim holds, those before it known -/
def clV (x : Clm) (h : List Bool) (cn : Nat → Bool) : Bool :=
  if x.any = true then x.needs.any (fun n => h[n.toNat]?.getD false) || x.proofs.any (fun n => cn n.toNat)
  else x.needs.all (fun n => h[n.toNat]?.getD false) && x.proofs.all (fun n => cn n.toNat)
def hlK (c : Cas) (cn : Nat → Bool) : Nat → List Bool
  | 0 => []
  | i + 1 => hlK c cn i ++ [clV (clAt c i) (hlK c cn i) cn]
theorem hlK_len (c : Cas) (cn : Nat → Bool) : ∀ i, (hlK c cn i).length = i
  | 0 => rfl
  | i + 1 => by simp [hlK, hlK_len c cn i]
/-- whether a claim holds with proofs -/
def holdC (c : Cas) (cl : Nat) (cn : Nat → Bool) : Bool := (hlK c cn (cl + 1))[cl]?.getD false
/-- the list that is filled, claim by claim -/
def hlF (c : Cas) (cn : Nat → Bool) (n i : Nat) : List Bool := (List.range n).map fun j => if j < i then (hlK c cn i)[j]?.getD false else false
theorem hlF_len (c : Cas) (cn : Nat → Bool) (n i : Nat) : (hlF c cn n i).length = n := by simp [hlF]
theorem hlF_get (c : Cas) (cn : Nat → Bool) (n i j : Nat) (h : j < i) (hn : j < n) : (hlF c cn n i)[j]?.getD false = (hlK c cn i)[j]?.getD false := by simp [hlF, hn, h]
theorem hlF_zero (c : Cas) (cn : Nat → Bool) (n : Nat) : hlF c cn n 0 = List.replicate n false := by
  unfold hlF
  refine List.ext_getElem (by simp) fun i h1 h2 => ?_
  simp
theorem hlF_succ (c : Cas) (cn : Nat → Bool) (n i : Nat) (h : i < n) : hlF c cn n (i + 1) = (hlF c cn n i).set i (clV (clAt c i) (hlK c cn i) cn) := by
  unfold hlF
  refine List.ext_getElem (by simp) fun j h1 h2 => ?_
  rw [List.getElem_set]
  simp only [List.getElem_map, List.getElem_range]
  have hl := hlK_len c cn i
  by_cases e : i = j
  · subst e
    rw [if_pos rfl, if_pos (by omega), hlK, List.getElem?_append_right (by omega)]
    simp [hl]
  · rw [if_neg e]
    by_cases hj : j < i
    · rw [if_pos (by omega), if_pos hj, hlK, List.getElem?_append_left (by omega)]
    · rw [if_neg (by omega), if_neg hj]
/-- only the proofs that are named count -/
theorem asc_lt {l : List Int} {b : Int} (h : Asc l b) {n : Int} (hn : n ∈ l) : 0 ≤ n ∧ n < b := by
  obtain ⟨i, hi, rfl⟩ := List.getElem_of_mem hn
  have := h i hi
  simp [hi] at this
  exact ⟨this.1, this.2.1⟩
end Go.Proofs.Ytdcodicoclecnaa
