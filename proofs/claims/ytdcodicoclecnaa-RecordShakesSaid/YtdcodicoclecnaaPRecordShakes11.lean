/- Texts of the law RecordShakes, part 11. No conditions. -/
import Derived.Test.YtdcodicoclecnaaPRecordShakes10
/- The document of record: a frame's subframe, a sample. No conditions. -/
set_option linter.unusedSimpArgs false
set_option linter.unusedVariables false
namespace Go.Proofs.Ytdcodicoclecnaa
open Go Go.RowKit Lift

theorem idx4_at (l : Lay) (x : Int) (k : Nat) (hk : k < 4) (hn : ∀ j, j < k → x ≠ (sync l)[j]?.getD 0) (he : x = (sync l)[k]?.getD 0) : idx4 l x = k := by
  rw [← idx_sync]
  exact idx_at (l := sync l) (by simpa [sync] using hk) (fun j hj h => hn j hj h.symm) he.symm
theorem idx4_no (l : Lay) (x : Int) (hn : ∀ j, j < 4 → x ≠ (sync l)[j]?.getD 0) : idx4 l x = -1 := by
  rw [← idx_sync]
  exact idx_no fun j hj h => hn j (by simpa [sync] using hj) h.symm
set_option maxRecDepth 100000 in
set_option maxHeartbeats 4000000 in
theorem subf_ac (l : Lay) (fr : List Int) (hw : 2 ≤ l.words) (hl : fr.length ≤ maxLen) : AC Try.prog 73 [layD l, .list (ints fr)] [] [] (dI (subF l fr)) := by
  refine kref12_Subframe.ac (n0 := 0) (by simp) ⟨in_layD _ _, .list _, trivial⟩ trivial rfl ?_
  unfold cref12_Subframe layD layC
  have hmax : maxLen = 9223372036854775807 := rfl
  by_cases hlen : (fr.length : Int) = l.words
  case neg =>
    have q : ((fr.length : Int) != l.words) = true := by simpa using hlen
    rw [show subF l fr = -1 from if_neg fun h => hlen h.1]
    (have hg : (987654321 : Nat) - 987654321 = 0 := rfl; have hr := hg; repeat' (first | refine aw_seq ?_ | (refine aw_skip ?_; try simp only [thenQ, blockQ, if_true, if_false, Nat.reduceEqDiff, reduceCtorEq]) | (refine aw_exit ?_; try simp only [thenQ, blockQ, if_true, if_false, Nat.reduceEqDiff, reduceCtorEq]) | refine aw_ret ?_ | refine aw_block ?_ | refine aw_condT rfl ?_ | refine aw_condF rfl ?_ | ((first | refine aw_region ?_ | refine ago_if (by omega) ?_ | skip); simp (config := {maxSteps := 10000000}) (disch := first | exact okYes (by kernel_rfl) | omega) only [thenQ, List.map, Int.reduceNeg, dI, List.length, Nat.zero_add, Nat.reduceAdd, Nat.reduceMul, envOf, ARun_none, AOpRun, aexec, D.isBot, FSt.ev, St.F, ↓eget_h, Bool.false_eq_true, Option.isSome, hget_n, or_self, ↓reduceIte, D.cells, AGo_ok, St.app, putO, eput_c, Nat.reduceBEq, eput_n, cond_false, hups, hput_n, ARun_nil, dropE_c, inL_n, dropE_n, eget_c, ints_len, Option.map, run1, hget_c, beq_self_eq_true, cond_true, List.getElem?_cons_zero, isSh, abin, q, inL_c])))
    all_goals (refine end_to [] [] (by first | exact .inl rfl | exact .inr rfl) rfl (by kernel_rfl) (by kernel_rfl) (by kernel_rfl) ?_ ?_ <;> repeat' (first | exact trivial | exact vr_val _))
  have q : ((fr.length : Int) != l.words) = false := by simpa using hlen
  refine aw_seq (aw_region ?_)
  simp (config := {maxSteps := 10000000}) (disch := first | exact okYes (by kernel_rfl) | omega) only [thenQ, List.map, Int.reduceNeg, dI, List.length, Nat.zero_add, Nat.reduceAdd, Nat.reduceMul, envOf, ARun_none, AOpRun, aexec, D.isBot, FSt.ev, St.F, ↓eget_h, Bool.false_eq_true, Option.isSome, hget_n, or_self, ↓reduceIte, D.cells, AGo_ok, St.app, putO, eput_c, Nat.reduceBEq, eput_n, cond_false, hups, hput_n, ARun_nil, dropE_c, inL_n, dropE_n]
  refine aw_seq (aw_seq (aw_region ?_))
  simp (config := {maxSteps := 10000000}) (disch := first | exact okYes (by kernel_rfl) | omega) only [thenQ, Int.reduceNeg, List.length, Nat.zero_add, Nat.reduceAdd, Nat.reduceMul, ARun_none, AOpRun, aexec, FSt.ev, St.F, eget_c, Nat.reduceBEq, ↓eget_h, cond_false, AGo_ok, St.app, putO, eput_c, eput_n, hups, List.map, ints_len, Option.map, run1, hget_c, beq_self_eq_true, hget_n, cond_true, List.getElem?_cons_zero, isSh, Bool.false_eq_true, ↓reduceIte, abin, q, ARun_nil, dropE_c, inL_c, inL_n, dropE_n]
  refine aw_condF rfl (aw_skip ?_)
  have hall : ∀ k, (∀ j, j < k → wOk (fr[j]?.getD 0) = true) → k = fr.length → fr.all wOk = true := fun k h hk => List.all_eq_true.2 fun x hx => by
    obtain ⟨j, hj, rfl⟩ := List.getElem_of_mem hx
    have := h j (by omega)
    simpa [hj] using this
  by_cases ha : fr.all wOk = true
  case neg =>
    rw [show subF l fr = -1 from if_neg fun h => ha h.2]
    refine aw_seq (aw_seq (aw_region ?_))
    simp (config := {maxSteps := 10000000}) (disch := first | exact okYes (by kernel_rfl) | omega) only [thenQ, Int.reduceNeg, List.length, Nat.zero_add, Nat.reduceMul, Nat.reduceAdd, ARun_none, AOpRun, aexec, FSt.ev, AGo_ok, St.app, putO, eput_c, Nat.reduceBEq, eput_n, cond_false, hups, List.map, ARun_nil, dropE_c, inL_n, dropE_n]
    refine aw_block (aw_loop (fun k : Nat => ⟨[(1, .list (ints fr)), (2, .ptr 0 0), (5, dI k)], [(0, [dI l.words, dI l.s0, dI l.s1, dI l.s2, dI l.s3, .list (fls l.fl)])], 400⟩) (fun k => k ≤ fr.length ∧ ∀ j, j < k → wOk (fr[j]?.getD 0) = true) (fun k => fr.length - k) ⟨0, ⟨by omega, fun j hj => by omega⟩, ?_⟩ ?_)
    · unfold dI
      refine wk_to [] [(0, 0)] (by kernel_rfl) (by kernel_rfl) (by kernel_rfl) (by kernel_rfl) (by kernel_rfl) ?_ ?_ <;> repeat' (first | exact trivial | exact vr_val _ | exact vr_list _ | exact vr_ptr _ _ _ rfl | refine And.intro ⟨_, rfl, .inl ⟨_, rfl, by decide, ?_⟩⟩ ?_ | apply And.intro)
    rintro k ⟨hk, hin⟩
    by_cases hk2 : k < fr.length
    case neg => exact absurd (hall k hin (by omega)) ha
    have g1 := ints_gd fr k hk2
    have fa := from_ac (fr[k]?.getD 0) 0 4095
    rw [wI_w] at fa
    cases he : wOk (fr[k]?.getD 0) with
    | false =>
      rw [he] at fa
      (have hg : (987654321 : Nat) - 987654321 = 0 := rfl; have hr := hg; repeat' (first | refine aw_seq ?_ | (refine aw_skip ?_; try simp only [thenQ, blockQ, if_true, if_false, Nat.reduceEqDiff, reduceCtorEq]) | (refine aw_exit ?_; try simp only [thenQ, blockQ, if_true, if_false, Nat.reduceEqDiff, reduceCtorEq]) | refine aw_ret ?_ | refine aw_block ?_ | refine aw_condT rfl ?_ | refine aw_condF rfl ?_ | (refine aw_cond rfl (fun hg => ?_) (fun hg => ?_) <;> (try (have hq := hg; simp only [Bool.not_eq_true', Bool.not_eq_false', Bool.and_eq_true, Bool.and_eq_false_iff, Bool.or_eq_true, Bool.or_eq_false_iff, decide_eq_true_eq, decide_eq_false_iff_not, bne_iff_ne, beq_iff_eq, beq_eq_false_iff_ne, bne_eq_false_iff_eq, ne_eq, Int.not_lt, Int.not_le, Decidable.not_not] at hq)) <;> (try (have hr := hg; simp only [decide_eq_true_eq, decide_eq_false_iff_not] at hr)) <;> (try (exfalso; omega))) | ((first | refine aw_region ?_ | refine acall0 (fa) ?_ | refine ago_if (by omega) ?_ | skip); simp (config := {maxSteps := 10000000}) (disch := first | exact okYes (by kernel_rfl) | omega) only [thenQ, Int.reduceNeg, dI, List.length, Nat.zero_add, Nat.reduceAdd, Nat.reduceMul, ARun_none, AOpRun, aexec, FSt.ev, St.F, eget_c, Nat.reduceBEq, ↓eget_h, cond_false, AGo_ok, St.app, putO, eput_c, eput_n, hups, List.map, ints_len, isSh, Bool.false_eq_true, ↓reduceIte, Option.map, abin, ARun_nil, dropE_c, inL_c, inL_n, beq_self_eq_true, cond_true, dropE_n, hr, decide_true, Int.natCast_nonneg, ints_all, and_self, opt1, Int.toNat_natCast, g1, run1, List.getElem?_cons_zero, dB, Bool.not_false, blockQ])))
      all_goals (refine end_to [] [] (by first | exact .inl rfl | exact .inr rfl) rfl (by kernel_rfl) (by kernel_rfl) (by kernel_rfl) ?_ ?_ <;> repeat' (first | exact trivial | exact vr_val _))
    | true =>
      rw [he] at fa
      (have hg : (987654321 : Nat) - 987654321 = 0 := rfl; have hr := hg; repeat' (first | refine aw_seq ?_ | (refine aw_skip ?_; try simp only [thenQ, blockQ, if_true, if_false, Nat.reduceEqDiff, reduceCtorEq]) | (refine aw_exit ?_; try simp only [thenQ, blockQ, if_true, if_false, Nat.reduceEqDiff, reduceCtorEq]) | refine aw_ret ?_ | refine aw_block ?_ | refine aw_condT rfl ?_ | refine aw_condF rfl ?_ | (refine aw_cond rfl (fun hg => ?_) (fun hg => ?_) <;> (try (have hq := hg; simp only [Bool.not_eq_true', Bool.not_eq_false', Bool.and_eq_true, Bool.and_eq_false_iff, Bool.or_eq_true, Bool.or_eq_false_iff, decide_eq_true_eq, decide_eq_false_iff_not, bne_iff_ne, beq_iff_eq, beq_eq_false_iff_ne, bne_eq_false_iff_eq, ne_eq, Int.not_lt, Int.not_le, Decidable.not_not] at hq)) <;> (try (have hr := hg; simp only [decide_eq_true_eq, decide_eq_false_iff_not] at hr)) <;> (try (exfalso; omega))) | ((first | refine aw_region ?_ | refine acall0 (fa) ?_ | refine ago_if (by omega) ?_ | skip); simp (config := {maxSteps := 10000000}) (disch := first | exact okYes (by kernel_rfl) | omega) only [thenQ, Int.reduceNeg, dI, List.length, Nat.zero_add, Nat.reduceAdd, Nat.reduceMul, ARun_none, AOpRun, aexec, FSt.ev, St.F, eget_c, Nat.reduceBEq, ↓eget_h, cond_false, AGo_ok, St.app, putO, eput_c, eput_n, hups, List.map, ints_len, isSh, Bool.false_eq_true, ↓reduceIte, Option.map, abin, ARun_nil, dropE_c, inL_c, inL_n, beq_self_eq_true, cond_true, dropE_n, hr, decide_true, Int.natCast_nonneg, ints_all, and_self, opt1, Int.toNat_natCast, g1, run1, List.getElem?_cons_zero, dB, Bool.not_true, fits])))
      refine ⟨k + 1, ⟨by omega, fun j hj => ?_⟩, by omega, ?_⟩
      · rcases (by omega : j < k ∨ j = k) with h | rfl
        · exact hin j h
        · exact he
      · refine wk_to [] [(0, 0)] (by kernel_rfl) (by kernel_rfl) (by kernel_rfl) (by kernel_rfl) (by kernel_rfl) ?_ ?_ <;> repeat' (first | exact trivial | exact vr_val _ | exact vr_list _ | exact vr_ptr _ _ _ rfl | refine And.intro ⟨_, rfl, .inl ⟨_, rfl, by decide, ?_⟩⟩ ?_ | apply And.intro)
  have hsub : subF l fr = idx4 l (fr[0]?.getD 0) := if_pos ⟨hlen, ha⟩
  refine aw_cut ⟨[(1, .list (ints fr)), (2, .ptr 0 0)], [(0, [dI l.words, dI l.s0, dI l.s1, dI l.s2, dI l.s3, .list (fls l.fl)])], 600⟩ ?_ ?_
  · refine aw_seq (aw_region ?_)
    simp (config := {maxSteps := 10000000}) (disch := first | exact okYes (by kernel_rfl) | omega) only [thenQ, Int.reduceNeg, dI, List.length, Nat.zero_add, Nat.reduceMul, Nat.reduceAdd, ARun_none, AOpRun, aexec, FSt.ev, AGo_ok, St.app, putO, eput_c, Nat.reduceBEq, eput_n, cond_false, hups, List.map, ARun_nil, dropE_c, inL_n, dropE_n]
    refine aw_block (aw_loop (fun k : Nat => ⟨[(1, .list (ints fr)), (2, .ptr 0 0), (5, dI k)], [(0, [dI l.words, dI l.s0, dI l.s1, dI l.s2, dI l.s3, .list (fls l.fl)])], 400⟩) (fun k => k ≤ fr.length ) (fun k => fr.length - k) ⟨0, by omega, ?_⟩ ?_)
    · unfold dI
      refine wk_to [] [(0, 0)] (by kernel_rfl) (by kernel_rfl) (by kernel_rfl) (by kernel_rfl) (by kernel_rfl) ?_ ?_ <;> repeat' (first | exact trivial | exact vr_val _ | exact vr_list _ | exact vr_ptr _ _ _ rfl | refine And.intro ⟨_, rfl, .inl ⟨_, rfl, by decide, ?_⟩⟩ ?_ | apply And.intro)
    intro k hk
    by_cases hk2 : k < fr.length
    case neg =>
      obtain rfl : k = fr.length := by omega
      (have hg : (987654321 : Nat) - 987654321 = 0 := rfl; have hr := hg; repeat' (first | refine aw_seq ?_ | (refine aw_skip ?_; try simp only [thenQ, blockQ, if_true, if_false, Nat.reduceEqDiff, reduceCtorEq]) | (refine aw_exit ?_; try simp only [thenQ, blockQ, if_true, if_false, Nat.reduceEqDiff, reduceCtorEq]) | refine aw_ret ?_ | refine aw_block ?_ | refine aw_condT rfl ?_ | refine aw_condF rfl ?_ | (refine aw_cond rfl (fun hg => ?_) (fun hg => ?_) <;> (try (have hq := hg; simp only [Bool.not_eq_true', Bool.not_eq_false', Bool.and_eq_true, Bool.and_eq_false_iff, Bool.or_eq_true, Bool.or_eq_false_iff, decide_eq_true_eq, decide_eq_false_iff_not, bne_iff_ne, beq_iff_eq, beq_eq_false_iff_ne, bne_eq_false_iff_eq, ne_eq, Int.not_lt, Int.not_le, Decidable.not_not] at hq)) <;> (try (have hr := hg; simp only [decide_eq_true_eq, decide_eq_false_iff_not] at hr)) <;> (try (exfalso; omega))) | ((first | refine aw_region ?_ | refine ago_if (by omega) ?_ | skip); simp (config := {maxSteps := 10000000}) (disch := first | exact okYes (by kernel_rfl) | omega) only [thenQ, Int.reduceNeg, dI, List.length, Nat.zero_add, Nat.reduceAdd, Nat.reduceMul, ARun_none, AOpRun, aexec, FSt.ev, St.F, eget_c, Nat.reduceBEq, ↓eget_h, cond_false, AGo_ok, St.app, putO, eput_c, eput_n, hups, List.map, ints_len, isSh, Bool.false_eq_true, ↓reduceIte, Option.map, abin, ARun_nil, dropE_c, inL_c, inL_n, beq_self_eq_true, cond_true, dropE_n, hr, decide_false])))
      refine wk_to [] [(0, 0)] (by kernel_rfl) (by kernel_rfl) (by kernel_rfl) (by kernel_rfl) (by kernel_rfl) ?_ ?_ <;> repeat' (first | exact trivial | exact vr_val _ | exact vr_list _ | exact vr_ptr _ _ _ rfl | refine And.intro ⟨_, rfl, .inl ⟨_, rfl, by decide, ?_⟩⟩ ?_ | apply And.intro)
    have g1 := ints_gd fr k hk2
    have fa := from_ac (fr[k]?.getD 0) 0 4095
    have he : wOk (fr[k]?.getD 0) = true := by
      rw [List.getElem?_eq_getElem hk2]
      exact List.all_eq_true.1 ha _ (List.getElem_mem hk2)
    rw [wI_w, he] at fa
    (have hg : (987654321 : Nat) - 987654321 = 0 := rfl; have hr := hg; repeat' (first | refine aw_seq ?_ | (refine aw_skip ?_; try simp only [thenQ, blockQ, if_true, if_false, Nat.reduceEqDiff, reduceCtorEq]) | (refine aw_exit ?_; try simp only [thenQ, blockQ, if_true, if_false, Nat.reduceEqDiff, reduceCtorEq]) | refine aw_ret ?_ | refine aw_block ?_ | refine aw_condT rfl ?_ | refine aw_condF rfl ?_ | (refine aw_cond rfl (fun hg => ?_) (fun hg => ?_) <;> (try (have hq := hg; simp only [Bool.not_eq_true', Bool.not_eq_false', Bool.and_eq_true, Bool.and_eq_false_iff, Bool.or_eq_true, Bool.or_eq_false_iff, decide_eq_true_eq, decide_eq_false_iff_not, bne_iff_ne, beq_iff_eq, beq_eq_false_iff_ne, bne_eq_false_iff_eq, ne_eq, Int.not_lt, Int.not_le, Decidable.not_not] at hq)) <;> (try (have hr := hg; simp only [decide_eq_true_eq, decide_eq_false_iff_not] at hr)) <;> (try (exfalso; omega))) | ((first | refine aw_region ?_ | refine acall0 (fa) ?_ | refine ago_if (by omega) ?_ | skip); simp (config := {maxSteps := 10000000}) (disch := first | exact okYes (by kernel_rfl) | omega) only [thenQ, Int.reduceNeg, dI, List.length, Nat.zero_add, Nat.reduceAdd, Nat.reduceMul, ARun_none, AOpRun, aexec, FSt.ev, St.F, eget_c, Nat.reduceBEq, ↓eget_h, cond_false, AGo_ok, St.app, putO, eput_c, eput_n, hups, List.map, ints_len, isSh, Bool.false_eq_true, ↓reduceIte, Option.map, abin, ARun_nil, dropE_c, inL_c, inL_n, beq_self_eq_true, cond_true, dropE_n, hr, decide_true, Int.natCast_nonneg, ints_all, and_self, opt1, Int.toNat_natCast, g1, run1, List.getElem?_cons_zero, dB, Bool.not_true, fits])))
    refine ⟨k + 1, by omega, by omega, ?_⟩
    refine wk_to [] [(0, 0)] (by kernel_rfl) (by kernel_rfl) (by kernel_rfl) (by kernel_rfl) (by kernel_rfl) ?_ ?_ <;> repeat' (first | exact trivial | exact vr_val _ | exact vr_list _ | exact vr_ptr _ _ _ rfl | refine And.intro ⟨_, rfl, .inl ⟨_, rfl, by decide, ?_⟩⟩ ?_ | apply And.intro)
  have g0 := ints_gd fr 0 (by omega)
  have hl0 : 0 < fr.length := by omega
  rw [hsub]
  refine aw_seq (aw_seq (aw_region ?_))
  simp (config := {maxSteps := 10000000}) (disch := first | exact okYes (by kernel_rfl) | omega) only [thenQ, Int.reduceNeg, List.length, Nat.zero_add, Nat.reduceMul, Nat.reduceAdd, dI, ARun_none, AOpRun, aexec, FSt.ev, AGo_ok, St.app, putO, eput_c, Nat.reduceBEq, eput_n, cond_false, hups, List.map, ARun_nil, dropE_c, inL_n, dropE_n]
  refine aw_block (aw_loop (fun k : Nat => ⟨[(1, .list (ints fr)), (2, .ptr 0 0), (6, dI k)], [(0, [dI l.words, dI l.s0, dI l.s1, dI l.s2, dI l.s3, .list (fls l.fl)])], 800⟩) (fun k => k ≤ 4 ∧ ∀ j, j < k → fr[0]?.getD 0 ≠ (sync l)[j]?.getD 0) (fun k => 4 - k) ⟨0, ⟨by omega, fun j hj => by omega⟩, ?_⟩ ?_)
  · unfold dI
    refine wk_to [] [(0, 0)] (by kernel_rfl) (by kernel_rfl) (by kernel_rfl) (by kernel_rfl) (by kernel_rfl) ?_ ?_ <;> repeat' (first | exact trivial | exact vr_val _ | exact vr_list _ | exact vr_ptr _ _ _ rfl | refine And.intro ⟨_, rfl, .inl ⟨_, rfl, by decide, ?_⟩⟩ ?_ | apply And.intro)
  rintro k ⟨hk, hin⟩
  by_cases hk2 : k < 4
  case neg =>
    obtain rfl : k = 4 := by omega
    rw [idx4_no l _ hin]
    (have hg : (987654321 : Nat) - 987654321 = 0 := rfl; have hr := hg; repeat' (first | refine aw_seq ?_ | (refine aw_skip ?_; try simp only [thenQ, blockQ, if_true, if_false, Nat.reduceEqDiff, reduceCtorEq]) | (refine aw_exit ?_; try simp only [thenQ, blockQ, if_true, if_false, Nat.reduceEqDiff, reduceCtorEq]) | refine aw_ret ?_ | refine aw_block ?_ | refine aw_condT rfl ?_ | refine aw_condF rfl ?_ | ((first | refine aw_region ?_ | refine ago_if (by omega) ?_ | skip); simp (config := {maxSteps := 10000000}) (disch := first | exact okYes (by kernel_rfl) | omega) only [thenQ, ne_eq, hg, dI, Int.reduceNeg, List.length, Nat.zero_add, Nat.reduceAdd, Nat.reduceMul, cast_lit, ARun_none, AOpRun, aexec, FSt.ev, St.F, eget_c, Nat.reduceBEq, ↓eget_h, cond_false, AGo_ok, St.app, putO, eput_c, eput_n, hups, List.map, isSh, Bool.false_eq_true, ↓reduceIte, Option.map, abin, Int.reduceLT, decide_false, ARun_nil, dropE_c, inL_c, inL_n, beq_self_eq_true, cond_true, dropE_n])))
    all_goals (refine end_to [] [] (by first | exact .inl rfl | exact .inr rfl) rfl (by kernel_rfl) (by kernel_rfl) (by kernel_rfl) ?_ ?_ <;> repeat' (first | exact trivial | exact vr_val _))
  have gs := sync_at l k hk2
  by_cases he : fr[0]?.getD 0 = (sync l)[k]?.getD 0
  · rw [idx4_at l _ k hk2 hin he]
    have q2 : (fr[0]?.getD 0 == (sync l)[k]?.getD 0) = true := by simpa using he
    rcases (by omega : k = 0 ∨ k = 1 ∨ k = 2 ∨ k = 3) with rfl | rfl | rfl | rfl
    all_goals
      simp only [sync, List.getElem?_cons_zero, List.getElem?_cons_succ, Option.getD_some] at q2
      (have hg : (987654321 : Nat) - 987654321 = 0 := rfl; have hr := hg; repeat' (first | refine aw_seq ?_ | (refine aw_skip ?_; try simp only [thenQ, blockQ, if_true, if_false, Nat.reduceEqDiff, reduceCtorEq]) | (refine aw_exit ?_; try simp only [thenQ, blockQ, if_true, if_false, Nat.reduceEqDiff, reduceCtorEq]) | refine aw_ret ?_ | refine aw_block ?_ | refine aw_condT rfl ?_ | refine aw_condF rfl ?_ | ((first | refine aw_region ?_ | refine ago_if (by omega) ?_ | skip); simp (config := {maxSteps := 10000000}) (disch := first | exact okYes (by kernel_rfl) | omega) only [thenQ, ne_eq, Nat.reduceSub, dI, Int.reduceNeg, cast_lit, List.length, Nat.zero_add, Nat.reduceAdd, Nat.reduceMul, ARun_none, AOpRun, aexec, FSt.ev, St.F, eget_c, Nat.reduceBEq, ↓eget_h, cond_false, AGo_ok, St.app, putO, eput_c, eput_n, hups, List.map, isSh, Bool.false_eq_true, ↓reduceIte, Option.map, abin, Int.reduceLT, decide_true, ARun_nil, dropE_c, inL_c, inL_n, beq_self_eq_true, cond_true, dropE_n, Int.le_refl, ints_all, and_self, opt1, Int.toNat_zero, g0, run1, List.getElem?_cons_zero, hget_c, hget_n, List.getElem?_cons_succ, q2, blockQ, Int.reduceLE, Int.reduceToNat])))
      all_goals (refine end_to [] [] (by first | exact .inl rfl | exact .inr rfl) rfl (by kernel_rfl) (by kernel_rfl) (by kernel_rfl) ?_ ?_ <;> repeat' (first | exact trivial | exact vr_val _))
  · have q2 : (fr[0]?.getD 0 == (sync l)[k]?.getD 0) = false := by simpa using he
    have hin2 : ∀ j, j < k + 1 → fr[0]?.getD 0 ≠ (sync l)[j]?.getD 0 := fun j hj => by
      rcases (by omega : j < k ∨ j = k) with h | rfl
      · exact hin j h
      · exact he
    rcases (by omega : k = 0 ∨ k = 1 ∨ k = 2 ∨ k = 3) with rfl | rfl | rfl | rfl
    all_goals
      simp only [sync, List.getElem?_cons_zero, List.getElem?_cons_succ, Option.getD_some] at q2
      (have hg : (987654321 : Nat) - 987654321 = 0 := rfl; have hr := hg; repeat' (first | refine aw_seq ?_ | (refine aw_skip ?_; try simp only [thenQ, blockQ, if_true, if_false, Nat.reduceEqDiff, reduceCtorEq]) | (refine aw_exit ?_; try simp only [thenQ, blockQ, if_true, if_false, Nat.reduceEqDiff, reduceCtorEq]) | refine aw_ret ?_ | refine aw_block ?_ | refine aw_condT rfl ?_ | refine aw_condF rfl ?_ | ((first | refine aw_region ?_ | refine ago_if (by omega) ?_ | skip); simp (config := {maxSteps := 10000000}) (disch := first | exact okYes (by kernel_rfl) | omega) only [thenQ, ne_eq, Nat.reduceSub, dI, Int.reduceNeg, List.length, Nat.zero_add, Nat.reduceAdd, Nat.reduceMul, cast_lit, ARun_none, AOpRun, aexec, FSt.ev, St.F, eget_c, Nat.reduceBEq, ↓eget_h, cond_false, AGo_ok, St.app, putO, eput_c, eput_n, hups, List.map, isSh, Bool.false_eq_true, ↓reduceIte, Option.map, abin, Int.reduceLT, decide_true, ARun_nil, dropE_c, inL_c, inL_n, beq_self_eq_true, cond_true, dropE_n, Int.le_refl, ints_all, and_self, opt1, Int.toNat_zero, g0, run1, List.getElem?_cons_zero, hget_c, hget_n, List.getElem?_cons_succ, q2, Int.reduceAdd, fits, Int.reduceLE, Int.reduceToNat])))
      refine ⟨_, ⟨?_, hin2⟩, ?_, ?_⟩
      · omega
      · omega
      · refine wk_to [] [(0, 0)] (by kernel_rfl) (by kernel_rfl) (by kernel_rfl) (by kernel_rfl) (by kernel_rfl) ?_ ?_ <;> repeat' (first | exact trivial | exact vr_val _ | exact vr_list _ | exact vr_ptr _ _ _ rfl | refine And.intro ⟨_, rfl, .inl ⟨_, rfl, by decide, ?_⟩⟩ ?_ | apply And.intro)
end Go.Proofs.Ytdcodicoclecnaa
/- The document of record: Good, samples, Read, Peak. No conditions. -/
set_option linter.unusedSimpArgs false
set_option linter.unusedVariables false
namespace Go.Proofs.Ytdcodicoclecnaa
open Go Go.RowKit Lift

theorem uw_in {x : Int} (h1 : 0 ≤ x) (h2 : x < 18446744073709551616) : IntKind.u64.wrap x = x := by
  have h3 : x % 18446744073709551616 = x := Int.emod_eq_of_lt h1 h2
  unfold IntKind.wrap
  show (if (false && _) = true then _ else x % (2 ^ 64 : Int)) = x
  rw [Bool.false_and, if_neg (by simp)]
  exact h3
set_option maxHeartbeats 2000000 in
theorem checkF_ac (l : Lay) (frs : List (List Int)) (hl : LayIn l) (hf : FrIn frs) : AC Try.prog 68 [layD l, .list (rows frs)] [] [] (dI (tpE l frs)) := by
  refine kref12_CheckFrames.ac (n0 := 0) (by simp) ⟨in_layD _ _, .list _, trivial⟩ trivial rfl ?_
  unfold cref12_CheckFrames
  have ck := rcheck_ac l hl
  have hmax : maxLen = 9223372036854775807 := rfl
  have hn := hf.n
  unfold layD layC at *
  by_cases h1 : LayOk l
  · rw [layE_ok h1] at ck
    cases q : decide ((frs.length : Int) > 200) with
    | true =>
      rw [tpE_many h1 (by have := of_decide_eq_true q; omega)]
      (have hg : (987654321 : Nat) - 987654321 = 0 := rfl; have hr := hg; repeat' (first | refine aw_seq ?_ | (refine aw_skip ?_; try simp only [thenQ, blockQ, if_true, if_false, Nat.reduceEqDiff, reduceCtorEq]) | (refine aw_exit ?_; try simp only [thenQ, blockQ, if_true, if_false, Nat.reduceEqDiff, reduceCtorEq]) | refine aw_ret ?_ | refine aw_block ?_ | refine aw_condT rfl ?_ | refine aw_condF rfl ?_ | ((first | refine aw_region ?_ | refine acall0 (ck) ?_ | refine ago_if (by omega) ?_ | skip); simp (config := {maxSteps := 10000000}) (disch := first | exact okYes (by kernel_rfl) | omega) only [thenQ, List.map, dI, List.length, Nat.zero_add, Nat.reduceAdd, Nat.reduceMul, envOf, ARun_none, AOpRun, aexec, D.isBot, FSt.ev, St.F, ↓eget_h, Bool.false_eq_true, Option.isSome, hget_n, or_self, ↓reduceIte, D.cells, AGo_ok, St.app, putO, eput_c, Nat.reduceBEq, eput_n, cond_false, hups, hput_n, ARun_nil, dropE_c, inL_n, dropE_n, eget_c, hget_c, beq_self_eq_true, cond_true, Nat.reduceLeDiff, List.drop, List.take, inL_c, isSh, Option.map, abin, bne_self_eq_false, rows_len, q])))
      all_goals (refine end_to [] [] (by first | exact .inl rfl | exact .inr rfl) rfl (by kernel_rfl) (by kernel_rfl) (by kernel_rfl) ?_ ?_ <;> repeat' (first | exact trivial | exact vr_val _))
    | false =>
      rw [tpE_ok h1 (by have := of_decide_eq_false q; omega)]
      (have hg : (987654321 : Nat) - 987654321 = 0 := rfl; have hr := hg; repeat' (first | refine aw_seq ?_ | (refine aw_skip ?_; try simp only [thenQ, blockQ, if_true, if_false, Nat.reduceEqDiff, reduceCtorEq]) | (refine aw_exit ?_; try simp only [thenQ, blockQ, if_true, if_false, Nat.reduceEqDiff, reduceCtorEq]) | refine aw_ret ?_ | refine aw_block ?_ | refine aw_condT rfl ?_ | refine aw_condF rfl ?_ | ((first | refine aw_region ?_ | refine acall0 (ck) ?_ | refine ago_if (by omega) ?_ | skip); simp (config := {maxSteps := 10000000}) (disch := first | exact okYes (by kernel_rfl) | omega) only [thenQ, List.map, dI, List.length, Nat.zero_add, Nat.reduceAdd, Nat.reduceMul, envOf, ARun_none, AOpRun, aexec, D.isBot, FSt.ev, St.F, ↓eget_h, Bool.false_eq_true, Option.isSome, hget_n, or_self, ↓reduceIte, D.cells, AGo_ok, St.app, putO, eput_c, Nat.reduceBEq, eput_n, cond_false, hups, hput_n, ARun_nil, dropE_c, inL_n, dropE_n, eget_c, hget_c, beq_self_eq_true, cond_true, Nat.reduceLeDiff, List.drop, List.take, inL_c, isSh, Option.map, abin, bne_self_eq_false, rows_len, q])))
      all_goals (refine end_to [] [] (by first | exact .inl rfl | exact .inr rfl) rfl (by kernel_rfl) (by kernel_rfl) (by kernel_rfl) ?_ ?_ <;> repeat' (first | exact trivial | exact vr_val _))
  · rw [layE_no h1] at ck
    rw [tpE_no h1]
    (have hg : (987654321 : Nat) - 987654321 = 0 := rfl; have hr := hg; repeat' (first | refine aw_seq ?_ | (refine aw_skip ?_; try simp only [thenQ, blockQ, if_true, if_false, Nat.reduceEqDiff, reduceCtorEq]) | (refine aw_exit ?_; try simp only [thenQ, blockQ, if_true, if_false, Nat.reduceEqDiff, reduceCtorEq]) | refine aw_ret ?_ | refine aw_block ?_ | refine aw_condT rfl ?_ | refine aw_condF rfl ?_ | ((first | refine aw_region ?_ | refine acall0 (ck) ?_ | refine ago_if (by omega) ?_ | skip); simp (config := {maxSteps := 10000000}) (disch := first | exact okYes (by kernel_rfl) | omega) only [thenQ, List.map, dI, List.length, Nat.zero_add, Nat.reduceAdd, Nat.reduceMul, envOf, ARun_none, AOpRun, aexec, D.isBot, FSt.ev, St.F, ↓eget_h, Bool.false_eq_true, Option.isSome, hget_n, or_self, ↓reduceIte, D.cells, AGo_ok, St.app, putO, eput_c, Nat.reduceBEq, eput_n, cond_false, hups, hput_n, ARun_nil, dropE_c, inL_n, dropE_n, eget_c, hget_c, beq_self_eq_true, cond_true, Nat.reduceLeDiff, List.drop, List.take, inL_c, isSh, Option.map, abin, Int.reduceBNe])))
    all_goals (refine end_to [] [] (by first | exact .inl rfl | exact .inr rfl) rfl (by kernel_rfl) (by kernel_rfl) (by kernel_rfl) ?_ ?_ <;> repeat' (first | exact trivial | exact vr_val _))
end Go.Proofs.Ytdcodicoclecnaa
/- The document of record: samples, Read, Peak. No conditions. -/
set_option linter.unusedSimpArgs false
set_option linter.unusedVariables false
namespace Go.Proofs.Ytdcodicoclecnaa
open Go Go.RowKit Lift

set_option maxHeartbeats 2000000 in
theorem rraw_ac {w : Int} {f : Fl} (h : FOk w f) (fr : List Int) (x : Nat) (hw : f.word.toNat < fr.length) (hx : fr[f.word.toNat]?.getD 0 = (x : Int)) (hlt : x < 4096) : AC Try.prog 127 [flD f, .list (ints fr)] [] [] (dI (rawI f x)) := by
  refine kref12_raw.ac (n0 := 0) (by simp) ⟨in_flD _ _, .list _, trivial⟩ trivial rfl ?_
  unfold cref12_raw flD flC
  obtain ⟨h1, h2, h3, h4, h5, h6, h7⟩ := size_pow h
  have b1 := h.b1
  have s1 := h.s1
  have bs := h.bs
  have w1 := h.w1
  have e0 : IntKind.i64.bits = 64 := rfl
  have e1 : min f.bit.toNat IntKind.i64.bits = f.bit.toNat := by rw [e0]; omega
  have e2 : min (f.size - 1).toNat IntKind.i64.bits = f.size.toNat - 1 := by rw [e0]; omega
  have e3 : min f.size.toNat IntKind.i64.bits = f.size.toNat := by rw [e0]; omega
  have c1 : IntKind.u64.wrap f.bit = f.bit := uw_in (by omega) (by omega)
  have c2 : IntKind.u64.wrap f.size = f.size := uw_in (by omega) (by omega)
  have c3 : IntKind.u64.wrap (f.size - 1) = f.size - 1 := uw_in (by omega) (by omega)
  have p0 : 0 ≤ f.size := by omega
  have p1 : 0 ≤ f.size - 1 := by omega
  have p2 : 0 ≤ f.word := by omega
  have p3 : f.word < (fr.length : Int) := by omega
  have g1 := ints_gd fr f.word.toNat hw
  rw [hx] at g1
  have a0 : Int.fdiv (x : Int) (2 ^ f.bit.toNat) = ((x / 2 ^ f.bit.toNat : Nat) : Int) := fdiv_pow _ _
  have pp : ((2 ^ f.size.toNat : Nat) : Int) = (2 : Int) ^ f.size.toNat := by simp
  have a1 : IntKind.i64.wrap (1 * 2 ^ f.size.toNat) = ((2 ^ f.size.toNat : Nat) : Int) := by rw [Int.one_mul, ← pp]; exact wrap_in (by omega) (by omega)
  have a2 : ((2 ^ f.size.toNat : Nat) : Int) - 1 = ((2 ^ f.size.toNat - 1 : Nat) : Int) := by omega
  have a3 : IntKind.i64.wrap ((2 ^ f.size.toNat - 1 : Nat) : Int) = ((2 ^ f.size.toNat - 1 : Nat) : Int) := wrap_in (by omega) (by omega)
  have hd : x / 2 ^ f.bit.toNat ≤ x := Nat.div_le_self _ _
  have a4 : IntKind.i64.wrap ((BitVec.ofInt IntKind.i64.bits ((x / 2 ^ f.bit.toNat : Nat) : Int) &&& BitVec.ofInt IntKind.i64.bits ((2 ^ f.size.toNat - 1 : Nat) : Int)).toNat) = ((rawU f x : Nat) : Int) := by
    rw [and_nat _ _ (by omega) (by omega), and_low]; rfl
  have hr := rawU_lt h x
  have pq : ((2 ^ (f.size.toNat - 1) : Nat) : Int) = (2 : Int) ^ (f.size.toNat - 1) := by simp
  have a5 : IntKind.i64.wrap (1 * 2 ^ (f.size.toNat - 1)) = ((2 ^ (f.size.toNat - 1) : Nat) : Int) := by rw [Int.one_mul, ← pq]; exact wrap_in (by omega) (by omega)
  unfold rawI
  cases hs : f.sgn with
  | false =>
    rw [if_neg (by rintro ⟨h, _⟩; cases h)]
    (have hg : (987654321 : Nat) - 987654321 = 0 := rfl; have hr := hg; repeat' (first | refine aw_seq ?_ | (refine aw_skip ?_; try simp only [thenQ, blockQ, if_true, if_false, Nat.reduceEqDiff, reduceCtorEq]) | (refine aw_exit ?_; try simp only [thenQ, blockQ, if_true, if_false, Nat.reduceEqDiff, reduceCtorEq]) | refine aw_ret ?_ | refine aw_block ?_ | refine aw_condT rfl ?_ | refine aw_condF rfl ?_ | ((first | refine aw_region ?_ | refine ago_if (by omega) ?_ | skip); simp (config := {maxSteps := 10000000}) (disch := first | exact okYes (by kernel_rfl) | omega) only [thenQ, List.map, dI, List.length, Nat.zero_add, Nat.reduceAdd, Nat.reduceMul, envOf, dB, ARun_none, AOpRun, aexec, D.isBot, FSt.ev, St.F, ↓eget_h, Bool.false_eq_true, Option.isSome, hget_n, or_self, ↓reduceIte, D.cells, AGo_ok, St.app, putO, eput_c, Nat.reduceBEq, eput_n, cond_false, hups, hput_n, ARun_nil, dropE_c, inL_n, dropE_n, eget_c, Option.map, run1, hget_c, beq_self_eq_true, cond_true, List.getElem?_cons_zero, p2, ints_all, and_self, opt1, g1, List.getElem?_cons_succ, c1, isSh, ash, b1, e1, a0, c2, p0, e3, a1, abin, a2, a3, a4, inL_c, ARun_some, AG_ft])))
    all_goals (refine end_to [] [] (by first | exact .inl rfl | exact .inr rfl) rfl (by kernel_rfl) (by kernel_rfl) (by kernel_rfl) ?_ ?_ <;> repeat' (first | exact trivial | exact vr_val _))
  | true =>
    by_cases hh : 2 ^ (f.size.toNat - 1) ≤ rawU f x
    · have q : decide (((rawU f x : Nat) : Int) ≥ ((2 ^ (f.size.toNat - 1) : Nat) : Int)) = true := decide_eq_true (by omega)
      rw [if_pos ⟨rfl, hh⟩]
      have a6 : IntKind.i64.wrap (((rawU f x : Nat) : Int) - ((2 ^ f.size.toNat : Nat) : Int)) = ((rawU f x : Nat) : Int) - 2 ^ f.size.toNat := by rw [← pp]; exact wrap_in (by omega) (by omega)
      (have hg : (987654321 : Nat) - 987654321 = 0 := rfl; have hr := hg; repeat' (first | refine aw_seq ?_ | (refine aw_skip ?_; try simp only [thenQ, blockQ, if_true, if_false, Nat.reduceEqDiff, reduceCtorEq]) | (refine aw_exit ?_; try simp only [thenQ, blockQ, if_true, if_false, Nat.reduceEqDiff, reduceCtorEq]) | refine aw_ret ?_ | refine aw_block ?_ | refine aw_condT rfl ?_ | refine aw_condF rfl ?_ | ((first | refine aw_region ?_ | refine ago_if (by omega) ?_ | skip); simp (config := {maxSteps := 10000000}) (disch := first | exact okYes (by kernel_rfl) | omega) only [thenQ, List.map, dI, List.length, Nat.zero_add, Nat.reduceAdd, Nat.reduceMul, envOf, dB, ARun_none, AOpRun, aexec, D.isBot, FSt.ev, St.F, ↓eget_h, Bool.false_eq_true, Option.isSome, hget_n, or_self, ↓reduceIte, D.cells, AGo_ok, St.app, putO, eput_c, Nat.reduceBEq, eput_n, cond_false, hups, hput_n, ARun_nil, dropE_c, inL_n, dropE_n, eget_c, Option.map, run1, hget_c, beq_self_eq_true, cond_true, List.getElem?_cons_zero, p2, ints_all, and_self, opt1, g1, List.getElem?_cons_succ, c1, isSh, ash, b1, e1, a0, c2, p0, e3, a1, abin, a2, a3, a4, inL_c, ARun_some, AG_tt, fits, c3, p1, e2, a5, q, a6])))
      all_goals (refine end_to [] [] (by first | exact .inl rfl | exact .inr rfl) rfl (by kernel_rfl) (by kernel_rfl) (by kernel_rfl) ?_ ?_ <;> repeat' (first | exact trivial | exact vr_val _))
    · have q : decide (((rawU f x : Nat) : Int) ≥ ((2 ^ (f.size.toNat - 1) : Nat) : Int)) = false := decide_eq_false (by omega)
      rw [if_neg (by rintro ⟨_, h⟩; exact hh h)]
      (have hg : (987654321 : Nat) - 987654321 = 0 := rfl; have hr := hg; repeat' (first | refine aw_seq ?_ | (refine aw_skip ?_; try simp only [thenQ, blockQ, if_true, if_false, Nat.reduceEqDiff, reduceCtorEq]) | (refine aw_exit ?_; try simp only [thenQ, blockQ, if_true, if_false, Nat.reduceEqDiff, reduceCtorEq]) | refine aw_ret ?_ | refine aw_block ?_ | refine aw_condT rfl ?_ | refine aw_condF rfl ?_ | ((first | refine aw_region ?_ | refine ago_if (by omega) ?_ | skip); simp (config := {maxSteps := 10000000}) (disch := first | exact okYes (by kernel_rfl) | omega) only [thenQ, List.map, dI, List.length, Nat.zero_add, Nat.reduceAdd, Nat.reduceMul, envOf, dB, ARun_none, AOpRun, aexec, D.isBot, FSt.ev, St.F, ↓eget_h, Bool.false_eq_true, Option.isSome, hget_n, or_self, ↓reduceIte, D.cells, AGo_ok, St.app, putO, eput_c, Nat.reduceBEq, eput_n, cond_false, hups, hput_n, ARun_nil, dropE_c, inL_n, dropE_n, eget_c, Option.map, run1, hget_c, beq_self_eq_true, cond_true, List.getElem?_cons_zero, p2, ints_all, and_self, opt1, g1, List.getElem?_cons_succ, c1, isSh, ash, b1, e1, a0, c2, p0, e3, a1, abin, a2, a3, a4, inL_c, ARun_some, AG_tt, fits, c3, p1, e2, a5, q])))
      all_goals (refine end_to [] [] (by first | exact .inl rfl | exact .inr rfl) rfl (by kernel_rfl) (by kernel_rfl) (by kernel_rfl) ?_ ?_ <;> repeat' (first | exact trivial | exact vr_val _))
/-- the parts of a sample -/
theorem smp_parts {l : Lay} {f : Fl} {fr : List Int} (hf : FOk l.words f) (hs : 0 ≤ subF l fr) : ∃ x : Nat, f.word.toNat < fr.length ∧ fr[f.word.toNat]?.getD 0 = (x : Int) ∧ x < 4096 ∧ (inSub f (subF l fr) → smp l f fr = some (valI f (rawI f x))) := by
  obtain ⟨hfl, hfa⟩ := subF_ok hs
  have w1 := hf.w1
  have w2 := hf.w2
  have hwl : f.word.toNat < fr.length := by omega
  have h4 : wOk (fr[f.word.toNat]?.getD 0) = true := by
    rw [List.getElem?_eq_getElem hwl]
    exact List.all_eq_true.1 hfa _ (List.getElem_mem hwl)
  have h5 : 0 ≤ fr[f.word.toNat]?.getD 0 ∧ fr[f.word.toNat]?.getD 0 ≤ 4095 := by unfold wOk at h4; simpa using h4
  exact ⟨(fr[f.word.toNat]?.getD 0).toNat, hwl, (Int.toNat_of_nonneg h5.1).symm, by omega, fun h => if_pos ⟨hs, h⟩⟩
set_option maxRecDepth 100000 in
set_option maxHeartbeats 4000000 in
theorem rsample_ac (l : Lay) (f : Fl) (fr : List Int) (hw : 2 ≤ l.words) (hf : FOk l.words f) (hl : fr.length ≤ maxLen) : AC Try.prog 96 [layD l, flD f, .list (ints fr)] [] [] (.tup [dI ((smp l f fr).getD 0), dB (smp l f fr).isSome]) := by
  refine kref12_sample.ac (n0 := 0) (by simp) ⟨in_layD _ _, in_flD _ _, .list _, trivial⟩ trivial rfl ?_
  unfold cref12_sample
  have sf := subf_ac l fr hw hl
  have ev : f.every ≠ 0 := by rcases hf.ev with h | h | h <;> omega
  have sb := subF_bd l fr
  by_cases hs : 0 ≤ subF l fr
  case neg =>
    have q : decide (subF l fr < 0) = true := decide_eq_true (by omega)
    rw [show smp l f fr = none from if_neg fun h => hs h.1]
    unfold layD layC flD flC at *
    (have hg : (987654321 : Nat) - 987654321 = 0 := rfl; have hr := hg; repeat' (first | refine aw_seq ?_ | (refine aw_skip ?_; try simp only [thenQ, blockQ, if_true, if_false, Nat.reduceEqDiff, reduceCtorEq]) | (refine aw_exit ?_; try simp only [thenQ, blockQ, if_true, if_false, Nat.reduceEqDiff, reduceCtorEq]) | refine aw_ret ?_ | refine aw_block ?_ | refine aw_condT rfl ?_ | refine aw_condF rfl ?_ | ((first | refine aw_region ?_ | refine acall0 (sf) ?_ | refine ago_if (by omega) ?_ | skip); simp (config := {maxSteps := 10000000}) (disch := first | exact okYes (by kernel_rfl) | omega) only [thenQ, List.map, dI, dB, Option.isSome, List.length, Nat.zero_add, Nat.reduceAdd, Nat.reduceMul, envOf, ARun_none, AOpRun, aexec, D.isBot, FSt.ev, St.F, ↓eget_h, Bool.false_eq_true, hget_n, or_self, ↓reduceIte, D.cells, AGo_ok, St.app, putO, eput_c, Nat.reduceBEq, eput_n, cond_false, hups, hput_n, eget_c, hget_c, hput_c, ARun_nil, dropE_c, inL_n, dropE_n, beq_self_eq_true, cond_true, Nat.reduceLeDiff, List.drop, List.take, inL_c, isSh, Option.map, abin, q, ARun_some, AG_tf])))
    all_goals (refine end_to [] [] (by first | exact .inl rfl | exact .inr rfl) rfl (by kernel_rfl) (by kernel_rfl) (by kernel_rfl) ?_ ?_ <;> repeat' (first | exact trivial | exact vr_val _ | apply vr_tup | apply And.intro))
  obtain ⟨x, x1, x2, x3, x4⟩ := smp_parts hf hs
  have q : decide (subF l fr < 0) = false := decide_eq_false (by omega)
  by_cases hin : inSub f (subF l fr)
  case neg =>
    have q2 : ((subF l fr).tmod f.every != f.phase) = true := by simp only [bne_iff_ne, ne_eq]; exact hin
    rw [show smp l f fr = none from if_neg fun h => hin h.2]
    unfold layD layC flD flC at *
    (have hg : (987654321 : Nat) - 987654321 = 0 := rfl; have hr := hg; repeat' (first | refine aw_seq ?_ | (refine aw_skip ?_; try simp only [thenQ, blockQ, if_true, if_false, Nat.reduceEqDiff, reduceCtorEq]) | (refine aw_exit ?_; try simp only [thenQ, blockQ, if_true, if_false, Nat.reduceEqDiff, reduceCtorEq]) | refine aw_ret ?_ | refine aw_block ?_ | refine aw_condT rfl ?_ | refine aw_condF rfl ?_ | ((first | refine aw_region ?_ | refine acall0 (sf) ?_ | refine ago_if (by omega) ?_ | skip); simp (config := {maxSteps := 10000000}) (disch := first | exact okYes (by kernel_rfl) | omega) only [thenQ, List.map, dI, dB, Option.isSome, List.length, Nat.zero_add, Nat.reduceAdd, Nat.reduceMul, envOf, ARun_none, AOpRun, aexec, D.isBot, FSt.ev, St.F, ↓eget_h, Bool.false_eq_true, hget_n, or_self, ↓reduceIte, D.cells, AGo_ok, St.app, putO, eput_c, Nat.reduceBEq, eput_n, cond_false, hups, hput_n, eget_c, hget_c, hput_c, ARun_nil, dropE_c, inL_n, dropE_n, beq_self_eq_true, cond_true, Nat.reduceLeDiff, List.drop, List.take, inL_c, isSh, Option.map, abin, q, ARun_some, AG_ff, run1, ↓hget_h, List.getElem?_cons_succ, List.getElem?_cons_zero, ev, q2])))
    all_goals (refine end_to [] [] (by first | exact .inl rfl | exact .inr rfl) rfl (by kernel_rfl) (by kernel_rfl) (by kernel_rfl) ?_ ?_ <;> repeat' (first | exact trivial | exact vr_val _ | apply vr_tup | apply And.intro))
  have q2 : ((subF l fr).tmod f.every != f.phase) = false := by simp only [bne_eq_false_iff_eq]; exact hin
  have rr := rraw_ac hf fr x x1 x2 x3
  rw [x4 hin]
  have m1 := mul_bd hf.a1 hf.a2 (by have := hf.d1; omega : -(1000 : Int) ≤ f.den) hf.d2
  have rb := rawI_bd hf x
  have m2 := mul_bd rb.1 rb.2 hf.n1 hf.n2
  have e1 : IntKind.i64.wrap (f.add * f.den) = f.add * f.den := wrap_in (by omega) (by omega)
  have e2 : IntKind.i64.wrap (rawI f x * f.num) = rawI f x * f.num := wrap_in (by omega) (by omega)
  have e3 : IntKind.i64.wrap (f.add * f.den + rawI f x * f.num) = valI f (rawI f x) := wrap_in (by omega) (by omega)
  simp only [Option.getD_some, Option.isSome_some]
  unfold layD layC flD flC at *
  generalize rawI f x = rw at *
  (have hg : (987654321 : Nat) - 987654321 = 0 := rfl; have hr := hg; repeat' (first | refine aw_seq ?_ | (refine aw_skip ?_; try simp only [thenQ, blockQ, if_true, if_false, Nat.reduceEqDiff, reduceCtorEq]) | (refine aw_exit ?_; try simp only [thenQ, blockQ, if_true, if_false, Nat.reduceEqDiff, reduceCtorEq]) | refine aw_ret ?_ | refine aw_block ?_ | refine aw_condT rfl ?_ | refine aw_condF rfl ?_ | ((first | refine aw_region ?_ | refine acall0 (sf) ?_ | refine acall0 (rr) ?_ | refine ago_if (by omega) ?_ | skip); simp (config := {maxSteps := 10000000}) (disch := first | exact okYes (by kernel_rfl) | omega) only [thenQ, List.map, dI, dB, List.length, Nat.zero_add, Nat.reduceAdd, Nat.reduceMul, envOf, ARun_none, AOpRun, aexec, D.isBot, FSt.ev, St.F, ↓eget_h, Bool.false_eq_true, Option.isSome, hget_n, or_self, ↓reduceIte, D.cells, AGo_ok, St.app, putO, eput_c, Nat.reduceBEq, eput_n, cond_false, hups, hput_n, eget_c, hget_c, hput_c, ARun_nil, dropE_c, inL_n, dropE_n, beq_self_eq_true, cond_true, Nat.reduceLeDiff, List.drop, List.take, inL_c, isSh, Option.map, abin, q, ARun_some, AG_ff, run1, ↓hget_h, List.getElem?_cons_succ, List.getElem?_cons_zero, ev, q2, e1, e2, e3])))
  all_goals (refine end_to [] [] (by first | exact .inl rfl | exact .inr rfl) rfl (by kernel_rfl) (by kernel_rfl) (by kernel_rfl) ?_ ?_ <;> repeat' (first | exact trivial | exact vr_val _ | apply vr_tup | apply And.intro))
set_option maxRecDepth 100000 in
set_option maxHeartbeats 4000000 in
theorem rsamples_ac (l : Lay) (frs : List (List Int)) (n : Nat) (h1 : LayOk l) (h2 : frs.length ≤ 200) (hf : FrIn frs) (hn : n < l.fl.length) : AC Try.prog 70 [layD l, .list (rows frs), dI n] [] [] (.list (sps (smps l (fAt l n) frs frs.length))) := by
  refine kref12_Samples.ac (n0 := 0) (by simp) ⟨in_layD _ _, .list _, .val _, trivial⟩ trivial rfl ?_
  unfold cref12_Samples
  have rs := fun k => rsample_ac l (fAt l n) (frm frs k) h1.w1 (fAt_ok h1 hn) (hf.m k)
  have nf := h1.nf
  have g0 : (fls l.fl)[n]? = some (flC (fAt l n)) := fls_gd l.fl n hn
  have ni : (n : Int) < (l.fl.length : Int) := by omega
  have fa := fls_all l.fl
  have fl := fls_len l.fl
  generalize fAt l n = f at *
  unfold layD layC flD flC at *
  refine aw_seq (aw_region ?_)
  simp (config := {maxSteps := 10000000}) (disch := first | exact okYes (by kernel_rfl) | omega) only [thenQ, List.map, List.length, Nat.zero_add, Nat.reduceAdd, Nat.reduceMul, envOf, dI, ARun_none, AOpRun, aexec, D.isBot, FSt.ev, St.F, ↓eget_h, Bool.false_eq_true, Option.isSome, hget_n, or_self, ↓reduceIte, D.cells, AGo_ok, St.app, putO, eput_c, Nat.reduceBEq, eput_n, cond_false, hups, hput_n, ARun_nil, dropE_c, inL_n, dropE_n]
  refine aw_seq (aw_region ?_)
  simp (config := {maxSteps := 10000000}) (disch := first | exact okYes (by kernel_rfl) | omega) only [thenQ, List.length, Nat.zero_add, Nat.reduceMul, Nat.reduceAdd, ARun_none, AOpRun, aexec, FSt.ev, AGo_ok, St.app, putO, eput_c, Nat.reduceBEq, eput_n, cond_false, hups, List.map, ARun_nil, dropE_c, inL_n, dropE_n]
  refine aw_seq (aw_seq (aw_region ?_))
  simp (config := {maxSteps := 10000000}) (disch := first | exact okYes (by kernel_rfl) | omega) only [thenQ, List.length, Nat.zero_add, Nat.reduceMul, Nat.reduceAdd, ARun_none, AOpRun, aexec, FSt.ev, AGo_ok, St.app, putO, eput_c, Nat.reduceBEq, eput_n, cond_false, hups, List.map, ARun_nil, dropE_c, inL_n, dropE_n]
  refine aw_block (aw_loop (fun k : Nat => ⟨[(1, .list (rows frs)), (2, dI n), (3, .ptr 0 0), (7, .vec 40 (smps l f frs k).length 2), (8, dI k)], [(0, [dI l.words, dI l.s0, dI l.s1, dI l.s2, dI l.s3, .list (fls l.fl)]), (40, scells (smps l f frs k))], 400⟩) (fun k => k ≤ frs.length) (fun k => frs.length - k) ⟨0, by omega, ?_⟩ ?_)
  · show Wk _ _ ⟨[_, _, _, (7, .vec 40 0 2), _], [_, (40, [])], _⟩
    unfold dI
    refine wk_to [] [(0, 0), (40, 900)] (by kernel_rfl) (by kernel_rfl) (by kernel_rfl) (by kernel_rfl) (by kernel_rfl) ?_ ?_ <;> repeat' (first | exact trivial | exact vr_val _ | exact vr_list _ | exact vr_ptr _ _ _ rfl | exact vr_nilv _ _ _ rfl | refine And.intro ⟨_, rfl, .inl ⟨_, rfl, by decide, ?_⟩⟩ ?_ | refine And.intro ⟨_, rfl, .inr ⟨rfl, rfl, of_decide_eq_true (by kernel_rfl)⟩⟩ ?_ | apply And.intro)
  intro k hk
  have hgl := smps_len l f frs k
  by_cases hk2 : k < frs.length
  case neg =>
    obtain rfl : k = frs.length := by omega
    generalize smps l f frs frs.length = L at *
    (have hg : (987654321 : Nat) - 987654321 = 0 := rfl; have hr := hg; repeat' (first | refine aw_seq ?_ | (refine aw_skip ?_; try simp only [thenQ, blockQ, if_true, if_false, Nat.reduceEqDiff, reduceCtorEq]) | (refine aw_exit ?_; try simp only [thenQ, blockQ, if_true, if_false, Nat.reduceEqDiff, reduceCtorEq]) | refine aw_ret ?_ | refine aw_block ?_ | refine aw_condT rfl ?_ | refine aw_condF rfl ?_ | (refine aw_cond rfl (fun hg => ?_) (fun hg => ?_) <;> (try (have hq := hg; simp only [Bool.not_eq_true', Bool.not_eq_false', Bool.and_eq_true, Bool.and_eq_false_iff, Bool.or_eq_true, Bool.or_eq_false_iff, decide_eq_true_eq, decide_eq_false_iff_not, bne_iff_ne, beq_iff_eq, beq_eq_false_iff_ne, bne_eq_false_iff_eq, ne_eq, Int.not_lt, Int.not_le, Decidable.not_not] at hq)) <;> (try (have hr := hg; simp only [decide_eq_true_eq, decide_eq_false_iff_not] at hr)) <;> (try (exfalso; omega))) | ((first | refine aw_region ?_ | refine ago_if (by omega) ?_ | skip); simp (config := {maxSteps := 10000000}) (disch := first | exact okYes (by kernel_rfl) | omega) only [thenQ, dI, List.length, Nat.zero_add, Nat.reduceAdd, Nat.reduceMul, ARun_none, AOpRun, aexec, FSt.ev, St.F, eget_c, Nat.reduceBEq, ↓eget_h, cond_false, AGo_ok, St.app, putO, eput_c, eput_n, hups, List.map, rows_len, isSh, Bool.false_eq_true, ↓reduceIte, Option.map, abin, ARun_nil, dropE_c, inL_c, inL_n, beq_self_eq_true, cond_true, dropE_n, hr, decide_false])))
    refine end_to [40] [] (by first | exact .inl rfl | exact .inr rfl) rfl (by kernel_rfl) (by kernel_rfl) (by kernel_rfl) ?_ ?_ <;> repeat' (first | exact trivial | refine vr_fl _ _ _ _ _ (by decide) rfl ?_ ?_ ?_ ?_)
    all_goals first | exact sps_two _ | exact sps_len _ | exact sps_flat _ | exact scells_in _
  have g1 := rows_gd frs k hk2
  rw [show frs[k]?.getD [] = frm frs k from rfl] at g1
  have sf := rs k
  have e := smps_succ l f frs k
  cases hs : smp l f (frm frs k) with
  | some v =>
    rw [hs] at sf e
    simp only [Option.getD_some, Option.isSome_some] at sf e
    have hic : (scells (smps l f frs k)).length = (smps l f frs k).length * 2 := scells_len _
    have hit : (scells (smps l f frs k)).take ((smps l f frs k).length * 2) = scells (smps l f frs k) := sc_all _
    have hlen : (smps l f frs (k + 1)).length = (smps l f frs k).length + 1 := by rw [e]; simp
    have e2 : scells (smps l f frs (k + 1)) = scells (smps l f frs k) ++ [.val (.int .i64 (k : Int)), .val (.int .i64 v)] := by rw [e]; exact (sc_snoc _ ((k : Int), v)).symm
    have hcin : ∀ y ∈ scells (smps l f frs k) ++ [.val (.int .i64 (k : Int)), .val (.int .i64 v)], In (fun _ => False) y := by rw [← e2]; exact scells_in _
    generalize hL : smps l f frs k = L at *
    (have hg : (987654321 : Nat) - 987654321 = 0 := rfl; have hr := hg; repeat' (first | refine aw_seq ?_ | (refine aw_skip ?_; try simp only [thenQ, blockQ, if_true, if_false, Nat.reduceEqDiff, reduceCtorEq]) | (refine aw_exit ?_; try simp only [thenQ, blockQ, if_true, if_false, Nat.reduceEqDiff, reduceCtorEq]) | refine aw_ret ?_ | refine aw_block ?_ | refine aw_condT rfl ?_ | refine aw_condF rfl ?_ | (refine aw_cond rfl (fun hg => ?_) (fun hg => ?_) <;> (try (have hq := hg; simp only [Bool.not_eq_true', Bool.not_eq_false', Bool.and_eq_true, Bool.and_eq_false_iff, Bool.or_eq_true, Bool.or_eq_false_iff, decide_eq_true_eq, decide_eq_false_iff_not, bne_iff_ne, beq_iff_eq, beq_eq_false_iff_ne, bne_eq_false_iff_eq, ne_eq, Int.not_lt, Int.not_le, Decidable.not_not] at hq)) <;> (try (have hr := hg; simp only [decide_eq_true_eq, decide_eq_false_iff_not] at hr)) <;> (try (exfalso; omega))) | ((first | refine aw_region ?_ | refine acall0 (sf) ?_ | refine ago_if (by omega) ?_ | skip); simp (config := {maxSteps := 10000000}) (disch := first | exact okYes (by kernel_rfl) | omega) only [thenQ, dI, List.length, Nat.zero_add, Nat.reduceAdd, Nat.reduceMul, ARun_none, AOpRun, aexec, FSt.ev, St.F, eget_c, Nat.reduceBEq, ↓eget_h, cond_false, AGo_ok, St.app, putO, eput_c, eput_n, hups, List.map, rows_len, isSh, Bool.false_eq_true, ↓reduceIte, Option.map, abin, ARun_nil, dropE_c, inL_c, inL_n, beq_self_eq_true, cond_true, dropE_n, hr, decide_true, hget_c, hget_n, Nat.le_refl, List.drop, List.take, run1, List.getElem?_cons_succ, List.getElem?_cons_zero, Int.natCast_nonneg, fa, and_self, opt1, Int.toNat_natCast, g0, dB, rows_all, g1, blockQ, fillD, D.isBot, D.cells, ne_eq, not_true_eq_false, Nat.reduceGT, or_self, splice, List.nil_append, List.cons_append, List.append_nil, Option.isSome, hput_c, hput_n, base, ↓hget_h, hic, hit, elems, List.all, D.leaf, Bool.and_true, and_true, ups, hdel_c, hdel_n, fits])))
    refine ⟨k + 1, by omega, by omega, ?_⟩
    rw [e2, hlen]
    refine wk_to [] [(0, 0), (40, 608)] (by kernel_rfl) (by kernel_rfl) (by kernel_rfl) (by kernel_rfl) (by kernel_rfl) ?_ ?_ <;> repeat' (first | exact trivial | exact vr_val _ | exact vr_list _ | exact vr_vec _ _ _ _ rfl | exact vr_ptr _ _ _ rfl | refine And.intro ⟨_, rfl, .inl ⟨_, rfl, by decide, ?_⟩⟩ ?_ | apply And.intro | exact vrl_flat _ (by first | exact icells_in _ | exact rcells_in _ | exact scells_in _ | exact bcells_in _ | assumption) | fail)
  | none =>
    rw [hs] at sf e
    simp only [Option.getD_none, Option.isSome_none, List.append_nil] at sf e
    (have hg : (987654321 : Nat) - 987654321 = 0 := rfl; have hr := hg; repeat' (first | refine aw_seq ?_ | (refine aw_skip ?_; try simp only [thenQ, blockQ, if_true, if_false, Nat.reduceEqDiff, reduceCtorEq]) | (refine aw_exit ?_; try simp only [thenQ, blockQ, if_true, if_false, Nat.reduceEqDiff, reduceCtorEq]) | refine aw_ret ?_ | refine aw_block ?_ | refine aw_condT rfl ?_ | refine aw_condF rfl ?_ | (refine aw_cond rfl (fun hg => ?_) (fun hg => ?_) <;> (try (have hq := hg; simp only [Bool.not_eq_true', Bool.not_eq_false', Bool.and_eq_true, Bool.and_eq_false_iff, Bool.or_eq_true, Bool.or_eq_false_iff, decide_eq_true_eq, decide_eq_false_iff_not, bne_iff_ne, beq_iff_eq, beq_eq_false_iff_ne, bne_eq_false_iff_eq, ne_eq, Int.not_lt, Int.not_le, Decidable.not_not] at hq)) <;> (try (have hr := hg; simp only [decide_eq_true_eq, decide_eq_false_iff_not] at hr)) <;> (try (exfalso; omega))) | ((first | refine aw_region ?_ | refine acall0 (sf) ?_ | refine ago_if (by omega) ?_ | skip); simp (config := {maxSteps := 10000000}) (disch := first | exact okYes (by kernel_rfl) | omega) only [thenQ, dI, List.length, Nat.zero_add, Nat.reduceAdd, Nat.reduceMul, ARun_none, AOpRun, aexec, FSt.ev, St.F, eget_c, Nat.reduceBEq, ↓eget_h, cond_false, AGo_ok, St.app, putO, eput_c, eput_n, hups, List.map, rows_len, isSh, Bool.false_eq_true, ↓reduceIte, Option.map, abin, ARun_nil, dropE_c, inL_c, inL_n, beq_self_eq_true, cond_true, dropE_n, hr, decide_true, hget_c, hget_n, Nat.reduceLeDiff, List.drop, List.take, run1, List.getElem?_cons_succ, List.getElem?_cons_zero, Int.natCast_nonneg, fa, and_self, opt1, Int.toNat_natCast, g0, dB, rows_all, g1, fits])))
    refine ⟨k + 1, by omega, by omega, ?_⟩
    rw [e]
    refine wk_to [] [(0, 0), (40, 40)] (by kernel_rfl) (by kernel_rfl) (by kernel_rfl) (by kernel_rfl) (by kernel_rfl) ?_ ?_ <;> repeat' (first | exact trivial | exact vr_val _ | exact vr_list _ | exact vr_vec _ _ _ _ rfl | exact vr_ptr _ _ _ rfl | refine And.intro ⟨_, rfl, .inl ⟨_, rfl, by decide, ?_⟩⟩ ?_ | apply And.intro | exact vrl_flat _ (by first | exact icells_in _ | exact rcells_in _ | exact scells_in _ | exact bcells_in _ | assumption) | fail)
set_option maxRecDepth 100000 in
set_option maxHeartbeats 1000000 in
theorem rfield_ac (l : Lay) (n : Int) (hn : l.fl.length ≤ 1000) : AC Try.prog 69 [layD l, dI n] [] [] (dB (wI n 0 ((l.fl.length : Int) - 1))) := by
  refine kref12_field.ac (n0 := 0) (by simp) ⟨in_layD _ _, .val _, trivial⟩ trivial rfl ?_
  unfold cref12_field layD layC
  (have hg : (987654321 : Nat) - 987654321 = 0 := rfl; have hr := hg; repeat' (first | refine aw_seq ?_ | (refine aw_skip ?_; try simp only [thenQ, blockQ, if_true, if_false, Nat.reduceEqDiff, reduceCtorEq]) | (refine aw_exit ?_; try simp only [thenQ, blockQ, if_true, if_false, Nat.reduceEqDiff, reduceCtorEq]) | refine aw_ret ?_ | refine aw_block ?_ | refine aw_condT rfl ?_ | refine aw_condF rfl ?_ | ((first | refine aw_region ?_ | refine acall0 (from_ac _ _ _) ?_ | refine ago_if (by omega) ?_ | skip); simp (config := {maxSteps := 10000000}) (disch := first | exact okYes (by kernel_rfl) | omega) only [thenQ, List.map, dB, List.length, Nat.zero_add, Nat.reduceAdd, Nat.reduceMul, envOf, dI, ARun_none, AOpRun, aexec, D.isBot, FSt.ev, St.F, ↓eget_h, Bool.false_eq_true, Option.isSome, hget_n, or_self, ↓reduceIte, D.cells, AGo_ok, St.app, putO, eput_c, Nat.reduceBEq, eput_n, cond_false, hups, hput_n, ARun_nil, dropE_c, inL_n, dropE_n, eget_c, Option.map, run1, hget_c, beq_self_eq_true, cond_true, List.getElem?_cons_succ, List.getElem?_cons_zero, fls_len, isSh, abin, fits, inL_c])))
  all_goals (refine end_to [] [] (by first | exact .inl rfl | exact .inr rfl) rfl (by kernel_rfl) (by kernel_rfl) (by kernel_rfl) ?_ ?_ <;> repeat' (first | exact trivial | exact vr_val _))
end Go.Proofs.Ytdcodicoclecnaa
/- record: Shake, all answers; the document's Series, Shaken, Shake. No conditions. -/
set_option linter.unusedSimpArgs false
set_option linter.unusedVariables false
namespace Go.Proofs.Ytdcodicoclecnaa
open Go Go.RowKit Lift

def shV (l : Lay) (frs : List (List Int)) (x : Int) : List Int := smV l (fAt l x.toNat) frs frs.length
def shM (l : Lay) (frs : List (List Int)) (x y : Int) : List Int := smM l (fAt l x.toNat) (fAt l y.toNat) frs frs.length
noncomputable def shL (l : Lay) (frs : List (List Int)) (x y pts : Int) : List Int := if wfE l frs [x, y] = 0 then avL (shV l frs x) (shM l frs x y) pts else []
noncomputable def shD (l : Lay) (frs : List (List Int)) (x y pts : Int) : Int := if wfE l frs [x, y] = 0 then avD (shV l frs x) (shM l frs x y) pts else 0
noncomputable def shE (l : Lay) (frs : List (List Int)) (x y pts : Int) : Int := if wfE l frs [x, y] = 0 then avE (shV l frs x) (shM l frs x y) pts else wfE l frs [x, y]
theorem wfE_two {l : Lay} {frs : List (List Int)} {x y : Int} (h : wfE l frs [x, y] = 0) : LayOk l ∧ frs.length ≤ 200 ∧ tpE l frs = 0 ∧ wI x 0 ((l.fl.length : Int) - 1) = true ∧ wI y 0 ((l.fl.length : Int) - 1) = true := by
  unfold wfE at h
  rcases tpE_cases l frs with ⟨h0, h1, h2⟩ | ⟨h0, _⟩
  · rw [if_pos h0] at h
    cases hh : hasA l [x, y] with
    | false => rw [hh] at h; cases h
    | true =>
      rw [hasA_two, Bool.and_eq_true] at hh
      exact ⟨h1, h2, h0, hh.1, hh.2⟩
  · rw [if_neg h0] at h; exact absurd h h0
set_option maxRecDepth 100000 in
set_option maxHeartbeats 4000000 in
theorem shake_err (l : Lay) (frs : List (List Int)) (x y pts : Int) (hl : LayIn l) (he : wfE l frs [x, y] ≠ 0) (hf : FrIn frs) : AC Try.prog 52 [layD l, .list (rows frs), dI x, dI y, dI pts] [] [] (.tup [.list (ints []), dI 0, dI (wfE l frs [x, y])]) := by
  refine krecord_Shake.ac (n0 := 0) (by simp) ⟨in_layD _ _, .list _, .val _, .val _, .val _, trivial⟩ trivial rfl ?_
  unfold crecord_Shake layD layC
  have nt := withField_err l frs [x, y] hl hf (Nat.le_of_ble_eq_true rfl) he
  have h1 : (wfE l frs [x, y] != 0) = true := by simpa using he
  generalize wfE l frs [x, y] = E at *
  refine aw_seq (aw_region ?_)
  simp (config := {maxSteps := 10000000}) (disch := first | exact okYes (by kernel_rfl) | omega) only [thenQ, List.map, dI, List.length, Nat.zero_add, Nat.reduceAdd, Nat.reduceMul, envOf, ARun_none, AOpRun, aexec, D.isBot, FSt.ev, St.F, ↓eget_h, Bool.false_eq_true, Option.isSome, hget_n, or_self, ↓reduceIte, D.cells, AGo_ok, St.app, putO, eput_c, Nat.reduceBEq, eput_n, cond_false, hups, hput_n, ARun_nil, dropE_c, inL_n, dropE_n]
  refine aw_seq (aw_region ?_)
  simp (config := {maxSteps := 10000000}) (disch := first | exact okYes (by kernel_rfl) | omega) only [thenQ, List.length, Nat.zero_add, Nat.reduceAdd, Nat.reduceMul, ARun_none, AOpRun, aexec, FSt.ev, St.F, eget_c, Nat.reduceBEq, ↓eget_h, cond_false, hget_c, beq_self_eq_true, hget_n, cond_true, Nat.reduceLeDiff, ↓reduceIte, List.drop, List.take, AGo_ok, St.app, putO, eput_c, eput_n, hups, List.map, Option.isSome, Bool.false_eq_true, Option.map, fillD, D.isBot, D.cells, ne_eq, not_true_eq_false, Nat.reduceGT, or_self, splice, List.nil_append, List.cons_append, List.append_nil, hput_c, hput_n]
  refine acall nt [64] ⟨.refl _, .refl _, vec_ints [x, y] (by simp) rfl rfl, trivial⟩ (.inr (.tup _ (by intro d hd; simp at hd; rcases hd with rfl | rfl <;> exact .val _))) (by intro g hg; simp at hg; subst hg; exact ⟨_, rfl⟩) (by kernel_rfl) ?_
  simp (config := {maxSteps := 10000000}) (disch := first | exact okYes (by kernel_rfl) | omega) only [Nat.reduceAdd, St.app, putO, dI, eput_c, Nat.reduceBEq, eput_n, cond_false, hups, ARun_none, AOpRun, aexec, FSt.ev, St.F, eget_c, ↓eget_h, AGo_ok, List.map, opt1, Option.map, List.getElem?_cons_zero, List.getElem?_cons_succ, beq_self_eq_true, cond_true, ARun_nil, dropE_c, inL_c, inL_n, dropE_n]
  (have hg : (987654321 : Nat) - 987654321 = 0 := rfl; have hr := hg; repeat' (first | refine aw_seq ?_ | (refine aw_skip ?_; repeat' (first | with_reducible refine thenQ_n ?_ | with_reducible refine blockQ_n ?_ | with_reducible refine thenQ_e ?_ | with_reducible refine blockQ_t ?_ | with_reducible refine blockQ_f (by decide) ?_)) | (refine aw_exit ?_; repeat' (first | with_reducible refine thenQ_n ?_ | with_reducible refine blockQ_n ?_ | with_reducible refine thenQ_e ?_ | with_reducible refine blockQ_t ?_ | with_reducible refine blockQ_f (by decide) ?_)) | refine aw_ret ?_ | refine aw_block ?_ | refine aw_condT rfl ?_ | refine aw_condF rfl ?_ | ((first | refine aw_hide fun K hK => aw_region ?_ | refine ago_if (by omega) ?_ | skip); simp (config := {maxSteps := 10000000}) (disch := first | exact okYes (by kernel_rfl) | omega) only [List.length, Nat.zero_add, Nat.reduceAdd, Nat.reduceMul, ARun_none, AOpRun, aexec, FSt.ev, St.F, eget_c, Nat.reduceBEq, ↓eget_h, cond_false, AGo_ok, St.app, putO, eput_c, eput_n, hups, List.map, isSh, Bool.false_eq_true, ↓reduceIte, Option.map, abin, h1, ARun_nil, dropE_c, inL_c, inL_n, beq_self_eq_true, cond_true, dropE_n, thenQ]) | (subst hK; repeat' (first | with_reducible refine thenQ_n ?_ | with_reducible refine blockQ_n ?_ | with_reducible refine thenQ_e ?_ | with_reducible refine blockQ_t ?_ | with_reducible refine blockQ_f (by decide) ?_))))
  (refine end_to [] [] (by first | exact .inl rfl | exact .inr rfl) rfl (by kernel_rfl) (by kernel_rfl) (by kernel_rfl) ?_ ?_ <;> repeat' (first | exact trivial | exact vr_val _ | exact vr_nil | apply vr_tup | apply And.intro))
theorem shake_ac (l : Lay) (frs : List (List Int)) (x y pts : Int) (hl : LayIn l) (hf : FrIn frs) : AC Try.prog 52 [layD l, .list (rows frs), dI x, dI y, dI pts] [] [] (.tup [.list (ints (shL l frs x y pts)), dI (shD l frs x y pts), dI (shE l frs x y pts)]) := by
  unfold shL shD shE
  by_cases h : wfE l frs [x, y] = 0
  · obtain ⟨h1, h2, _, hx, hy⟩ := wfE_two h
    have hx := wI_t hx
    have hy := wI_t hy
    obtain ⟨a, rfl⟩ : ∃ a : Nat, x = a := ⟨x.toNat, by omega⟩
    obtain ⟨b, rfl⟩ : ∃ b : Nat, y = b := ⟨y.toNat, by omega⟩
    rw [if_pos h, if_pos h, if_pos h]
    unfold shV shM
    rw [Int.toNat_natCast, Int.toNat_natCast]
    exact shake_ok l frs a b pts hl h1 h2 hf (by omega) (by omega)
  · rw [if_neg h, if_neg h, if_neg h]
    exact shake_err l frs x y pts hl h hf
/-- the marks, as the document finds them -/
def hitB (p : Int) (x : Int × Int) : Bool := x.1 == p && x.2 != 0
def mkRr (s m : List (Int × Int)) : Nat → List Int
  | 0 => []
  | i + 1 => mkRr s m i ++ (m.filter (hitB (lo s i))).map fun _ => (i : Int)
def mkI (s m : List (Int × Int)) (i k : Nat) : List Int := mkRr s m i ++ ((m.take k).filter (hitB (lo s i))).map fun _ => (i : Int)
theorem mkI_zero (s m : List (Int × Int)) (i : Nat) : mkI s m i 0 = mkRr s m i := by simp [mkI]
theorem mkI_end (s m : List (Int × Int)) (i : Nat) : mkI s m i m.length = mkRr s m (i + 1) := by simp [mkI, mkRr]
theorem mkI_succ (s m : List (Int × Int)) (i k : Nat) (hk : k < m.length) : mkI s m i (k + 1) = if hitB (lo s i) (lo m k, hi m k) = true then mkI s m i k ++ [(i : Int)] else mkI s m i k := by
  unfold mkI
  rw [List.take_add_one, List.getElem?_eq_getElem hk, Option.toList_some, List.filter_append, List.map_append, ← List.append_assoc]
  have e : m[k] = (lo m k, hi m k) := by simp [lo, hi, hk]
  rw [e]
  cases h : hitB (lo s i) (lo m k, hi m k) <;> simp [h]
theorem mkRr_len (s m : List (Int × Int)) (hm : m.length ≤ 200) : ∀ i, (mkRr s m i).length ≤ 200 * i
  | 0 => Nat.le_refl _
  | i + 1 => by
    have := mkRr_len s m hm i
    have := List.length_filter_le (hitB (lo s i)) m
    simp only [mkRr, List.length_append, List.length_map]
    omega
theorem mkI_len (s m : List (Int × Int)) (hm : m.length ≤ 200) (i k : Nat) : (mkI s m i k).length ≤ 200 * i + 200 := by
  have := mkRr_len s m hm i
  have := List.length_filter_le (hitB (lo s i)) (m.take k)
  have : (m.take k).length ≤ m.length := by rw [List.length_take]; omega
  simp only [mkI, List.length_append, List.length_map]
  omega
theorem mkRr_app (s t m : List (Int × Int)) : ∀ i, i ≤ s.length → mkRr (s ++ t) m i = mkRr s m i
  | 0, _ => rfl
  | i + 1, h => by
    have e : lo (s ++ t) i = lo s i := by simp [lo, List.getElem?_append_left (show i < s.length by omega)]
    simp only [mkRr]
    rw [mkRr_app s t m i (by omega), e]
theorem filt_map (l : Lay) (g : Fl) (frs : List (List Int)) (c : Int) (i : Nat) : ∀ n, ((smps l g frs n).filter (hitB (i : Int))).map (fun _ => c) = if i < n ∧ mkB l g (frm frs i) = true then [c] else []
  | 0 => by rw [if_neg (by omega)]; rfl
  | n + 1 => by
    rw [smps_succ, List.filter_append, List.map_append, filt_map l g frs c i n]
    cases hs : smp l g (frm frs n) with
    | none =>
      have hb : mkB l g (frm frs n) = false := by unfold mkB; rw [hs]
      simp only [List.filter_nil, List.map_nil, List.append_nil]
      by_cases h : i = n
      · subst h
        rw [if_neg (by omega), if_neg (by rw [hb]; simp)]
      · congr 1
        simp only [eq_iff_iff]
        constructor <;> rintro ⟨h1, h2⟩ <;> exact ⟨by omega, h2⟩
    | some v =>
      have hb : mkB l g (frm frs n) = (v != 0) := by unfold mkB; rw [hs]
      by_cases h : i = n
      · subst h
        rw [if_neg (by omega), hb]
        cases hv : (v != 0) with
        | true => simp [hitB, hv]
        | false => simp [hitB, hv]
      · have hh : hitB (i : Int) ((n : Int), v) = false := by
          have : ((n : Int) == (i : Int)) = false := by simp only [beq_eq_false_iff_ne]; omega
          simp [hitB, this]
        simp only [List.filter_cons, hh, List.filter_nil, List.map_nil, List.append_nil, if_false, Bool.false_eq_true]
        congr 1
        simp only [eq_iff_iff]
        constructor <;> rintro ⟨h1, h2⟩ <;> exact ⟨by omega, h2⟩
theorem mkRr_smM (l : Lay) (f g : Fl) (frs : List (List Int)) (n : Nat) : ∀ k, k ≤ n → mkRr (smps l f frs k) (smps l g frs n) (smps l f frs k).length = smM l f g frs k
  | 0, _ => rfl
  | k + 1, hk => by
    have ih := mkRr_smM l f g frs n k (by omega)
    rw [smps_succ]
    simp only [smM]
    cases hs : smp l f (frm frs k) with
    | none => simp only [List.append_nil]; exact ih
    | some v =>
      simp only [List.length_append, List.length_cons, List.length_nil, Nat.zero_add]
      have e : lo (smps l f frs k ++ [((k : Int), v)]) (smps l f frs k).length = (k : Int) := by simp [lo]
      simp only [mkRr]
      rw [mkRr_app _ _ _ _ (Nat.le_refl _), ih, e, filt_map]
      by_cases hb : mkB l g (frm frs k) = true
      · rw [if_pos ⟨by omega, hb⟩, if_pos hb]
      · rw [if_neg (fun h => hb h.2), if_neg hb, List.append_nil]
theorem ict (b : List Int) (k : Nat) (h : k < b.length) : icells (b.take (k + 1)) = icells (b.take k) ++ [.val (.int .i64 (b[k]?.getD 0))] := by
  have e : b.take (k + 1) = b.take k ++ [b[k]?.getD 0] := by rw [List.take_add_one]; simp [h]
  rw [e, ic_app]
set_option maxRecDepth 100000 in
set_option maxHeartbeats 2000000 in
theorem rseries_ac (s : List (Int × Int)) (hs : s.length ≤ 1000000) : AC Try.prog 61 [.list (sps s)] [] [] (.list (ints (s.map (·.2)))) := by
  refine kref12_Series.ac (n0 := 0) (by simp) ⟨.list _, trivial⟩ trivial rfl ?_
  unfold cref12_Series
  have hl : (s.map (·.2)).length = s.length := by simp
  refine aw_seq (aw_region ?_)
  simp (config := {maxSteps := 10000000}) (disch := first | exact okYes (by kernel_rfl) | omega) only [thenQ, List.map, List.length, Nat.zero_add, Nat.reduceMul, envOf, ARun_none, AOpRun, aexec, FSt.ev, AGo_ok, St.app, putO, eput_c, Nat.reduceBEq, eput_n, cond_false, hups, ARun_nil, dropE_c, inL_n, dropE_n]
  refine aw_seq (aw_region ?_)
  simp (config := {maxSteps := 10000000}) (disch := first | exact okYes (by kernel_rfl) | omega) only [thenQ, List.length, Nat.zero_add, Nat.reduceMul, Nat.reduceAdd, ARun_none, AOpRun, aexec, FSt.ev, AGo_ok, St.app, putO, eput_c, Nat.reduceBEq, eput_n, cond_false, hups, List.map, ARun_nil, dropE_c, inL_n, dropE_n]
  refine aw_seq (aw_seq (aw_region ?_))
  simp (config := {maxSteps := 10000000}) (disch := first | exact okYes (by kernel_rfl) | omega) only [thenQ, List.length, Nat.zero_add, Nat.reduceMul, Nat.reduceAdd, ARun_none, AOpRun, aexec, FSt.ev, AGo_ok, St.app, putO, eput_c, Nat.reduceBEq, eput_n, cond_false, hups, List.map, ARun_nil, dropE_c, inL_n, dropE_n]
  refine aw_block (aw_loop (fun k : Nat => ⟨[(0, .list (sps s)), (3, .vec 40 k 1), (4, dI k)], [(40, icells ((s.map (·.2)).take k))], 400⟩) (fun k => k ≤ s.length) (fun k => s.length - k) ⟨0, by omega, ?_⟩ ?_)
  · show Wk _ _ ⟨[_, _, _], [(40, [])], _⟩
    unfold dI
    refine wk_to [] [(40, 900)] (by kernel_rfl) (by kernel_rfl) (by kernel_rfl) (by kernel_rfl) (by kernel_rfl) ?_ ?_ <;> repeat' (first | exact trivial | exact vr_val _ | exact vr_list _ | exact vr_nilv _ _ _ rfl | refine And.intro ⟨_, rfl, .inr ⟨rfl, rfl, of_decide_eq_true (by kernel_rfl)⟩⟩ ?_ | apply And.intro)
  intro k hk
  by_cases hk2 : k < s.length
  case neg =>
    obtain rfl : k = s.length := by omega
    rw [List.take_of_length_le (Nat.le_of_eq hl)]
    generalize s.map (·.2) = V at *
    (have hg : (987654321 : Nat) - 987654321 = 0 := rfl; have hr := hg; repeat' (first | refine aw_seq ?_ | (refine aw_skip ?_; repeat' (first | with_reducible refine thenQ_n ?_ | with_reducible refine blockQ_n ?_ | with_reducible refine thenQ_e ?_ | with_reducible refine blockQ_t ?_ | with_reducible refine blockQ_f (by decide) ?_)) | (refine aw_exit ?_; repeat' (first | with_reducible refine thenQ_n ?_ | with_reducible refine blockQ_n ?_ | with_reducible refine thenQ_e ?_ | with_reducible refine blockQ_t ?_ | with_reducible refine blockQ_f (by decide) ?_)) | refine aw_ret ?_ | refine aw_block ?_ | refine aw_condT rfl ?_ | refine aw_condF rfl ?_ | (refine aw_cond rfl (fun hg => ?_) (fun hg => ?_) <;> (try (have hq := hg; simp only [Bool.not_eq_true', Bool.not_eq_false', Bool.and_eq_true, Bool.and_eq_false_iff, Bool.or_eq_true, Bool.or_eq_false_iff, decide_eq_true_eq, decide_eq_false_iff_not, bne_iff_ne, beq_iff_eq, beq_eq_false_iff_ne, bne_eq_false_iff_eq, ne_eq, Int.not_lt, Int.not_le, Decidable.not_not] at hq)) <;> (try (have hr := hg; simp only [decide_eq_true_eq, decide_eq_false_iff_not] at hr)) <;> (try (exfalso; omega))) | ((first | refine aw_hide fun K hK => aw_region ?_ | refine ago_if (by omega) ?_ | skip); simp (config := {maxSteps := 10000000}) (disch := first | exact okYes (by kernel_rfl) | omega) only [List.length, Nat.zero_add, Nat.reduceAdd, Nat.reduceMul, dI, ARun_none, AOpRun, aexec, FSt.ev, St.F, eget_c, Nat.reduceBEq, ↓eget_h, cond_false, AGo_ok, St.app, putO, eput_c, eput_n, hups, List.map, sps_len, isSh, Bool.false_eq_true, ↓reduceIte, Option.map, abin, ARun_nil, dropE_c, inL_c, inL_n, beq_self_eq_true, cond_true, dropE_n, hr, decide_false]) | (subst hK; repeat' (first | with_reducible refine thenQ_n ?_ | with_reducible refine blockQ_n ?_ | with_reducible refine thenQ_e ?_ | with_reducible refine blockQ_t ?_ | with_reducible refine blockQ_f (by decide) ?_))))
    refine end_to [40] [] (by first | exact .inl rfl | exact .inr rfl) rfl (by kernel_rfl) (by kernel_rfl) (by kernel_rfl) ?_ ?_ <;> repeat' (first | exact trivial | refine vr_fl _ _ _ _ _ (by decide) rfl ?_ ?_ ?_ ?_)
    all_goals first | exact ints_one _ | exact (ints_len _).trans hl | exact ints_flat _ | exact icells_in _
  have g1 := sps_gd s k hk2
  have ki : (k : Int) < (s.length : Int) := by omega
  have hnew := ict (s.map (·.2)) k (by omega)
  rw [show (s.map (·.2))[k]?.getD 0 = hi s k by simp [hi, hk2]] at hnew
  have hcl : (icells ((s.map (·.2)).take k)).length = k := by rw [icells_len, List.length_take]; omega
  have hct : (icells ((s.map (·.2)).take k)).take k = icells ((s.map (·.2)).take k) := List.take_of_length_le (by omega)
  have hin : ∀ y ∈ icells ((s.map (·.2)).take k) ++ [.val (.int .i64 (hi s k))], In (fun _ => False) y := by rw [← hnew]; exact icells_in _
  generalize hg0 : (s.map (·.2)).take k = V0 at *
  (have hg : (987654321 : Nat) - 987654321 = 0 := rfl; have hr := hg; repeat' (first | refine aw_seq ?_ | (refine aw_skip ?_; repeat' (first | with_reducible refine thenQ_n ?_ | with_reducible refine blockQ_n ?_ | with_reducible refine thenQ_e ?_ | with_reducible refine blockQ_t ?_ | with_reducible refine blockQ_f (by decide) ?_)) | (refine aw_exit ?_; repeat' (first | with_reducible refine thenQ_n ?_ | with_reducible refine blockQ_n ?_ | with_reducible refine thenQ_e ?_ | with_reducible refine blockQ_t ?_ | with_reducible refine blockQ_f (by decide) ?_)) | refine aw_ret ?_ | refine aw_block ?_ | refine aw_condT rfl ?_ | refine aw_condF rfl ?_ | ((first | refine aw_hide fun K hK => aw_region ?_ | refine ago_if (by omega) ?_ | skip); simp (config := {maxSteps := 10000000}) (disch := first | exact okYes (by kernel_rfl) | omega) only [List.length, Nat.zero_add, Nat.reduceAdd, Nat.reduceMul, dI, ARun_none, AOpRun, aexec, FSt.ev, St.F, eget_c, Nat.reduceBEq, ↓eget_h, cond_false, AGo_ok, St.app, putO, eput_c, eput_n, hups, List.map, sps_len, isSh, Bool.false_eq_true, ↓reduceIte, Option.map, abin, ki, decide_true, ARun_nil, dropE_c, inL_c, inL_n, beq_self_eq_true, cond_true, dropE_n, Int.natCast_nonneg, sps_all, and_self, opt1, Int.toNat_natCast, g1, Int.reduceLE, cast_lit, Int.reduceLT, Int.reduceToNat, Nat.mul_one, List.drop, run1, List.getElem?_cons_zero, Option.isSome, hget_c, hget_n, fillD, D.isBot, D.cells, ne_eq, not_true_eq_false, Nat.reduceGT, or_self, splice, List.take, List.nil_append, List.append_nil, hput_c, hput_n, base, hcl, Nat.le_refl, hct, elems, ↓hget_h, List.all, D.leaf, Bool.and_true, and_true, ups, List.cons_append, hdel_c, hdel_n, fits]) | (subst hK; repeat' (first | with_reducible refine thenQ_n ?_ | with_reducible refine blockQ_n ?_ | with_reducible refine thenQ_e ?_ | with_reducible refine blockQ_t ?_ | with_reducible refine blockQ_f (by decide) ?_))))
  refine ⟨k + 1, by omega, by omega, ?_⟩
  rw [hnew]
  refine wk_to [] [(40, 488)] (by kernel_rfl) (by kernel_rfl) (by kernel_rfl) (by kernel_rfl) (by kernel_rfl) ?_ ?_ <;> repeat' (first | exact trivial | exact vr_val _ | exact vr_list _ | exact vr_vec _ _ _ _ rfl | refine And.intro ⟨_, rfl, .inl ⟨_, rfl, by decide, ?_⟩⟩ ?_ | apply And.intro | exact vrl_flat _ (by first | exact icells_in _ | exact rcells_in _ | exact scells_in _ | exact bcells_in _ | assumption))
set_option maxRecDepth 100000 in
set_option maxHeartbeats 4000000 in
theorem rshaken_ac (l : Lay) (frs : List (List Int)) (a b : Nat) (h1 : LayOk l) (h2 : frs.length ≤ 200) (hf : FrIn frs) (ha : a < l.fl.length) (hb : b < l.fl.length) : AC Try.prog 55 [layD l, .list (rows frs), dI a, dI b] [] [] (.agg [.list (ints (shV l frs a)), .list (ints (shM l frs a b))]) := by
  refine kref12_Shaken.ac (n0 := 0) (by simp) ⟨in_layD _ _, .list _, .val _, .val _, trivial⟩ trivial rfl ?_
  unfold cref12_Shaken
  have s1 := rsamples_ac l frs a h1 h2 hf ha
  have s2 := rsamples_ac l frs b h1 h2 hf hb
  have hml := smps_len l (fAt l b) frs frs.length
  have hsl := smps_len l (fAt l a) frs frs.length
  have hm : shM l frs a b = mkRr (smps l (fAt l a) frs frs.length) (smps l (fAt l b) frs frs.length) (smps l (fAt l a) frs frs.length).length := by
    unfold shM; rw [Int.toNat_natCast, Int.toNat_natCast]; exact (mkRr_smM _ _ _ _ _ _ (Nat.le_refl _)).symm
  have hv : shV l frs a = (smps l (fAt l a) frs frs.length).map (·.2) := by unfold shV smV; rw [Int.toNat_natCast]
  rw [hm, hv]
  clear hm hv
  generalize smps l (fAt l a) frs frs.length = s at *
  generalize smps l (fAt l b) frs frs.length = m at *
  have s3 := rseries_ac s (by omega)
  have hvl : (s.map (·.2)).length = s.length := by simp
  generalize s.map (·.2) = V at *
  unfold layD layC at *
  refine aw_seq (aw_region ?_)
  simp (config := {maxSteps := 10000000}) (disch := first | exact okYes (by kernel_rfl) | omega) only [thenQ, List.map, List.length, Nat.zero_add, Nat.reduceAdd, Nat.reduceMul, envOf, dI, ARun_none, AOpRun, aexec, D.isBot, FSt.ev, St.F, ↓eget_h, Bool.false_eq_true, Option.isSome, hget_n, or_self, ↓reduceIte, D.cells, AGo_ok, St.app, putO, eput_c, Nat.reduceBEq, eput_n, cond_false, hups, hput_n, hget_c, hput_c, ARun_nil, dropE_c, inL_n, dropE_n]
  refine aw_seq (aw_region ?_)
  simp (config := {maxSteps := 10000000}) (disch := first | exact okYes (by kernel_rfl) | omega) only [thenQ, List.length, Nat.zero_add, Nat.reduceAdd, Nat.reduceMul, ARun_none, AOpRun, aexec, FSt.ev, St.F, eget_c, Nat.reduceBEq, ↓eget_h, cond_false, hget_c, beq_self_eq_true, hget_n, cond_true, Nat.reduceLeDiff, ↓reduceIte, List.drop, List.take, AGo_ok, St.app, putO, eput_c, eput_n, hups, List.map]
  refine acall0 s1 ?_
  simp (config := {maxSteps := 10000000}) (disch := first | exact okYes (by kernel_rfl) | omega) only [Nat.reduceAdd, St.app, putO, eput_c, Nat.reduceBEq, eput_n, cond_false, hups, ARun_none, AOpRun, aexec, FSt.ev, St.F, eget_c, ↓eget_h, hget_c, beq_self_eq_true, hget_n, cond_true, Nat.zero_add, List.length, Nat.reduceLeDiff, ↓reduceIte, List.drop, List.take, AGo_ok, List.map]
  refine acall0 s2 ?_
  simp (config := {maxSteps := 10000000}) (disch := first | exact okYes (by kernel_rfl) | omega) only [Nat.reduceAdd, St.app, putO, eput_c, Nat.reduceBEq, eput_n, cond_false, hups, ARun_none, AOpRun, aexec, FSt.ev, St.F, eget_c, ↓eget_h, AGo_ok, List.map, ARun_nil, dropE_c, inL_c, inL_n, beq_self_eq_true, cond_true, dropE_n]
  refine aw_seq (aw_region ?_)
  simp (config := {maxSteps := 10000000}) (disch := first | exact okYes (by kernel_rfl) | omega) only [thenQ, List.length, Nat.zero_add, Nat.reduceAdd, Nat.reduceMul, ARun_none, AOpRun, aexec, FSt.ev, St.F, eget_c, Nat.reduceBEq, ↓eget_h, cond_false, AGo_ok, St.app, putO, eput_c, eput_n, hups, List.map]
  refine acall0 s3 ?_
  simp (config := {maxSteps := 10000000}) (disch := first | exact okYes (by kernel_rfl) | omega) only [Nat.reduceAdd, St.app, putO, eput_c, Nat.reduceBEq, eput_n, cond_false, hups, ARun_none, AOpRun, aexec, Option.map, fillD, D.isBot, FSt.ev, St.F, eget_c, ↓eget_h, Bool.false_eq_true, D.cells, List.length, Nat.zero_add, ne_eq, not_true_eq_false, Nat.reduceGT, or_self, ↓reduceIte, splice, List.take, List.nil_append, List.drop, List.cons_append, AGo_ok, List.map, Option.isSome, Nat.reduceMul, hget_c, hget_n, hput_c, hput_n, ↓hget_h, Nat.reduceLeDiff, List.all, D.leaf, Bool.and_true, and_self, List.append_nil, beq_self_eq_true, cond_true, ARun_nil, dropE_c, inL_c, inL_n, dropE_n]
  refine aw_seq (aw_seq (aw_region ?_))
  simp (config := {maxSteps := 10000000}) (disch := first | exact okYes (by kernel_rfl) | omega) only [thenQ, List.length, Nat.zero_add, Nat.reduceMul, Nat.reduceAdd, ARun_none, AOpRun, aexec, FSt.ev, AGo_ok, St.app, putO, eput_c, Nat.reduceBEq, eput_n, cond_false, hups, List.map, ARun_nil, dropE_c, inL_n, dropE_n]
  refine aw_block (aw_loop (fun i : Nat => ⟨[(8, .ptr 8 0), (9, .list (sps s)), (10, .list (sps m)), (11, .ptr 16 0), (12, dI i)], [(8, [.val (.slice none 0 0), .val (.slice none 0 0)]), (16, [.list (ints V), .vec 24 (mkRr s m i).length 1]), (24, icells (mkRr s m i))], 1000⟩) (fun i => i ≤ s.length) (fun i => s.length - i) ⟨0, by omega, ?_⟩ ?_)
  · show Wk _ _ ⟨[_, _, _, _, _], [_, (16, [_, .vec 24 0 1]), (24, [])], _⟩
    unfold dI
    refine wk_to [] [(8, 8), (16, 120), (24, 900)] (by kernel_rfl) (by kernel_rfl) (by kernel_rfl) (by kernel_rfl) (by kernel_rfl) ?_ ?_ <;> repeat' (first | exact trivial | exact vr_val _ | exact vr_list _ | exact vr_ptr _ _ _ rfl | exact vr_nilv _ _ _ rfl | refine And.intro ⟨_, rfl, .inl ⟨_, rfl, by decide, ?_⟩⟩ ?_ | refine And.intro ⟨_, rfl, .inr ⟨rfl, rfl, of_decide_eq_true (by kernel_rfl)⟩⟩ ?_ | apply And.intro)
  intro i hiL
  have hrl := mkRr_len s m (by omega) i
  by_cases hi2 : i < s.length
  case neg =>
    obtain rfl : i = s.length := by omega
    generalize mkRr s m s.length = M at *
    (have hg : (987654321 : Nat) - 987654321 = 0 := rfl; have hr := hg; repeat' (first | refine aw_seq ?_ | (refine aw_skip ?_; repeat' (first | with_reducible refine thenQ_n ?_ | with_reducible refine blockQ_n ?_ | with_reducible refine thenQ_e ?_ | with_reducible refine blockQ_t ?_ | with_reducible refine blockQ_f (by decide) ?_)) | (refine aw_exit ?_; repeat' (first | with_reducible refine thenQ_n ?_ | with_reducible refine blockQ_n ?_ | with_reducible refine thenQ_e ?_ | with_reducible refine blockQ_t ?_ | with_reducible refine blockQ_f (by decide) ?_)) | refine aw_ret ?_ | refine aw_block ?_ | refine aw_condT rfl ?_ | refine aw_condF rfl ?_ | (refine aw_cond rfl (fun hg => ?_) (fun hg => ?_) <;> (try (have hq := hg; simp only [Bool.not_eq_true', Bool.not_eq_false', Bool.and_eq_true, Bool.and_eq_false_iff, Bool.or_eq_true, Bool.or_eq_false_iff, decide_eq_true_eq, decide_eq_false_iff_not, bne_iff_ne, beq_iff_eq, beq_eq_false_iff_ne, bne_eq_false_iff_eq, ne_eq, Int.not_lt, Int.not_le, Decidable.not_not] at hq)) <;> (try (have hr := hg; simp only [decide_eq_true_eq, decide_eq_false_iff_not] at hr)) <;> (try (exfalso; omega))) | ((first | refine aw_hide fun K hK => aw_region ?_ | refine ago_if (by omega) ?_ | skip); simp (config := {maxSteps := 10000000}) (disch := first | exact okYes (by kernel_rfl) | omega) only [List.length, Nat.zero_add, Nat.reduceAdd, Nat.reduceMul, dI, ARun_none, AOpRun, aexec, FSt.ev, St.F, eget_c, Nat.reduceBEq, ↓eget_h, cond_false, AGo_ok, St.app, putO, eput_c, eput_n, hups, List.map, sps_len, isSh, Bool.false_eq_true, ↓reduceIte, Option.map, abin, ARun_nil, dropE_c, inL_c, inL_n, beq_self_eq_true, cond_true, dropE_n, hr, decide_false, hget_c, ↓hget_h, Nat.reduceLeDiff, List.drop, List.take, hget_n, D.isBot, D.cells, List.all, D.leaf, Bool.and_true, and_self, splice, List.nil_append, List.append_nil, hput_c, hput_n]) | (subst hK; repeat' (first | with_reducible refine thenQ_n ?_ | with_reducible refine blockQ_n ?_ | with_reducible refine thenQ_e ?_ | with_reducible refine blockQ_t ?_ | with_reducible refine blockQ_f (by decide) ?_))))
    refine end_to [24] [] (by first | exact .inl rfl | exact .inr rfl) rfl (by kernel_rfl) (by kernel_rfl) (by kernel_rfl) ?_ ?_ <;> repeat' (first | exact trivial | exact vr_list _ | apply vr_agg | refine vr_fl _ _ _ _ _ (by decide) rfl ?_ ?_ ?_ ?_ | apply And.intro)
    all_goals first | exact ints_one _ | exact ints_len _ | exact ints_flat _ | exact icells_in _
  have ki : (i : Int) < (s.length : Int) := by omega
  have hz := mkI_zero s m i
  have hend := mkI_end s m i
  refine aw_seq (aw_seq (aw_region ?_))
  simp (config := {maxSteps := 10000000}) (disch := first | exact okYes (by kernel_rfl) | omega) only [thenQ, dI, List.length, Nat.zero_add, Nat.reduceAdd, Nat.reduceMul, ARun_none, AOpRun, aexec, FSt.ev, St.F, eget_c, Nat.reduceBEq, ↓eget_h, cond_false, AGo_ok, St.app, putO, eput_c, eput_n, hups, List.map, sps_len, isSh, Bool.false_eq_true, ↓reduceIte, Option.map, abin, ki, decide_true, ARun_nil, dropE_c, inL_c, inL_n, beq_self_eq_true, cond_true, dropE_n]
  refine aw_condT rfl (aw_skip ?_)
  refine aw_seq (aw_block (aw_seq (aw_region ?_)))
  simp (config := {maxSteps := 10000000}) (disch := first | exact okYes (by kernel_rfl) | omega) only [thenQ, List.length, Nat.zero_add, Nat.reduceMul, Nat.reduceAdd, ARun_none, AOpRun, aexec, FSt.ev, AGo_ok, St.app, putO, eput_c, Nat.reduceBEq, eput_n, cond_false, hups, List.map, ARun_nil, dropE_c, inL_n, dropE_n]
  refine aw_block (aw_loop (fun k : Nat => ⟨[(8, .ptr 8 0), (9, .list (sps s)), (10, .list (sps m)), (11, .ptr 16 0), (12, dI i), (13, dI k)], [(8, [.val (.slice none 0 0), .val (.slice none 0 0)]), (16, [.list (ints V), .vec 24 (mkI s m i k).length 1]), (24, icells (mkI s m i k))], 4000⟩) (fun k => k ≤ m.length) (fun k => m.length - k) ⟨0, by omega, ?_⟩ ?_)
  · rw [hz]
    unfold dI
    refine wk_to [] [(8, 8), (16, 16), (24, 24)] (by kernel_rfl) (by kernel_rfl) (by kernel_rfl) (by kernel_rfl) (by kernel_rfl) ?_ ?_ <;> repeat' (first | exact trivial | exact vr_val _ | exact vr_list _ | exact vr_vec _ _ _ _ rfl | exact vr_ptr _ _ _ rfl | refine And.intro ⟨_, rfl, .inl ⟨_, rfl, by decide, ?_⟩⟩ ?_ | apply And.intro | exact vrl_flat _ (by first | exact icells_in _ | exact rcells_in _ | exact scells_in _ | exact bcells_in _ | assumption))
    all_goals exact vrl_flat _ (icells_in _)
  intro k hk
  by_cases hk2 : k < m.length
  case neg =>
    obtain rfl : k = m.length := by omega
    rw [hend]
    generalize mkRr s m i = M0 at *
    generalize hg1 : mkRr s m (i + 1) = M at *
    (have hg : (987654321 : Nat) - 987654321 = 0 := rfl; have hr := hg; repeat' (first | refine aw_seq ?_ | (refine aw_skip ?_; repeat' (first | with_reducible refine thenQ_n ?_ | with_reducible refine blockQ_n ?_ | with_reducible refine thenQ_e ?_ | with_reducible refine blockQ_t ?_ | with_reducible refine blockQ_f (by decide) ?_)) | (refine aw_exit ?_; repeat' (first | with_reducible refine thenQ_n ?_ | with_reducible refine blockQ_n ?_ | with_reducible refine thenQ_e ?_ | with_reducible refine blockQ_t ?_ | with_reducible refine blockQ_f (by decide) ?_)) | refine aw_ret ?_ | refine aw_block ?_ | refine aw_condT rfl ?_ | refine aw_condF rfl ?_ | (refine aw_cond rfl (fun hg => ?_) (fun hg => ?_) <;> (try (have hq := hg; simp only [Bool.not_eq_true', Bool.not_eq_false', Bool.and_eq_true, Bool.and_eq_false_iff, Bool.or_eq_true, Bool.or_eq_false_iff, decide_eq_true_eq, decide_eq_false_iff_not, bne_iff_ne, beq_iff_eq, beq_eq_false_iff_ne, bne_eq_false_iff_eq, ne_eq, Int.not_lt, Int.not_le, Decidable.not_not] at hq)) <;> (try (have hr := hg; simp only [decide_eq_true_eq, decide_eq_false_iff_not] at hr)) <;> (try (exfalso; omega))) | ((first | refine aw_hide fun K hK => aw_region ?_ | refine ago_if (by omega) ?_ | skip); simp (config := {maxSteps := 10000000}) (disch := first | exact okYes (by kernel_rfl) | omega) only [List.length, Nat.zero_add, Nat.reduceAdd, Nat.reduceMul, dI, ARun_none, AOpRun, aexec, FSt.ev, St.F, eget_c, Nat.reduceBEq, ↓eget_h, cond_false, AGo_ok, St.app, putO, eput_c, eput_n, hups, List.map, sps_len, isSh, Bool.false_eq_true, ↓reduceIte, Option.map, abin, ARun_nil, dropE_c, inL_c, inL_n, beq_self_eq_true, cond_true, dropE_n, hr, decide_false, fits]) | (subst hK; repeat' (first | with_reducible refine thenQ_n ?_ | with_reducible refine blockQ_n ?_ | with_reducible refine thenQ_e ?_ | with_reducible refine blockQ_t ?_ | with_reducible refine blockQ_f (by decide) ?_))))
    refine ⟨i + 1, by omega, by omega, ?_⟩
    rw [hg1]
    refine wk_to [] [(8, 8), (16, 16), (24, 24)] (by kernel_rfl) (by kernel_rfl) (by kernel_rfl) (by kernel_rfl) (by kernel_rfl) ?_ ?_ <;> repeat' (first | exact trivial | exact vr_val _ | exact vr_list _ | exact vr_vec _ _ _ _ rfl | exact vr_ptr _ _ _ rfl | refine And.intro ⟨_, rfl, .inl ⟨_, rfl, by decide, ?_⟩⟩ ?_ | apply And.intro | exact vrl_flat _ (by first | exact icells_in _ | exact rcells_in _ | exact scells_in _ | exact bcells_in _ | assumption))
    all_goals exact vrl_flat _ (icells_in _)
  have hil := mkI_len s m (by omega) i k
  have hsu := mkI_succ s m i k hk2
  have kk : (k : Int) < (m.length : Int) := by omega
  have g1 := sps_gd s i hi2
  have g2 := sps_gd m k hk2
  generalize hg2 : mkI s m i (k + 1) = M1 at *
  generalize mkI s m i k = M at *
  have hmc : (icells M).length = M.length := icells_len M
  have hmt : (icells M).take M.length = icells M := ic_take M _ rfl
  have hma : (M ++ [(i : Int)]).length = M.length + 1 := by simp
  have hmcin : ∀ y ∈ icells M ++ [.val (.int .i64 (i : Int))], In (fun _ => False) y := by rw [ic_app]; exact icells_in _
  have hmin := icells_in M
  have hh : hitB (lo s i) (lo m k, hi m k) = ((lo m k == lo s i) && (hi m k != 0)) := rfl
  cases q1 : (lo m k == lo s i) <;> cases q2 : (hi m k != 0)
  case true.true =>
    rw [hh, q1, q2, if_pos (by rfl)] at hsu
    (have hg : (987654321 : Nat) - 987654321 = 0 := rfl; have hr := hg; repeat' (first | refine aw_seq ?_ | (refine aw_skip ?_; repeat' (first | with_reducible refine thenQ_n ?_ | with_reducible refine blockQ_n ?_ | with_reducible refine thenQ_e ?_ | with_reducible refine blockQ_t ?_ | with_reducible refine blockQ_f (by decide) ?_)) | (refine aw_exit ?_; repeat' (first | with_reducible refine thenQ_n ?_ | with_reducible refine blockQ_n ?_ | with_reducible refine thenQ_e ?_ | with_reducible refine blockQ_t ?_ | with_reducible refine blockQ_f (by decide) ?_)) | refine aw_ret ?_ | refine aw_block ?_ | refine aw_condT rfl ?_ | refine aw_condF rfl ?_ | ((first | refine aw_hide fun K hK => aw_region ?_ | refine ago_if (by omega) ?_ | skip); simp (config := {maxSteps := 10000000}) (disch := first | exact okYes (by kernel_rfl) | omega) only [List.length, Nat.zero_add, Nat.reduceAdd, Nat.reduceMul, dI, ARun_none, AOpRun, aexec, FSt.ev, St.F, eget_c, Nat.reduceBEq, ↓eget_h, cond_false, AGo_ok, St.app, putO, eput_c, eput_n, hups, List.map, sps_len, isSh, Bool.false_eq_true, ↓reduceIte, Option.map, abin, kk, decide_true, ARun_nil, dropE_c, inL_c, inL_n, beq_self_eq_true, cond_true, dropE_n, Int.natCast_nonneg, sps_all, and_self, opt1, Int.toNat_natCast, g2, Int.le_refl, cast_lit, Int.reduceLT, Int.toNat_zero, Nat.mul_one, List.drop, run1, List.getElem?_cons_zero, g1, q1, ARun_some, AG_tt, Int.reduceLE, Int.reduceToNat, q2, hget_c, ↓hget_h, List.getElem?_cons_succ, Option.isSome, hget_n, fillD, D.isBot, D.cells, ne_eq, not_true_eq_false, Nat.reduceGT, or_self, splice, List.take, List.nil_append, List.append_nil, hput_c, hput_n, base, hmc, Nat.le_refl, hmt, elems, List.all, D.leaf, Bool.and_true, and_true, ups, List.cons_append, hdel_c, hdel_n, fits]) | (subst hK; repeat' (first | with_reducible refine thenQ_n ?_ | with_reducible refine blockQ_n ?_ | with_reducible refine thenQ_e ?_ | with_reducible refine blockQ_t ?_ | with_reducible refine blockQ_f (by decide) ?_))))
    refine ⟨k + 1, by omega, by omega, ?_⟩
    rw [hg2, hsu, hma, ← ic_app M]
    refine wk_to [] [(8, 8), (16, 16), (24, 4216)] (by kernel_rfl) (by kernel_rfl) (by kernel_rfl) (by kernel_rfl) (by kernel_rfl) ?_ ?_ <;> repeat' (first | exact trivial | exact vr_val _ | exact vr_list _ | exact vr_vec _ _ _ _ rfl | exact vr_ptr _ _ _ rfl | refine And.intro ⟨_, rfl, .inl ⟨_, rfl, by decide, ?_⟩⟩ ?_ | apply And.intro | exact vrl_flat _ (by first | exact icells_in _ | exact rcells_in _ | exact scells_in _ | exact bcells_in _ | assumption))
  all_goals
    rw [hh, q1, q2, if_neg (by simp)] at hsu
    (have hg : (987654321 : Nat) - 987654321 = 0 := rfl; have hr := hg; repeat' (first | refine aw_seq ?_ | (refine aw_skip ?_; repeat' (first | with_reducible refine thenQ_n ?_ | with_reducible refine blockQ_n ?_ | with_reducible refine thenQ_e ?_ | with_reducible refine blockQ_t ?_ | with_reducible refine blockQ_f (by decide) ?_)) | (refine aw_exit ?_; repeat' (first | with_reducible refine thenQ_n ?_ | with_reducible refine blockQ_n ?_ | with_reducible refine thenQ_e ?_ | with_reducible refine blockQ_t ?_ | with_reducible refine blockQ_f (by decide) ?_)) | refine aw_ret ?_ | refine aw_block ?_ | refine aw_condT rfl ?_ | refine aw_condF rfl ?_ | ((first | refine aw_hide fun K hK => aw_region ?_ | refine ago_if (by omega) ?_ | skip); simp (config := {maxSteps := 10000000}) (disch := first | exact okYes (by kernel_rfl) | omega) only [List.length, Nat.zero_add, Nat.reduceAdd, Nat.reduceMul, dI, ARun_none, AOpRun, aexec, FSt.ev, St.F, eget_c, Nat.reduceBEq, ↓eget_h, cond_false, AGo_ok, St.app, putO, eput_c, eput_n, hups, List.map, sps_len, isSh, Bool.false_eq_true, ↓reduceIte, Option.map, abin, kk, decide_true, ARun_nil, dropE_c, inL_c, inL_n, beq_self_eq_true, cond_true, dropE_n, Int.natCast_nonneg, sps_all, and_self, opt1, Int.toNat_natCast, g2, Int.le_refl, cast_lit, Int.reduceLT, Int.toNat_zero, List.drop, run1, List.getElem?_cons_zero, g1, q1, ARun_some, AG_ft, fits, AG_tt, Int.reduceLE, Int.reduceToNat, q2]) | (subst hK; repeat' (first | with_reducible refine thenQ_n ?_ | with_reducible refine blockQ_n ?_ | with_reducible refine thenQ_e ?_ | with_reducible refine blockQ_t ?_ | with_reducible refine blockQ_f (by decide) ?_))))
    refine ⟨k + 1, by omega, by omega, ?_⟩
    rw [hg2, hsu]
    refine wk_to [] [(8, 8), (16, 16), (24, 24)] (by kernel_rfl) (by kernel_rfl) (by kernel_rfl) (by kernel_rfl) (by kernel_rfl) ?_ ?_ <;> repeat' (first | exact trivial | exact vr_val _ | exact vr_list _ | exact vr_vec _ _ _ _ rfl | exact vr_ptr _ _ _ rfl | refine And.intro ⟨_, rfl, .inl ⟨_, rfl, by decide, ?_⟩⟩ ?_ | apply And.intro | exact vrl_flat _ (by first | exact icells_in _ | exact rcells_in _ | exact scells_in _ | exact bcells_in _ | assumption))
    all_goals exact vrl_flat _ (icells_in _)
set_option maxRecDepth 100000 in
set_option maxHeartbeats 4000000 in
theorem rshake_ac (l : Lay) (frs : List (List Int)) (x y pts : Int) (hl : LayIn l) (hf : FrIn frs) : AC Try.prog 53 [layD l, .list (rows frs), dI x, dI y, dI pts] [] [] (.tup [.list (ints (shL l frs x y pts)), dI (shD l frs x y pts), dI (shE l frs x y pts)]) := by
  refine kref12_Shake.ac (n0 := 0) (by simp) ⟨in_layD _ _, .list _, .val _, .val _, .val _, trivial⟩ trivial rfl ?_
  unfold cref12_Shake
  have ck := checkF_ac l frs hl hf
  by_cases hw : wfE l frs [x, y] = 0
  · obtain ⟨h1, h2, h0, hx, hy⟩ := wfE_two hw
    have nf := h1.nf
    have f1 := rfield_ac l x (by omega)
    have f2 := rfield_ac l y (by omega)
    rw [hx] at f1
    rw [hy] at f2
    rw [h0] at ck
    have hx := wI_t hx
    have hy := wI_t hy
    have e1 : shL l frs x y pts = avL (shV l frs x) (shM l frs x y) pts := if_pos hw
    have e2 : shD l frs x y pts = avD (shV l frs x) (shM l frs x y) pts := if_pos hw
    have e3 : shE l frs x y pts = avE (shV l frs x) (shM l frs x y) pts := if_pos hw
    rw [e1, e2, e3]
    clear e1 e2 e3
    obtain ⟨a, rfl⟩ : ∃ a : Nat, x = a := ⟨x.toNat, by omega⟩
    obtain ⟨b, rfl⟩ : ∃ b : Nat, y = b := ⟨y.toNat, by omega⟩
    have sh := rshaken_ac l frs a b h1 h2 hf (by omega) (by omega)
    have av := gavg_ac (shV l frs a) (shM l frs a b) pts (by unfold shV; rw [smV_len]; have := smps_len l (fAt l (a : Int).toNat) frs frs.length; omega) (by unfold shM; have := smM_len l (fAt l (a : Int).toNat) (fAt l (b : Int).toNat) frs frs.length; omega)
    generalize shV l frs a = V at *
    generalize shM l frs a b = M at *
    unfold layD layC at *
    (have hg : (987654321 : Nat) - 987654321 = 0 := rfl; have hr := hg; repeat' (first | refine aw_seq ?_ | (refine aw_skip ?_; repeat' (first | with_reducible refine thenQ_n ?_ | with_reducible refine blockQ_n ?_ | with_reducible refine thenQ_e ?_ | with_reducible refine blockQ_t ?_ | with_reducible refine blockQ_f (by decide) ?_)) | (refine aw_exit ?_; repeat' (first | with_reducible refine thenQ_n ?_ | with_reducible refine blockQ_n ?_ | with_reducible refine thenQ_e ?_ | with_reducible refine blockQ_t ?_ | with_reducible refine blockQ_f (by decide) ?_)) | refine aw_ret ?_ | refine aw_block ?_ | refine aw_condT rfl ?_ | refine aw_condF rfl ?_ | ((first | refine aw_hide fun K hK => aw_region ?_ | refine acall0 (ck) ?_ | refine acall0 (f1) ?_ | refine acall0 (f2) ?_ | refine acall0 (sh) ?_ | refine acall0 (av) ?_ | refine ago_if (by omega) ?_ | skip); simp (config := {maxSteps := 10000000}) (disch := first | exact okYes (by kernel_rfl) | omega) only [List.length, Nat.zero_add, Nat.reduceAdd, Nat.reduceMul, envOf, dI, ARun_none, AOpRun, aexec, D.isBot, FSt.ev, St.F, ↓eget_h, Bool.false_eq_true, Option.isSome, hget_n, or_self, ↓reduceIte, D.cells, AGo_ok, St.app, putO, eput_c, Nat.reduceBEq, eput_n, cond_false, hups, hput_n, List.map, ARun_nil, dropE_c, inL_n, dropE_n, eget_c, hget_c, beq_self_eq_true, cond_true, Nat.reduceLeDiff, List.drop, List.take, inL_c, isSh, Option.map, abin, bne_self_eq_false, dB, Bool.not_true, ARun_some, AG_ff, opt1, List.getElem?_cons_zero, List.getElem?_cons_succ]) | (subst hK; repeat' (first | with_reducible refine thenQ_n ?_ | with_reducible refine blockQ_n ?_ | with_reducible refine thenQ_e ?_ | with_reducible refine blockQ_t ?_ | with_reducible refine blockQ_f (by decide) ?_))))
    all_goals (refine end_to [] [] (by first | exact .inl rfl | exact .inr rfl) rfl (by kernel_rfl) (by kernel_rfl) (by kernel_rfl) ?_ ?_ <;> repeat' (first | exact trivial | exact vr_val _ | exact vr_list _ | apply vr_tup | apply And.intro))
  · have e1 : shL l frs x y pts = [] := if_neg hw
    have e2 : shD l frs x y pts = 0 := if_neg hw
    have e3 : shE l frs x y pts = wfE l frs [x, y] := if_neg hw
    rw [e1, e2, e3]
    clear e1 e2 e3
    rcases tpE_cases l frs with ⟨h0, h1, h2⟩ | ⟨h0, h1⟩
    · have nf := h1.nf
      have f1 := rfield_ac l x (by omega)
      have f2 := rfield_ac l y (by omega)
      have hE : wfE l frs [x, y] = 1 := by
        have e : wfE l frs [x, y] = if hasA l [x, y] = true then 0 else 1 := if_pos h0
        by_cases hh : hasA l [x, y] = true
        · rw [if_pos hh] at e; exact absurd e hw
        · rw [e, if_neg hh]
      have hno : (wI x 0 ((l.fl.length : Int) - 1) && wI y 0 ((l.fl.length : Int) - 1)) = false := by
        rw [← hasA_two]
        cases hh : hasA l [x, y] with
        | false => rfl
        | true => exact absurd (by unfold wfE; rw [if_pos h0, if_pos hh]) hw
      rw [hE]
      rw [h0] at ck
      cases q1 : wI x 0 ((l.fl.length : Int) - 1) with
      | false =>
        rw [q1] at f1
        unfold layD layC at *
        (have hg : (987654321 : Nat) - 987654321 = 0 := rfl; have hr := hg; repeat' (first | refine aw_seq ?_ | (refine aw_skip ?_; repeat' (first | with_reducible refine thenQ_n ?_ | with_reducible refine blockQ_n ?_ | with_reducible refine thenQ_e ?_ | with_reducible refine blockQ_t ?_ | with_reducible refine blockQ_f (by decide) ?_)) | (refine aw_exit ?_; repeat' (first | with_reducible refine thenQ_n ?_ | with_reducible refine blockQ_n ?_ | with_reducible refine thenQ_e ?_ | with_reducible refine blockQ_t ?_ | with_reducible refine blockQ_f (by decide) ?_)) | refine aw_ret ?_ | refine aw_block ?_ | refine aw_condT rfl ?_ | refine aw_condF rfl ?_ | ((first | refine aw_hide fun K hK => aw_region ?_ | refine acall0 (ck) ?_ | refine acall0 (f1) ?_ | refine ago_if (by omega) ?_ | skip); simp (config := {maxSteps := 10000000}) (disch := first | exact okYes (by kernel_rfl) | omega) only [List.length, Nat.zero_add, Nat.reduceAdd, Nat.reduceMul, envOf, dI, ARun_none, AOpRun, aexec, D.isBot, FSt.ev, St.F, ↓eget_h, Bool.false_eq_true, Option.isSome, hget_n, or_self, ↓reduceIte, D.cells, AGo_ok, St.app, putO, eput_c, Nat.reduceBEq, eput_n, cond_false, hups, hput_n, List.map, ARun_nil, dropE_c, inL_n, dropE_n, eget_c, hget_c, beq_self_eq_true, cond_true, Nat.reduceLeDiff, List.drop, List.take, inL_c, isSh, Option.map, abin, bne_self_eq_false, dB, Bool.not_false, ARun_some, AG_tf, thenQ]) | (subst hK; repeat' (first | with_reducible refine thenQ_n ?_ | with_reducible refine blockQ_n ?_ | with_reducible refine thenQ_e ?_ | with_reducible refine blockQ_t ?_ | with_reducible refine blockQ_f (by decide) ?_))))
        all_goals (refine end_to [] [] (by first | exact .inl rfl | exact .inr rfl) rfl (by kernel_rfl) (by kernel_rfl) (by kernel_rfl) ?_ ?_ <;> repeat' (first | exact trivial | exact vr_val _ | exact vr_nil | apply vr_tup | apply And.intro))
      | true =>
        rw [q1, Bool.true_and] at hno
        rw [q1] at f1
        rw [hno] at f2
        unfold layD layC at *
        (have hg : (987654321 : Nat) - 987654321 = 0 := rfl; have hr := hg; repeat' (first | refine aw_seq ?_ | (refine aw_skip ?_; repeat' (first | with_reducible refine thenQ_n ?_ | with_reducible refine blockQ_n ?_ | with_reducible refine thenQ_e ?_ | with_reducible refine blockQ_t ?_ | with_reducible refine blockQ_f (by decide) ?_)) | (refine aw_exit ?_; repeat' (first | with_reducible refine thenQ_n ?_ | with_reducible refine blockQ_n ?_ | with_reducible refine thenQ_e ?_ | with_reducible refine blockQ_t ?_ | with_reducible refine blockQ_f (by decide) ?_)) | refine aw_ret ?_ | refine aw_block ?_ | refine aw_condT rfl ?_ | refine aw_condF rfl ?_ | ((first | refine aw_hide fun K hK => aw_region ?_ | refine acall0 (ck) ?_ | refine acall0 (f1) ?_ | refine acall0 (f2) ?_ | refine ago_if (by omega) ?_ | skip); simp (config := {maxSteps := 10000000}) (disch := first | exact okYes (by kernel_rfl) | omega) only [List.length, Nat.zero_add, Nat.reduceAdd, Nat.reduceMul, envOf, dI, ARun_none, AOpRun, aexec, D.isBot, FSt.ev, St.F, ↓eget_h, Bool.false_eq_true, Option.isSome, hget_n, or_self, ↓reduceIte, D.cells, AGo_ok, St.app, putO, eput_c, Nat.reduceBEq, eput_n, cond_false, hups, hput_n, List.map, ARun_nil, dropE_c, inL_n, dropE_n, eget_c, hget_c, beq_self_eq_true, cond_true, Nat.reduceLeDiff, List.drop, List.take, inL_c, isSh, Option.map, abin, bne_self_eq_false, dB, Bool.not_true, ARun_some, AG_ff, Bool.not_false, thenQ]) | (subst hK; repeat' (first | with_reducible refine thenQ_n ?_ | with_reducible refine blockQ_n ?_ | with_reducible refine thenQ_e ?_ | with_reducible refine blockQ_t ?_ | with_reducible refine blockQ_f (by decide) ?_))))
        all_goals (refine end_to [] [] (by first | exact .inl rfl | exact .inr rfl) rfl (by kernel_rfl) (by kernel_rfl) (by kernel_rfl) ?_ ?_ <;> repeat' (first | exact trivial | exact vr_val _ | exact vr_nil | apply vr_tup | apply And.intro))
    · have hE : wfE l frs [x, y] = tpE l frs := if_neg h0
      rw [hE]
      clear hE hw
      unfold layD layC at *
      generalize tpE l frs = E at *
      (have hg : (987654321 : Nat) - 987654321 = 0 := rfl; have hr := hg; repeat' (first | refine aw_seq ?_ | (refine aw_skip ?_; repeat' (first | with_reducible refine thenQ_n ?_ | with_reducible refine blockQ_n ?_ | with_reducible refine thenQ_e ?_ | with_reducible refine blockQ_t ?_ | with_reducible refine blockQ_f (by decide) ?_)) | (refine aw_exit ?_; repeat' (first | with_reducible refine thenQ_n ?_ | with_reducible refine blockQ_n ?_ | with_reducible refine thenQ_e ?_ | with_reducible refine blockQ_t ?_ | with_reducible refine blockQ_f (by decide) ?_)) | refine aw_ret ?_ | refine aw_block ?_ | refine aw_condT rfl ?_ | refine aw_condF rfl ?_ | ((first | refine aw_hide fun K hK => aw_region ?_ | refine acall0 (ck) ?_ | refine ago_if (by omega) ?_ | skip); simp (config := {maxSteps := 10000000}) (disch := first | exact okYes (by kernel_rfl) | omega) only [List.length, Nat.zero_add, Nat.reduceAdd, Nat.reduceMul, envOf, dI, ARun_none, AOpRun, aexec, D.isBot, FSt.ev, St.F, ↓eget_h, Bool.false_eq_true, Option.isSome, hget_n, or_self, ↓reduceIte, D.cells, AGo_ok, St.app, putO, eput_c, Nat.reduceBEq, eput_n, cond_false, hups, hput_n, List.map, ARun_nil, dropE_c, inL_n, dropE_n, eget_c, hget_c, beq_self_eq_true, cond_true, Nat.reduceLeDiff, List.drop, List.take, inL_c, isSh, Option.map, abin, h1, thenQ]) | (subst hK; repeat' (first | with_reducible refine thenQ_n ?_ | with_reducible refine blockQ_n ?_ | with_reducible refine thenQ_e ?_ | with_reducible refine blockQ_t ?_ | with_reducible refine blockQ_f (by decide) ?_))))
      all_goals (refine end_to [] [] (by first | exact .inl rfl | exact .inr rfl) rfl (by kernel_rfl) (by kernel_rfl) (by kernel_rfl) ?_ ?_ <;> repeat' (first | exact trivial | exact vr_val _ | exact vr_nil | apply vr_tup | apply And.intro))
end Go.Proofs.Ytdcodicoclecnaa
/- A safety case, in numbers. No conditions. -/
namespace Go.Proofs.Ytdcodicoclecnaa
open Go.RowKit Lift

/-- a claim -/
structure Clm where
  needs : List Int
  proofs : List Int
  any : Bool
/-- a case -/
structure Cas where
  cl : List Clm
  pf : List (Int × Int)
def clC (x : Clm) : List D := [.list (ints x.needs), .list (ints x.proofs), dB x.any]
def cls (l : List Clm) : List (List D) := l.map clC
def cl0 : Clm := ⟨[], [], false⟩
theorem cls_len (l : List Clm) : (cls l).length = l.length := by simp [cls]
theorem cls_all (l : List Clm) : (cls l).all (fun x => x.length == 3) = true := by simp [cls, clC]
theorem cls_three (l : List Clm) : ∀ e ∈ cls l, e.length = 3 := by simp [cls, clC]
theorem cls_gd (l : List Clm) (k : Nat) (h : k < l.length) : (cls l)[k]? = some (clC (l[k]?.getD cl0)) := by simp [cls, h]
/-- strictly ascending, from 0 to below a limit -/
def Asc (l : List Int) (b : Int) : Prop := ∀ i, i < l.length → 0 ≤ l[i]?.getD 0 ∧ l[i]?.getD 0 < b ∧ (0 < i → l[i - 1]?.getD 0 < l[i]?.getD 0)
def pfOk (a : Int × Int) : Prop := 0 ≤ a.1 ∧ a.1 ≤ a.2 ∧ a.2 ≤ 2000
instance (a : Int × Int) : Decidable (pfOk a) := inferInstanceAs (Decidable (_ ∧ _))
def clAt (c : Cas) (i : Nat) : Clm := c.cl[i]?.getD cl0
def pfAt (c : Cas) (i : Nat) : Int × Int := c.pf[i]?.getD (0, 0)
structure CasOk (c : Cas) : Prop where
  n1 : c.cl.length ≤ 16
  n2 : c.pf.length ≤ 12
  asc : ∀ i, i < c.cl.length → Asc (clAt c i).needs i ∧ Asc (clAt c i).proofs c.pf.length
  pf : ∀ i, i < c.pf.length → pfOk (pfAt c i)
open Classical in
noncomputable def casE (c : Cas) (E : Int) : Int := if CasOk c then 0 else E
theorem casE_ok {c : Cas} {E : Int} (h : CasOk c) : casE c E = 0 := if_pos h
theorem casE_no {c : Cas} {E : Int} (h : ¬ CasOk c) : casE c E = E := if_neg h
noncomputable def clmE (c : Cas) (claim tick E A : Int) : Int := if casE c E ≠ 0 then casE c E else if 0 ≤ claim ∧ claim ≤ (c.cl.length : Int) - 1 ∧ 0 ≤ tick ∧ tick ≤ 2000 then 0 else A
/-- the proofs that count in a tick -/
def cntT (c : Cas) (tick : Int) (i : Nat) : Bool := decide (i < c.pf.length) && (decide ((pfAt c i).1 ≤ tick) && decide (tick ≤ (pfAt c i).2))
/-- whether a claim holds, those before it known -/
def clV (x : Clm) (h : List Bool) (cn : Nat → Bool) : Bool :=
  if x.any = true then x.needs.any (fun n => h[n.toNat]?.getD false) || x.proofs.any (fun n => cn n.toNat)
  else x.needs.all (fun n => h[n.toNat]?.getD false) && x.proofs.all (fun n => cn n.toNat)
def hlK (c : Cas) (cn : Nat → Bool) : Nat → List Bool
  | 0 => []
  | i + 1 => hlK c cn i ++ [clV (clAt c i) (hlK c cn i) cn]
theorem hlK_len (c : Cas) (cn : Nat → Bool) : ∀ i, (hlK c cn i).length = i
  | 0 => rfl
  | i + 1 => by simp [hlK, hlK_len c cn i]
/-- whether a claim holds with proofs -/
def holdC (c : Cas) (cl : Nat) (cn : Nat → Bool) : Bool := (hlK c cn (cl + 1))[cl]?.getD false
/-- the list that is filled, claim by claim -/
def hlF (c : Cas) (cn : Nat → Bool) (n i : Nat) : List Bool := (List.range n).map fun j => if j < i then (hlK c cn i)[j]?.getD false else false
theorem hlF_len (c : Cas) (cn : Nat → Bool) (n i : Nat) : (hlF c cn n i).length = n := by simp [hlF]
theorem hlF_get (c : Cas) (cn : Nat → Bool) (n i j : Nat) (h : j < i) (hn : j < n) : (hlF c cn n i)[j]?.getD false = (hlK c cn i)[j]?.getD false := by simp [hlF, hn, h]
theorem hlF_zero (c : Cas) (cn : Nat → Bool) (n : Nat) : hlF c cn n 0 = List.replicate n false := by
  unfold hlF
  refine List.ext_getElem (by simp) fun i h1 h2 => ?_
  simp
theorem hlF_succ (c : Cas) (cn : Nat → Bool) (n i : Nat) (h : i < n) : hlF c cn n (i + 1) = (hlF c cn n i).set i (clV (clAt c i) (hlK c cn i) cn) := by
  unfold hlF
  refine List.ext_getElem (by simp) fun j h1 h2 => ?_
  rw [List.getElem_set]
  simp only [List.getElem_map, List.getElem_range]
  have hl := hlK_len c cn i
  by_cases e : i = j
  · subst e
    rw [if_pos rfl, if_pos (by omega), hlK, List.getElem?_append_right (by omega)]
    simp [hl]
  · rw [if_neg e]
    by_cases hj : j < i
    · rw [if_pos (by omega), if_pos hj, hlK, List.getElem?_append_left (by omega)]
    · rw [if_neg (by omega), if_neg hj]
/-- only the proofs that are named count -/
theorem asc_lt {l : List Int} {b : Int} (h : Asc l b) {n : Int} (hn : n ∈ l) : 0 ≤ n ∧ n < b := by
  obtain ⟨i, hi, rfl⟩ := List.getElem_of_mem hn
  have := h i hi
  simp [hi] at this
  exact ⟨this.1, this.2.1⟩
end Go.Proofs.Ytdcodicoclecnaa
