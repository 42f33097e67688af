/- Texts of the law RecordAll, part 8. No conditions. -/
import Derived.Test.YtdcodicoclecnaaPRecordAll07
import Derived.Test.YtdcodicoclecnaaRows
set_option linter.unusedSimpArgs false
set_option linter.unusedVariables false
/- The document of record: a frame's subframe, a sample. No conditions. -/
namespace Go.Proofs.Ytdcodicoclecnaa
open Go Go.RowKit Lift

theorem idx4_at (l : Lay) (x : Int) (k : Nat) (hk : k < 4) (hn : ∀ j, j < k → x ≠ (sync l)[j]?.getD 0) (he : x = (sync l)[k]?.getD 0) : idx4 l x = k := by
  rw [← idx_sync]
  exact idx_at (l := sync l) (by simpa [sync] using hk) (fun j hj h => hn j hj h.symm) he.symm
theorem idx4_no (l : Lay) (x : Int) (hn : ∀ j, j < 4 → x ≠ (sync l)[j]?.getD 0) : idx4 l x = -1 := by
  rw [← idx_sync]
  exact idx_no fun j hj h => hn j (by simpa [sync] using hj) h.symm
set_option maxRecDepth 100000 in
set_option maxHeartbeats 4000000 in
theorem subf_ac (l : Lay) (fr : List Int) (hw : 2 ≤ l.words) (hl : fr.length ≤ maxLen) : AC Try.prog 73 [layD l, .list (ints fr)] [] [] (dI (subF l fr)) := by
  refine kref12_Subframe.ac (n0 := 0) (by simp) ⟨in_layD _ _, .list _, trivial⟩ trivial rfl ?_
  unfold cref12_Subframe layD layC
  have hmax : maxLen = 9223372036854775807 := rfl
  by_cases hlen : (fr.length : Int) = l.words
  case neg =>
    have q : ((fr.length : Int) != l.words) = true := by simpa using hlen
    rw [show subF l fr = -1 from if_neg fun h => hlen h.1]
    (repeat' (first | apply aw_seq | ((first | apply aw_skip | apply aw_exit); try simp only [thenQ, blockQ, if_true, if_false, Nat.reduceEqDiff, reduceCtorEq]) | apply aw_ret | apply aw_block | apply aw_condT rfl | apply aw_condF rfl | ((first | refine aw_region ?_ | refine ago_if (by omega) ?_ | skip); simp (disch := first | exact okY | omega) only [thenQ, List.map, Int.reduceNeg, dI, List.length, Nat.zero_add, Nat.reduceAdd, Nat.reduceMul, envOf, ARun_none, AOpRun, aexec, D.isBot, FSt.ev, St.F, ↓eget_h, Bool.false_eq_true, Option.isSome, hget_n, or_self, ↓reduceIte, D.cells, AGo_ok, St.app, putO, eput_c, Nat.reduceBEq, eput_n, cond_false, hups, hput_n, ARun_nil, dropE_c, inL_n, dropE_n, eget_c, ints_len, Option.map, run1, hget_c, beq_self_eq_true, cond_true, List.getElem?_cons_zero, isSh, abin, q, inL_c])))
    all_goals (refine end_q [] [] ?_ ?_ <;> repeat' (first | exact trivial | exact vr_val _))
  have q : ((fr.length : Int) != l.words) = false := by simpa using hlen
  refine aw_seq (aw_region ?_)
  simp (disch := first | exact okY | omega) only [thenQ, List.map, Int.reduceNeg, dI, List.length, Nat.zero_add, Nat.reduceAdd, Nat.reduceMul, envOf, ARun_none, AOpRun, aexec, D.isBot, FSt.ev, St.F, ↓eget_h, Bool.false_eq_true, Option.isSome, hget_n, or_self, ↓reduceIte, D.cells, AGo_ok, St.app, putO, eput_c, Nat.reduceBEq, eput_n, cond_false, hups, hput_n, ARun_nil, dropE_c, inL_n, dropE_n]
  refine aw_seq (aw_seq (aw_region ?_))
  simp (disch := first | exact okY | omega) only [thenQ, Int.reduceNeg, List.length, Nat.zero_add, Nat.reduceAdd, Nat.reduceMul, ARun_none, AOpRun, aexec, FSt.ev, St.F, eget_c, Nat.reduceBEq, ↓eget_h, cond_false, AGo_ok, St.app, putO, eput_c, eput_n, hups, List.map, ints_len, Option.map, run1, hget_c, beq_self_eq_true, hget_n, cond_true, List.getElem?_cons_zero, isSh, Bool.false_eq_true, ↓reduceIte, abin, q, ARun_nil, dropE_c, inL_c, inL_n, dropE_n]
  refine aw_condF rfl (aw_skip ?_)
  have hall : ∀ k, (∀ j, j < k → wOk (fr[j]?.getD 0) = true) → k = fr.length → fr.all wOk = true := fun k h hk => List.all_eq_true.2 fun x hx => by
    obtain ⟨j, hj, rfl⟩ := List.getElem_of_mem hx
    have := h j (by omega)
    simpa [hj] using this
  by_cases ha : fr.all wOk = true
  case neg =>
    rw [show subF l fr = -1 from if_neg fun h => ha h.2]
    refine aw_seq (aw_seq (aw_region ?_))
    simp (disch := first | exact okY | omega) only [thenQ, Int.reduceNeg, List.length, Nat.zero_add, Nat.reduceMul, Nat.reduceAdd, ARun_none, AOpRun, aexec, FSt.ev, AGo_ok, St.app, putO, eput_c, Nat.reduceBEq, eput_n, cond_false, hups, List.map, ARun_nil, dropE_c, inL_n, dropE_n]
    refine aw_block (aw_loop (fun k : Nat => ⟨[(1, .list (ints fr)), (2, .ptr 0 0), (5, dI k)], [(0, [dI l.words, dI l.s0, dI l.s1, dI l.s2, dI l.s3, .list (fls l.fl)])], 400⟩) (fun k => k ≤ fr.length ∧ ∀ j, j < k → wOk (fr[j]?.getD 0) = true) (fun k => fr.length - k) ⟨0, ⟨by omega, fun j hj => by omega⟩, ?_⟩ ?_)
    · unfold dI
      refine wk_q [] [(0, 0)] ?_ ?_ <;> repeat' (first | exact trivial | exact vr_val _ | exact vr_list _ | exact vr_ptr _ _ _ rfl | refine And.intro ⟨_, rfl, .inl ⟨_, rfl, by decide, ?_⟩⟩ ?_ | apply And.intro)
    rintro k ⟨hk, hin⟩
    by_cases hk2 : k < fr.length
    case neg => exact absurd (hall k hin (by omega)) ha
    have g1 := ints_gd fr k hk2
    have fa := from_ac (fr[k]?.getD 0) 0 4095
    rw [wI_w] at fa
    cases he : wOk (fr[k]?.getD 0) with
    | false =>
      rw [he] at fa
      (have hg : (987654321 : Nat) - 987654321 = 0 := rfl; have hr := hg; repeat' (first | apply aw_seq | ((first | apply aw_skip | apply aw_exit); try simp only [thenQ, blockQ, if_true, if_false, Nat.reduceEqDiff, reduceCtorEq]) | apply aw_ret | apply aw_block | apply aw_condT rfl | apply aw_condF rfl | (refine aw_cond rfl (fun hg => ?_) (fun hg => ?_) <;> (try (have hq := hg; simp only [Bool.not_eq_true', Bool.not_eq_false', Bool.and_eq_true, Bool.and_eq_false_iff, Bool.or_eq_true, Bool.or_eq_false_iff, decide_eq_true_eq, decide_eq_false_iff_not, bne_iff_ne, beq_iff_eq, beq_eq_false_iff_ne, bne_eq_false_iff_eq, ne_eq, Int.not_lt, Int.not_le, Decidable.not_not] at hq)) <;> (try (have hr := hg; simp only [decide_eq_true_eq, decide_eq_false_iff_not] at hr)) <;> (try (exfalso; omega))) | ((first | refine aw_region ?_ | refine acall0 (fa) ?_ | refine ago_if (by omega) ?_ | skip); simp (disch := first | exact okY | omega) only [thenQ, Int.reduceNeg, dI, List.length, Nat.zero_add, Nat.reduceAdd, Nat.reduceMul, ARun_none, AOpRun, aexec, FSt.ev, St.F, eget_c, Nat.reduceBEq, ↓eget_h, cond_false, AGo_ok, St.app, putO, eput_c, eput_n, hups, List.map, ints_len, isSh, Bool.false_eq_true, ↓reduceIte, Option.map, abin, ARun_nil, dropE_c, inL_c, inL_n, beq_self_eq_true, cond_true, dropE_n, hr, decide_true, Int.natCast_nonneg, ints_all, and_self, opt1, Int.toNat_natCast, g1, run1, List.getElem?_cons_zero, dB, Bool.not_false, blockQ])))
      all_goals (refine end_q [] [] ?_ ?_ <;> repeat' (first | exact trivial | exact vr_val _))
    | true =>
      rw [he] at fa
      (have hg : (987654321 : Nat) - 987654321 = 0 := rfl; have hr := hg; repeat' (first | apply aw_seq | ((first | apply aw_skip | apply aw_exit); try simp only [thenQ, blockQ, if_true, if_false, Nat.reduceEqDiff, reduceCtorEq]) | apply aw_ret | apply aw_block | apply aw_condT rfl | apply aw_condF rfl | (refine aw_cond rfl (fun hg => ?_) (fun hg => ?_) <;> (try (have hq := hg; simp only [Bool.not_eq_true', Bool.not_eq_false', Bool.and_eq_true, Bool.and_eq_false_iff, Bool.or_eq_true, Bool.or_eq_false_iff, decide_eq_true_eq, decide_eq_false_iff_not, bne_iff_ne, beq_iff_eq, beq_eq_false_iff_ne, bne_eq_false_iff_eq, ne_eq, Int.not_lt, Int.not_le, Decidable.not_not] at hq)) <;> (try (have hr := hg; simp only [decide_eq_true_eq, decide_eq_false_iff_not] at hr)) <;> (try (exfalso; omega))) | ((first | refine aw_region ?_ | refine acall0 (fa) ?_ | refine ago_if (by omega) ?_ | skip); simp (disch := first | exact okY | omega) only [thenQ, Int.reduceNeg, dI, List.length, Nat.zero_add, Nat.reduceAdd, Nat.reduceMul, ARun_none, AOpRun, aexec, FSt.ev, St.F, eget_c, Nat.reduceBEq, ↓eget_h, cond_false, AGo_ok, St.app, putO, eput_c, eput_n, hups, List.map, ints_len, isSh, Bool.false_eq_true, ↓reduceIte, Option.map, abin, ARun_nil, dropE_c, inL_c, inL_n, beq_self_eq_true, cond_true, dropE_n, hr, decide_true, Int.natCast_nonneg, ints_all, and_self, opt1, Int.toNat_natCast, g1, run1, List.getElem?_cons_zero, dB, Bool.not_true, fits])))
      refine ⟨k + 1, ⟨by omega, fun j hj => ?_⟩, by omega, ?_⟩
      · rcases (by omega : j < k ∨ j = k) with h | rfl
        · exact hin j h
        · exact he
      · refine wk_q [] [(0, 0)] ?_ ?_ <;> repeat' (first | exact trivial | exact vr_val _ | exact vr_list _ | exact vr_ptr _ _ _ rfl | refine And.intro ⟨_, rfl, .inl ⟨_, rfl, by decide, ?_⟩⟩ ?_ | apply And.intro)
  have hsub : subF l fr = idx4 l (fr[0]?.getD 0) := if_pos ⟨hlen, ha⟩
  refine aw_cut ⟨[(1, .list (ints fr)), (2, .ptr 0 0)], [(0, [dI l.words, dI l.s0, dI l.s1, dI l.s2, dI l.s3, .list (fls l.fl)])], 600⟩ ?_ ?_
  · refine aw_seq (aw_region ?_)
    simp (disch := first | exact okY | omega) only [thenQ, Int.reduceNeg, dI, List.length, Nat.zero_add, Nat.reduceMul, Nat.reduceAdd, ARun_none, AOpRun, aexec, FSt.ev, AGo_ok, St.app, putO, eput_c, Nat.reduceBEq, eput_n, cond_false, hups, List.map, ARun_nil, dropE_c, inL_n, dropE_n]
    refine aw_block (aw_loop (fun k : Nat => ⟨[(1, .list (ints fr)), (2, .ptr 0 0), (5, dI k)], [(0, [dI l.words, dI l.s0, dI l.s1, dI l.s2, dI l.s3, .list (fls l.fl)])], 400⟩) (fun k => k ≤ fr.length ) (fun k => fr.length - k) ⟨0, by omega, ?_⟩ ?_)
    · unfold dI
      refine wk_q [] [(0, 0)] ?_ ?_ <;> repeat' (first | exact trivial | exact vr_val _ | exact vr_list _ | exact vr_ptr _ _ _ rfl | refine And.intro ⟨_, rfl, .inl ⟨_, rfl, by decide, ?_⟩⟩ ?_ | apply And.intro)
    intro k hk
    by_cases hk2 : k < fr.length
    case neg =>
      obtain rfl : k = fr.length := by omega
      (have hg : (987654321 : Nat) - 987654321 = 0 := rfl; have hr := hg; repeat' (first | apply aw_seq | ((first | apply aw_skip | apply aw_exit); try simp only [thenQ, blockQ, if_true, if_false, Nat.reduceEqDiff, reduceCtorEq]) | apply aw_ret | apply aw_block | apply aw_condT rfl | apply aw_condF rfl | (refine aw_cond rfl (fun hg => ?_) (fun hg => ?_) <;> (try (have hq := hg; simp only [Bool.not_eq_true', Bool.not_eq_false', Bool.and_eq_true, Bool.and_eq_false_iff, Bool.or_eq_true, Bool.or_eq_false_iff, decide_eq_true_eq, decide_eq_false_iff_not, bne_iff_ne, beq_iff_eq, beq_eq_false_iff_ne, bne_eq_false_iff_eq, ne_eq, Int.not_lt, Int.not_le, Decidable.not_not] at hq)) <;> (try (have hr := hg; simp only [decide_eq_true_eq, decide_eq_false_iff_not] at hr)) <;> (try (exfalso; omega))) | ((first | refine aw_region ?_ | refine ago_if (by omega) ?_ | skip); simp (disch := first | exact okY | omega) only [thenQ, Int.reduceNeg, dI, List.length, Nat.zero_add, Nat.reduceAdd, Nat.reduceMul, ARun_none, AOpRun, aexec, FSt.ev, St.F, eget_c, Nat.reduceBEq, ↓eget_h, cond_false, AGo_ok, St.app, putO, eput_c, eput_n, hups, List.map, ints_len, isSh, Bool.false_eq_true, ↓reduceIte, Option.map, abin, ARun_nil, dropE_c, inL_c, inL_n, beq_self_eq_true, cond_true, dropE_n, hr, decide_false])))
      refine wk_q [] [(0, 0)] ?_ ?_ <;> repeat' (first | exact trivial | exact vr_val _ | exact vr_list _ | exact vr_ptr _ _ _ rfl | refine And.intro ⟨_, rfl, .inl ⟨_, rfl, by decide, ?_⟩⟩ ?_ | apply And.intro)
    have g1 := ints_gd fr k hk2
    have fa := from_ac (fr[k]?.getD 0) 0 4095
    have he : wOk (fr[k]?.getD 0) = true := by
      rw [List.getElem?_eq_getElem hk2]
      exact List.all_eq_true.1 ha _ (List.getElem_mem hk2)
    rw [wI_w, he] at fa
    (have hg : (987654321 : Nat) - 987654321 = 0 := rfl; have hr := hg; repeat' (first | apply aw_seq | ((first | apply aw_skip | apply aw_exit); try simp only [thenQ, blockQ, if_true, if_false, Nat.reduceEqDiff, reduceCtorEq]) | apply aw_ret | apply aw_block | apply aw_condT rfl | apply aw_condF rfl | (refine aw_cond rfl (fun hg => ?_) (fun hg => ?_) <;> (try (have hq := hg; simp only [Bool.not_eq_true', Bool.not_eq_false', Bool.and_eq_true, Bool.and_eq_false_iff, Bool.or_eq_true, Bool.or_eq_false_iff, decide_eq_true_eq, decide_eq_false_iff_not, bne_iff_ne, beq_iff_eq, beq_eq_false_iff_ne, bne_eq_false_iff_eq, ne_eq, Int.not_lt, Int.not_le, Decidable.not_not] at hq)) <;> (try (have hr := hg; simp only [decide_eq_true_eq, decide_eq_false_iff_not] at hr)) <;> (try (exfalso; omega))) | ((first | refine aw_region ?_ | refine acall0 (fa) ?_ | refine ago_if (by omega) ?_ | skip); simp (disch := first | exact okY | omega) only [thenQ, Int.reduceNeg, dI, List.length, Nat.zero_add, Nat.reduceAdd, Nat.reduceMul, ARun_none, AOpRun, aexec, FSt.ev, St.F, eget_c, Nat.reduceBEq, ↓eget_h, cond_false, AGo_ok, St.app, putO, eput_c, eput_n, hups, List.map, ints_len, isSh, Bool.false_eq_true, ↓reduceIte, Option.map, abin, ARun_nil, dropE_c, inL_c, inL_n, beq_self_eq_true, cond_true, dropE_n, hr, decide_true, Int.natCast_nonneg, ints_all, and_self, opt1, Int.toNat_natCast, g1, run1, List.getElem?_cons_zero, dB, Bool.not_true, fits])))
    refine ⟨k + 1, by omega, by omega, ?_⟩
    refine wk_q [] [(0, 0)] ?_ ?_ <;> repeat' (first | exact trivial | exact vr_val _ | exact vr_list _ | exact vr_ptr _ _ _ rfl | refine And.intro ⟨_, rfl, .inl ⟨_, rfl, by decide, ?_⟩⟩ ?_ | apply And.intro)
  have g0 := ints_gd fr 0 (by omega)
  have hl0 : 0 < fr.length := by omega
  rw [hsub]
  refine aw_seq (aw_seq (aw_region ?_))
  simp (disch := first | exact okY | omega) only [thenQ, Int.reduceNeg, List.length, Nat.zero_add, Nat.reduceMul, Nat.reduceAdd, dI, ARun_none, AOpRun, aexec, FSt.ev, AGo_ok, St.app, putO, eput_c, Nat.reduceBEq, eput_n, cond_false, hups, List.map, ARun_nil, dropE_c, inL_n, dropE_n]
  refine aw_block (aw_loop (fun k : Nat => ⟨[(1, .list (ints fr)), (2, .ptr 0 0), (6, dI k)], [(0, [dI l.words, dI l.s0, dI l.s1, dI l.s2, dI l.s3, .list (fls l.fl)])], 800⟩) (fun k => k ≤ 4 ∧ ∀ j, j < k → fr[0]?.getD 0 ≠ (sync l)[j]?.getD 0) (fun k => 4 - k) ⟨0, ⟨by omega, fun j hj => by omega⟩, ?_⟩ ?_)
  · unfold dI
    refine wk_q [] [(0, 0)] ?_ ?_ <;> repeat' (first | exact trivial | exact vr_val _ | exact vr_list _ | exact vr_ptr _ _ _ rfl | refine And.intro ⟨_, rfl, .inl ⟨_, rfl, by decide, ?_⟩⟩ ?_ | apply And.intro)
  rintro k ⟨hk, hin⟩
  by_cases hk2 : k < 4
  case neg =>
    obtain rfl : k = 4 := by omega
    rw [idx4_no l _ hin]
    (have hg : (987654321 : Nat) - 987654321 = 0 := rfl; have hr := hg; repeat' (first | apply aw_seq | ((first | apply aw_skip | apply aw_exit); try simp only [thenQ, blockQ, if_true, if_false, Nat.reduceEqDiff, reduceCtorEq]) | apply aw_ret | apply aw_block | apply aw_condT rfl | apply aw_condF rfl | ((first | refine aw_region ?_ | refine ago_if (by omega) ?_ | skip); simp (disch := first | exact okY | omega) only [thenQ, ne_eq, hg, dI, Int.reduceNeg, List.length, Nat.zero_add, Nat.reduceAdd, Nat.reduceMul, cast_lit, ARun_none, AOpRun, aexec, FSt.ev, St.F, eget_c, Nat.reduceBEq, ↓eget_h, cond_false, AGo_ok, St.app, putO, eput_c, eput_n, hups, List.map, isSh, Bool.false_eq_true, ↓reduceIte, Option.map, abin, Int.reduceLT, decide_false, ARun_nil, dropE_c, inL_c, inL_n, beq_self_eq_true, cond_true, dropE_n])))
    all_goals (refine end_q [] [] ?_ ?_ <;> repeat' (first | exact trivial | exact vr_val _))
  have gs := sync_at l k hk2
  by_cases he : fr[0]?.getD 0 = (sync l)[k]?.getD 0
  · rw [idx4_at l _ k hk2 hin he]
    have q2 : (fr[0]?.getD 0 == (sync l)[k]?.getD 0) = true := by simpa using he
    rcases (by omega : k = 0 ∨ k = 1 ∨ k = 2 ∨ k = 3) with rfl | rfl | rfl | rfl
    all_goals
      simp only [sync, List.getElem?_cons_zero, List.getElem?_cons_succ, Option.getD_some] at q2
      (repeat' (first | apply aw_seq | ((first | apply aw_skip | apply aw_exit); try simp only [thenQ, blockQ, if_true, if_false, Nat.reduceEqDiff, reduceCtorEq]) | apply aw_ret | apply aw_block | apply aw_condT rfl | apply aw_condF rfl | ((first | refine aw_region ?_ | refine ago_if (by omega) ?_ | skip); simp (disch := first | exact okY | omega) only [thenQ, ne_eq, Nat.reduceSub, dI, Int.reduceNeg, cast_lit, List.length, Nat.zero_add, Nat.reduceAdd, Nat.reduceMul, ARun_none, AOpRun, aexec, FSt.ev, St.F, eget_c, Nat.reduceBEq, ↓eget_h, cond_false, AGo_ok, St.app, putO, eput_c, eput_n, hups, List.map, isSh, Bool.false_eq_true, ↓reduceIte, Option.map, abin, Int.reduceLT, decide_true, ARun_nil, dropE_c, inL_c, inL_n, beq_self_eq_true, cond_true, dropE_n, Int.le_refl, ints_all, and_self, opt1, Int.toNat_zero, g0, run1, List.getElem?_cons_zero, hget_c, hget_n, List.getElem?_cons_succ, q2, blockQ, Int.reduceLE, Int.reduceToNat])))
      all_goals (refine end_q [] [] ?_ ?_ <;> repeat' (first | exact trivial | exact vr_val _))
  · have q2 : (fr[0]?.getD 0 == (sync l)[k]?.getD 0) = false := by simpa using he
    have hin2 : ∀ j, j < k + 1 → fr[0]?.getD 0 ≠ (sync l)[j]?.getD 0 := fun j hj => by
      rcases (by omega : j < k ∨ j = k) with h | rfl
      · exact hin j h
      · exact he
    rcases (by omega : k = 0 ∨ k = 1 ∨ k = 2 ∨ k = 3) with rfl | rfl | rfl | rfl
    all_goals
      simp only [sync, List.getElem?_cons_zero, List.getElem?_cons_succ, Option.getD_some] at q2
      (repeat' (first | apply aw_seq | ((first | apply aw_skip | apply aw_exit); try simp only [thenQ, blockQ, if_true, if_false, Nat.reduceEqDiff, reduceCtorEq]) | apply aw_ret | apply aw_block | apply aw_condT rfl | apply aw_condF rfl | ((first | refine aw_region ?_ | refine ago_if (by omega) ?_ | skip); simp (disch := first | exact okY | omega) only [thenQ, ne_eq, Nat.reduceSub, dI, Int.reduceNeg, List.length, Nat.zero_add, Nat.reduceAdd, Nat.reduceMul, cast_lit, ARun_none, AOpRun, aexec, FSt.ev, St.F, eget_c, Nat.reduceBEq, ↓eget_h, cond_false, AGo_ok, St.app, putO, eput_c, eput_n, hups, List.map, isSh, Bool.false_eq_true, ↓reduceIte, Option.map, abin, Int.reduceLT, decide_true, ARun_nil, dropE_c, inL_c, inL_n, beq_self_eq_true, cond_true, dropE_n, Int.le_refl, ints_all, and_self, opt1, Int.toNat_zero, g0, run1, List.getElem?_cons_zero, hget_c, hget_n, List.getElem?_cons_succ, q2, Int.reduceAdd, fits, Int.reduceLE, Int.reduceToNat])))
      refine ⟨_, ⟨?_, hin2⟩, ?_, ?_⟩
      · omega
      · omega
      · refine wk_q [] [(0, 0)] ?_ ?_ <;> repeat' (first | exact trivial | exact vr_val _ | exact vr_list _ | exact vr_ptr _ _ _ rfl | refine And.intro ⟨_, rfl, .inl ⟨_, rfl, by decide, ?_⟩⟩ ?_ | apply And.intro)
end Go.Proofs.Ytdcodicoclecnaa
/- The document of record: Good, samples, Read, Peak. No conditions. -/
namespace Go.Proofs.Ytdcodicoclecnaa
open Go Go.RowKit Lift

theorem uw_in {x : Int} (h1 : 0 ≤ x) (h2 : x < 18446744073709551616) : IntKind.u64.wrap x = x := by
  have h3 : x % 18446744073709551616 = x := Int.emod_eq_of_lt h1 h2
  unfold IntKind.wrap
  show (if (false && _) = true then _ else x % (2 ^ 64 : Int)) = x
  rw [Bool.false_and, if_neg (by simp)]
  exact h3
set_option maxHeartbeats 2000000 in
theorem checkF_ac (l : Lay) (frs : List (List Int)) (hl : LayIn l) (hf : FrIn frs) : AC Try.prog 68 [layD l, .list (rows frs)] [] [] (dI (tpE l frs)) := by
  refine kref12_CheckFrames.ac (n0 := 0) (by simp) ⟨in_layD _ _, .list _, trivial⟩ trivial rfl ?_
  unfold cref12_CheckFrames
  have ck := rcheck_ac l hl
  have hmax : maxLen = 9223372036854775807 := rfl
  have hn := hf.n
  unfold layD layC at *
  by_cases h1 : LayOk l
  · rw [layE_ok h1] at ck
    cases q : decide ((frs.length : Int) > 200) with
    | true =>
      rw [tpE_many h1 (by have := of_decide_eq_true q; omega)]
      (repeat' (first | apply aw_seq | ((first | apply aw_skip | apply aw_exit); try simp only [thenQ, blockQ, if_true, if_false, Nat.reduceEqDiff, reduceCtorEq]) | apply aw_ret | apply aw_block | apply aw_condT rfl | apply aw_condF rfl | ((first | refine aw_region ?_ | refine acall0 (ck) ?_ | refine ago_if (by omega) ?_ | skip); simp (disch := first | exact okY | omega) only [thenQ, List.map, dI, List.length, Nat.zero_add, Nat.reduceAdd, Nat.reduceMul, envOf, ARun_none, AOpRun, aexec, D.isBot, FSt.ev, St.F, ↓eget_h, Bool.false_eq_true, Option.isSome, hget_n, or_self, ↓reduceIte, D.cells, AGo_ok, St.app, putO, eput_c, Nat.reduceBEq, eput_n, cond_false, hups, hput_n, ARun_nil, dropE_c, inL_n, dropE_n, eget_c, hget_c, beq_self_eq_true, cond_true, Nat.reduceLeDiff, List.drop, List.take, inL_c, isSh, Option.map, abin, bne_self_eq_false, rows_len, q])))
      all_goals (refine end_q [] [] ?_ ?_ <;> repeat' (first | exact trivial | exact vr_val _))
    | false =>
      rw [tpE_ok h1 (by have := of_decide_eq_false q; omega)]
      (repeat' (first | apply aw_seq | ((first | apply aw_skip | apply aw_exit); try simp only [thenQ, blockQ, if_true, if_false, Nat.reduceEqDiff, reduceCtorEq]) | apply aw_ret | apply aw_block | apply aw_condT rfl | apply aw_condF rfl | ((first | refine aw_region ?_ | refine acall0 (ck) ?_ | refine ago_if (by omega) ?_ | skip); simp (disch := first | exact okY | omega) only [thenQ, List.map, dI, List.length, Nat.zero_add, Nat.reduceAdd, Nat.reduceMul, envOf, ARun_none, AOpRun, aexec, D.isBot, FSt.ev, St.F, ↓eget_h, Bool.false_eq_true, Option.isSome, hget_n, or_self, ↓reduceIte, D.cells, AGo_ok, St.app, putO, eput_c, Nat.reduceBEq, eput_n, cond_false, hups, hput_n, ARun_nil, dropE_c, inL_n, dropE_n, eget_c, hget_c, beq_self_eq_true, cond_true, Nat.reduceLeDiff, List.drop, List.take, inL_c, isSh, Option.map, abin, bne_self_eq_false, rows_len, q])))
      all_goals (refine end_q [] [] ?_ ?_ <;> repeat' (first | exact trivial | exact vr_val _))
  · rw [layE_no h1] at ck
    rw [tpE_no h1]
    (repeat' (first | apply aw_seq | ((first | apply aw_skip | apply aw_exit); try simp only [thenQ, blockQ, if_true, if_false, Nat.reduceEqDiff, reduceCtorEq]) | apply aw_ret | apply aw_block | apply aw_condT rfl | apply aw_condF rfl | ((first | refine aw_region ?_ | refine acall0 (ck) ?_ | refine ago_if (by omega) ?_ | skip); simp (disch := first | exact okY | omega) only [thenQ, List.map, dI, List.length, Nat.zero_add, Nat.reduceAdd, Nat.reduceMul, envOf, ARun_none, AOpRun, aexec, D.isBot, FSt.ev, St.F, ↓eget_h, Bool.false_eq_true, Option.isSome, hget_n, or_self, ↓reduceIte, D.cells, AGo_ok, St.app, putO, eput_c, Nat.reduceBEq, eput_n, cond_false, hups, hput_n, ARun_nil, dropE_c, inL_n, dropE_n, eget_c, hget_c, beq_self_eq_true, cond_true, Nat.reduceLeDiff, List.drop, List.take, inL_c, isSh, Option.map, abin, Int.reduceBNe])))
    all_goals (refine end_q [] [] ?_ ?_ <;> repeat' (first | exact trivial | exact vr_val _))
end Go.Proofs.Ytdcodicoclecnaa
/- The document of record: samples, Read, Peak. No conditions. -/
namespace Go.Proofs.Ytdcodicoclecnaa
open Go Go.RowKit Lift

set_option maxHeartbeats 2000000 in
theorem rraw_ac {w : Int} {f : Fl} (h : FOk w f) (fr : List Int) (x : Nat) (hw : f.word.toNat < fr.length) (hx : fr[f.word.toNat]?.getD 0 = (x : Int)) (hlt : x < 4096) : AC Try.prog 127 [flD f, .list (ints fr)] [] [] (dI (rawI f x)) := by
  refine kref12_raw.ac (n0 := 0) (by simp) ⟨in_flD _ _, .list _, trivial⟩ trivial rfl ?_
  unfold cref12_raw flD flC
  obtain ⟨h1, h2, h3, h4, h5, h6, h7⟩ := size_pow h
  have b1 := h.b1
  have s1 := h.s1
  have bs := h.bs
  have w1 := h.w1
  have e0 : IntKind.i64.bits = 64 := rfl
  have e1 : min f.bit.toNat IntKind.i64.bits = f.bit.toNat := by rw [e0]; omega
  have e2 : min (f.size - 1).toNat IntKind.i64.bits = f.size.toNat - 1 := by rw [e0]; omega
  have e3 : min f.size.toNat IntKind.i64.bits = f.size.toNat := by rw [e0]; omega
  have c1 : IntKind.u64.wrap f.bit = f.bit := uw_in (by omega) (by omega)
  have c2 : IntKind.u64.wrap f.size = f.size := uw_in (by omega) (by omega)
  have c3 : IntKind.u64.wrap (f.size - 1) = f.size - 1 := uw_in (by omega) (by omega)
  have p0 : 0 ≤ f.size := by omega
  have p1 : 0 ≤ f.size - 1 := by omega
  have p2 : 0 ≤ f.word := by omega
  have p3 : f.word < (fr.length : Int) := by omega
  have g1 := ints_gd fr f.word.toNat hw
  rw [hx] at g1
  have a0 : Int.fdiv (x : Int) (2 ^ f.bit.toNat) = ((x / 2 ^ f.bit.toNat : Nat) : Int) := fdiv_pow _ _
  have pp : ((2 ^ f.size.toNat : Nat) : Int) = (2 : Int) ^ f.size.toNat := by simp
  have a1 : IntKind.i64.wrap (1 * 2 ^ f.size.toNat) = ((2 ^ f.size.toNat : Nat) : Int) := by rw [Int.one_mul, ← pp]; exact wrap_in (by omega) (by omega)
  have a2 : ((2 ^ f.size.toNat : Nat) : Int) - 1 = ((2 ^ f.size.toNat - 1 : Nat) : Int) := by omega
  have a3 : IntKind.i64.wrap ((2 ^ f.size.toNat - 1 : Nat) : Int) = ((2 ^ f.size.toNat - 1 : Nat) : Int) := wrap_in (by omega) (by omega)
  have hd : x / 2 ^ f.bit.toNat ≤ x := Nat.div_le_self _ _
  have a4 : IntKind.i64.wrap ((BitVec.ofInt IntKind.i64.bits ((x / 2 ^ f.bit.toNat : Nat) : Int) &&& BitVec.ofInt IntKind.i64.bits ((2 ^ f.size.toNat - 1 : Nat) : Int)).toNat) = ((rawU f x : Nat) : Int) := by
    rw [and_nat _ _ (by omega) (by omega), and_low]; rfl
  have hr := rawU_lt h x
  have pq : ((2 ^ (f.size.toNat - 1) : Nat) : Int) = (2 : Int) ^ (f.size.toNat - 1) := by simp
  have a5 : IntKind.i64.wrap (1 * 2 ^ (f.size.toNat - 1)) = ((2 ^ (f.size.toNat - 1) : Nat) : Int) := by rw [Int.one_mul, ← pq]; exact wrap_in (by omega) (by omega)
  unfold rawI
  cases hs : f.sgn with
  | false =>
    rw [if_neg (by rintro ⟨h, _⟩; cases h)]
    (repeat' (first | apply aw_seq | ((first | apply aw_skip | apply aw_exit); try simp only [thenQ, blockQ, if_true, if_false, Nat.reduceEqDiff, reduceCtorEq]) | apply aw_ret | apply aw_block | apply aw_condT rfl | apply aw_condF rfl | ((first | refine aw_region ?_ | refine ago_if (by omega) ?_ | skip); simp (disch := first | exact okY | omega) only [thenQ, List.map, dI, List.length, Nat.zero_add, Nat.reduceAdd, Nat.reduceMul, envOf, dB, ARun_none, AOpRun, aexec, D.isBot, FSt.ev, St.F, ↓eget_h, Bool.false_eq_true, Option.isSome, hget_n, or_self, ↓reduceIte, D.cells, AGo_ok, St.app, putO, eput_c, Nat.reduceBEq, eput_n, cond_false, hups, hput_n, ARun_nil, dropE_c, inL_n, dropE_n, eget_c, Option.map, run1, hget_c, beq_self_eq_true, cond_true, List.getElem?_cons_zero, p2, ints_all, and_self, opt1, g1, List.getElem?_cons_succ, c1, isSh, ash, b1, e1, a0, c2, p0, e3, a1, abin, a2, a3, a4, inL_c, ARun_some, AG_ft])))
    all_goals (refine end_q [] [] ?_ ?_ <;> repeat' (first | exact trivial | exact vr_val _))
  | true =>
    by_cases hh : 2 ^ (f.size.toNat - 1) ≤ rawU f x
    · have q : decide (((rawU f x : Nat) : Int) ≥ ((2 ^ (f.size.toNat - 1) : Nat) : Int)) = true := decide_eq_true (by omega)
      rw [if_pos ⟨rfl, hh⟩]
      have a6 : IntKind.i64.wrap (((rawU f x : Nat) : Int) - ((2 ^ f.size.toNat : Nat) : Int)) = ((rawU f x : Nat) : Int) - 2 ^ f.size.toNat := by rw [← pp]; exact wrap_in (by omega) (by omega)
      (repeat' (first | apply aw_seq | ((first | apply aw_skip | apply aw_exit); try simp only [thenQ, blockQ, if_true, if_false, Nat.reduceEqDiff, reduceCtorEq]) | apply aw_ret | apply aw_block | apply aw_condT rfl | apply aw_condF rfl | ((first | refine aw_region ?_ | refine ago_if (by omega) ?_ | skip); simp (disch := first | exact okY | omega) only [thenQ, List.map, dI, List.length, Nat.zero_add, Nat.reduceAdd, Nat.reduceMul, envOf, dB, ARun_none, AOpRun, aexec, D.isBot, FSt.ev, St.F, ↓eget_h, Bool.false_eq_true, Option.isSome, hget_n, or_self, ↓reduceIte, D.cells, AGo_ok, St.app, putO, eput_c, Nat.reduceBEq, eput_n, cond_false, hups, hput_n, ARun_nil, dropE_c, inL_n, dropE_n, eget_c, Option.map, run1, hget_c, beq_self_eq_true, cond_true, List.getElem?_cons_zero, p2, ints_all, and_self, opt1, g1, List.getElem?_cons_succ, c1, isSh, ash, b1, e1, a0, c2, p0, e3, a1, abin, a2, a3, a4, inL_c, ARun_some, AG_tt, fits, c3, p1, e2, a5, q, a6])))
      all_goals (refine end_q [] [] ?_ ?_ <;> repeat' (first | exact trivial | exact vr_val _))
    · have q : decide (((rawU f x : Nat) : Int) ≥ ((2 ^ (f.size.toNat - 1) : Nat) : Int)) = false := decide_eq_false (by omega)
      rw [if_neg (by rintro ⟨_, h⟩; exact hh h)]
      (repeat' (first | apply aw_seq | ((first | apply aw_skip | apply aw_exit); try simp only [thenQ, blockQ, if_true, if_false, Nat.reduceEqDiff, reduceCtorEq]) | apply aw_ret | apply aw_block | apply aw_condT rfl | apply aw_condF rfl | ((first | refine aw_region ?_ | refine ago_if (by omega) ?_ | skip); simp (disch := first | exact okY | omega) only [thenQ, List.map, dI, List.length, Nat.zero_add, Nat.reduceAdd, Nat.reduceMul, envOf, dB, ARun_none, AOpRun, aexec, D.isBot, FSt.ev, St.F, ↓eget_h, Bool.false_eq_true, Option.isSome, hget_n, or_self, ↓reduceIte, D.cells, AGo_ok, St.app, putO, eput_c, Nat.reduceBEq, eput_n, cond_false, hups, hput_n, ARun_nil, dropE_c, inL_n, dropE_n, eget_c, Option.map, run1, hget_c, beq_self_eq_true, cond_true, List.getElem?_cons_zero, p2, ints_all, and_self, opt1, g1, List.getElem?_cons_succ, c1, isSh, ash, b1, e1, a0, c2, p0, e3, a1, abin, a2, a3, a4, inL_c, ARun_some, AG_tt, fits, c3, p1, e2, a5, q])))
      all_goals (refine end_q [] [] ?_ ?_ <;> repeat' (first | exact trivial | exact vr_val _))
theorem smp_parts {l : Lay} {f : Fl} {fr : List Int} (hf : FOk l.words f) (hs : 0 ≤ subF l fr) : ∃ x : Nat, f.word.toNat < fr.length ∧ fr[f.word.toNat]?.getD 0 = (x : Int) ∧ x < 4096 ∧ (inSub f (subF l fr) → smp l f fr = some (valI f (rawI f x))) := by
  obtain ⟨hfl, hfa⟩ := subF_ok hs
  have w1 := hf.w1
  have w2 := hf.w2
  have hwl : f.word.toNat < fr.length := by omega
  have h4 : wOk (fr[f.word.toNat]?.getD 0) = true := by
    rw [List.getElem?_eq_getElem hwl]
    exact List.all_eq_true.1 hfa _ (List.getElem_mem hwl)
  have h5 : 0 ≤ fr[f.word.toNat]?.getD 0 ∧ fr[f.word.toNat]?.getD 0 ≤ 4095 := by unfold wOk at h4; simpa using h4
  exact ⟨(fr[f.word.toNat]?.getD 0).toNat, hwl, (Int.toNat_of_nonneg h5.1).symm, by omega, fun h => if_pos ⟨hs, h⟩⟩
set_option maxRecDepth 100000 in
set_option maxHeartbeats 4000000 in
theorem rsample_ac (l : Lay) (f : Fl) (fr : List Int) (hw : 2 ≤ l.words) (hf : FOk l.words f) (hl : fr.length ≤ maxLen) : AC Try.prog 96 [layD l, flD f, .list (ints fr)] [] [] (.tup [dI ((smp l f fr).getD 0), dB (smp l f fr).isSome]) := by
  refine kref12_sample.ac (n0 := 0) (by simp) ⟨in_layD _ _, in_flD _ _, .list _, trivial⟩ trivial rfl ?_
  unfold cref12_sample
  have sf := subf_ac l fr hw hl
  have ev : f.every ≠ 0 := by rcases hf.ev with h | h | h <;> omega
  have sb := subF_bd l fr
  by_cases hs : 0 ≤ subF l fr
  case neg =>
    have q : decide (subF l fr < 0) = true := decide_eq_true (by omega)
    rw [show smp l f fr = none from if_neg fun h => hs h.1]
    unfold layD layC flD flC at *
    (repeat' (first | apply aw_seq | ((first | apply aw_skip | apply aw_exit); try simp only [thenQ, blockQ, if_true, if_false, Nat.reduceEqDiff, reduceCtorEq]) | apply aw_ret | apply aw_block | apply aw_condT rfl | apply aw_condF rfl | ((first | refine aw_region ?_ | refine acall0 (sf) ?_ | refine ago_if (by omega) ?_ | skip); simp (disch := first | exact okY | omega) only [thenQ, List.map, dI, dB, Option.isSome, List.length, Nat.zero_add, Nat.reduceAdd, Nat.reduceMul, envOf, ARun_none, AOpRun, aexec, D.isBot, FSt.ev, St.F, ↓eget_h, Bool.false_eq_true, hget_n, or_self, ↓reduceIte, D.cells, AGo_ok, St.app, putO, eput_c, Nat.reduceBEq, eput_n, cond_false, hups, hput_n, eget_c, hget_c, hput_c, ARun_nil, dropE_c, inL_n, dropE_n, beq_self_eq_true, cond_true, Nat.reduceLeDiff, List.drop, List.take, inL_c, isSh, Option.map, abin, q, ARun_some, AG_tf])))
    all_goals (refine end_q [] [] ?_ ?_ <;> repeat' (first | exact trivial | exact vr_val _ | apply vr_tup | apply And.intro))
  obtain ⟨x, x1, x2, x3, x4⟩ := smp_parts hf hs
  have q : decide (subF l fr < 0) = false := decide_eq_false (by omega)
  by_cases hin : inSub f (subF l fr)
  case neg =>
    have q2 : ((subF l fr).tmod f.every != f.phase) = true := by simp only [bne_iff_ne, ne_eq]; exact hin
    rw [show smp l f fr = none from if_neg fun h => hin h.2]
    unfold layD layC flD flC at *
    (repeat' (first | apply aw_seq | ((first | apply aw_skip | apply aw_exit); try simp only [thenQ, blockQ, if_true, if_false, Nat.reduceEqDiff, reduceCtorEq]) | apply aw_ret | apply aw_block | apply aw_condT rfl | apply aw_condF rfl | ((first | refine aw_region ?_ | refine acall0 (sf) ?_ | refine ago_if (by omega) ?_ | skip); simp (disch := first | exact okY | omega) only [thenQ, List.map, dI, dB, Option.isSome, List.length, Nat.zero_add, Nat.reduceAdd, Nat.reduceMul, envOf, ARun_none, AOpRun, aexec, D.isBot, FSt.ev, St.F, ↓eget_h, Bool.false_eq_true, hget_n, or_self, ↓reduceIte, D.cells, AGo_ok, St.app, putO, eput_c, Nat.reduceBEq, eput_n, cond_false, hups, hput_n, eget_c, hget_c, hput_c, ARun_nil, dropE_c, inL_n, dropE_n, beq_self_eq_true, cond_true, Nat.reduceLeDiff, List.drop, List.take, inL_c, isSh, Option.map, abin, q, ARun_some, AG_ff, run1, ↓hget_h, List.getElem?_cons_succ, List.getElem?_cons_zero, ev, q2])))
    all_goals (refine end_q [] [] ?_ ?_ <;> repeat' (first | exact trivial | exact vr_val _ | apply vr_tup | apply And.intro))
  have q2 : ((subF l fr).tmod f.every != f.phase) = false := by simp only [bne_eq_false_iff_eq]; exact hin
  have rr := rraw_ac hf fr x x1 x2 x3
  rw [x4 hin]
  have m1 := mulB hf.a1 hf.a2 (by have := hf.d1; omega : -(1000 : Int) ≤ f.den) hf.d2
  have rb := rawI_bd hf x
  have m2 := mulB rb.1 rb.2 hf.n1 hf.n2
  have e1 : IntKind.i64.wrap (f.add * f.den) = f.add * f.den := wrap_in (by omega) (by omega)
  have e2 : IntKind.i64.wrap (rawI f x * f.num) = rawI f x * f.num := wrap_in (by omega) (by omega)
  have e3 : IntKind.i64.wrap (f.add * f.den + rawI f x * f.num) = valI f (rawI f x) := wrap_in (by omega) (by omega)
  simp only [Option.getD_some, Option.isSome_some]
  unfold layD layC flD flC at *
  generalize rawI f x = rw at *
  (repeat' (first | apply aw_seq | ((first | apply aw_skip | apply aw_exit); try simp only [thenQ, blockQ, if_true, if_false, Nat.reduceEqDiff, reduceCtorEq]) | apply aw_ret | apply aw_block | apply aw_condT rfl | apply aw_condF rfl | ((first | refine aw_region ?_ | refine acall0 (sf) ?_ | refine acall0 (rr) ?_ | refine ago_if (by omega) ?_ | skip); simp (disch := first | exact okY | omega) only [thenQ, List.map, dI, dB, List.length, Nat.zero_add, Nat.reduceAdd, Nat.reduceMul, envOf, ARun_none, AOpRun, aexec, D.isBot, FSt.ev, St.F, ↓eget_h, Bool.false_eq_true, Option.isSome, hget_n, or_self, ↓reduceIte, D.cells, AGo_ok, St.app, putO, eput_c, Nat.reduceBEq, eput_n, cond_false, hups, hput_n, eget_c, hget_c, hput_c, ARun_nil, dropE_c, inL_n, dropE_n, beq_self_eq_true, cond_true, Nat.reduceLeDiff, List.drop, List.take, inL_c, isSh, Option.map, abin, q, ARun_some, AG_ff, run1, ↓hget_h, List.getElem?_cons_succ, List.getElem?_cons_zero, ev, q2, e1, e2, e3])))
  all_goals (refine end_q [] [] ?_ ?_ <;> repeat' (first | exact trivial | exact vr_val _ | apply vr_tup | apply And.intro))
set_option maxRecDepth 100000 in
set_option maxHeartbeats 1000000 in
theorem rfield_ac (l : Lay) (n : Int) (hn : l.fl.length ≤ 1000) : AC Try.prog 69 [layD l, dI n] [] [] (dB (wI n 0 ((l.fl.length : Int) - 1))) := by
  refine kref12_field.ac (n0 := 0) (by simp) ⟨in_layD _ _, .val _, trivial⟩ trivial rfl ?_
  unfold cref12_field layD layC
  (repeat' (first | apply aw_seq | ((first | apply aw_skip | apply aw_exit); try simp only [thenQ, blockQ, if_true, if_false, Nat.reduceEqDiff, reduceCtorEq]) | apply aw_ret | apply aw_block | apply aw_condT rfl | apply aw_condF rfl | ((first | refine aw_region ?_ | refine acall0 (from_ac _ _ _) ?_ | refine ago_if (by omega) ?_ | skip); simp (disch := first | exact okY | omega) only [thenQ, List.map, dB, List.length, Nat.zero_add, Nat.reduceAdd, Nat.reduceMul, envOf, dI, ARun_none, AOpRun, aexec, D.isBot, FSt.ev, St.F, ↓eget_h, Bool.false_eq_true, Option.isSome, hget_n, or_self, ↓reduceIte, D.cells, AGo_ok, St.app, putO, eput_c, Nat.reduceBEq, eput_n, cond_false, hups, hput_n, ARun_nil, dropE_c, inL_n, dropE_n, eget_c, Option.map, run1, hget_c, beq_self_eq_true, cond_true, List.getElem?_cons_succ, List.getElem?_cons_zero, fls_len, isSh, abin, fits, inL_c])))
  all_goals (refine end_q [] [] ?_ ?_ <;> repeat' (first | exact trivial | exact vr_val _))
end Go.Proofs.Ytdcodicoclecnaa
/- Events, on both sides (views last). No conditions. -/
namespace Go.Proofs.Ytdcodicoclecnaa
open Go Go.RowKit Lift

set_option maxRecDepth 100000 in
set_option maxHeartbeats 8000000 in
theorem checkE_ac (l : Lay) (cs : List Cd) (h : Int) (hn : cs.length ≤ maxLen) (hl : l.fl.length ≤ 1000) : AC Try.prog 49 [layD l, evD cs h] [] [] (dB (evB l cs h)) := by
  refine kref12_CheckEvent.ac (n0 := 0) (by simp) ⟨in_layD _ _, in_ev _ _ _, trivial⟩ trivial rfl ?_
  unfold cref12_CheckEvent evB
  have hmax : maxLen = 9223372036854775807 := rfl
  have h1 := from_ac cs.length 1 4
  have h3 := from_ac h 1 100
  have rf := fun x => rfield_ac l x hl
  unfold layD layC evD at *
  cases q1 : wI cs.length 1 4 with
  | false =>
    rw [q1] at h1
    rw [Bool.false_and, Bool.false_and]
    (repeat' (first | (with_reducible first | refine thenQ_n ?_ | refine blockQ_n ?_ | refine thenQ_e ?_ | refine blockQ_t ?_ | refine blockQ_f (by decide) ?_) | apply aw_seq | apply aw_skip | apply aw_exit | apply aw_ret | apply aw_block | apply aw_condT rfl | apply aw_condF rfl | ((first | refine aw_hide fun K hK => aw_region ?_ | refine acall0 (h1) ?_ | refine ago_if (by omega) ?_ | skip); simp (disch := first | exact okY | omega) only [List.length, Nat.zero_add, Nat.reduceAdd, Nat.reduceMul, envOf, dI, ARun_none, AOpRun, aexec, D.isBot, FSt.ev, St.F, ↓eget_h, Bool.false_eq_true, Option.isSome, hget_n, or_self, ↓reduceIte, D.cells, AGo_ok, St.app, putO, eput_c, Nat.reduceBEq, eput_n, cond_false, hups, hput_n, List.map, eget_c, hget_c, hput_c, ARun_nil, dropE_c, inL_n, dropE_n, Option.map, run1, ↓hget_h, List.getElem?_cons_zero, cds_len, dB, Bool.not_false, ARun_some, AG_tf, inL_c, beq_self_eq_true, cond_true, thenQ]) | subst hK))
    all_goals (refine end_q [] [] ?_ ?_ <;> repeat' (first | exact trivial | exact vr_val _))
  | true =>
  rw [q1] at h1
  cases q3 : wI h 1 100 with
  | false =>
    rw [q3] at h3
    rw [Bool.and_false]
    (repeat' (first | (with_reducible first | refine thenQ_n ?_ | refine blockQ_n ?_ | refine thenQ_e ?_ | refine blockQ_t ?_ | refine blockQ_f (by decide) ?_) | apply aw_seq | apply aw_skip | apply aw_exit | apply aw_ret | apply aw_block | apply aw_condT rfl | apply aw_condF rfl | ((first | refine aw_hide fun K hK => aw_region ?_ | refine acall0 (h1) ?_ | refine acall0 (h3) ?_ | refine ago_if (by omega) ?_ | skip); simp (disch := first | exact okY | omega) only [List.length, Nat.zero_add, Nat.reduceAdd, Nat.reduceMul, envOf, dI, ARun_none, AOpRun, aexec, D.isBot, FSt.ev, St.F, ↓eget_h, Bool.false_eq_true, Option.isSome, hget_n, or_self, ↓reduceIte, D.cells, AGo_ok, St.app, putO, eput_c, Nat.reduceBEq, eput_n, cond_false, hups, hput_n, List.map, eget_c, hget_c, hput_c, ARun_nil, dropE_c, inL_n, dropE_n, Option.map, run1, ↓hget_h, List.getElem?_cons_zero, cds_len, dB, Bool.not_true, ARun_some, AG_ff, List.getElem?_cons_succ, Bool.not_false, inL_c, beq_self_eq_true, cond_true, thenQ]) | subst hK))
    all_goals (refine end_q [] [] ?_ ?_ <;> repeat' (first | exact trivial | exact vr_val _))
  | true =>
  rw [q3] at h3
  have hcl := wI_t q1
  rw [Bool.true_and, Bool.and_true]
  refine aw_seq (aw_region ?_)
  simp (disch := first | exact okY | omega) only [thenQ, List.map, Int.reduceNeg, dB, List.length, Nat.zero_add, Nat.reduceAdd, Nat.reduceMul, envOf, dI, ARun_none, AOpRun, aexec, D.isBot, FSt.ev, St.F, ↓eget_h, Bool.false_eq_true, Option.isSome, hget_n, or_self, ↓reduceIte, D.cells, AGo_ok, St.app, putO, eput_c, Nat.reduceBEq, eput_n, cond_false, hups, hput_n, eget_c, hget_c, hput_c, ARun_nil, dropE_c, inL_n, dropE_n]
  refine aw_seq (aw_seq (aw_region ?_))
  simp (disch := first | exact okY | omega) only [thenQ, Int.reduceNeg, List.length, Nat.zero_add, Nat.reduceAdd, Nat.reduceMul, ARun_none, AOpRun, aexec, FSt.ev, St.F, eget_c, Nat.reduceBEq, ↓eget_h, cond_false, AGo_ok, St.app, putO, eput_c, eput_n, hups, List.map, Option.map, run1, hget_c, ↓hget_h, List.getElem?_cons_zero, cds_len]
  refine acall0 h1 ?_
  simp (disch := first | exact okY | omega) only [Int.reduceNeg, Nat.reduceAdd, St.app, putO, dB, eput_c, Nat.reduceBEq, eput_n, cond_false, hups, ARun_none, AOpRun, aexec, FSt.ev, St.F, eget_c, ↓eget_h, Bool.not_true, AGo_ok, List.map, ARun_some, AG_ff, Nat.zero_add, Option.map, run1, hget_c, ↓hget_h, List.getElem?_cons_succ, List.getElem?_cons_zero]
  refine acall0 h3 ?_
  simp (disch := first | exact okY | omega) only [Int.reduceNeg, Nat.reduceAdd, St.app, putO, dB, eput_c, Nat.reduceBEq, eput_n, cond_false, hups, ARun_some, eget_c, ↓eget_h, AG_ff, AOpRun, aexec, FSt.ev, St.F, Bool.not_true, AGo_ok, List.map, ARun_none, Bool.false_eq_true, ↓reduceIte, ARun_nil, dropE_c, inL_c, inL_n, beq_self_eq_true, cond_true, dropE_n]
  refine aw_condF rfl (aw_skip ?_)
  refine aw_seq (aw_seq (aw_region ?_))
  simp (disch := first | exact okY | omega) only [thenQ, Int.reduceNeg, List.length, Nat.zero_add, Nat.reduceMul, Nat.reduceAdd, ARun_none, AOpRun, aexec, FSt.ev, AGo_ok, St.app, putO, eput_c, Nat.reduceBEq, eput_n, cond_false, hups, List.map, ARun_nil, dropE_c, inL_n, dropE_n]
  refine aw_block (aw_loop (fun k : Nat => ⟨[(2, .ptr 0 0), (3, .ptr 8 0), (5, dI k)], [(0, [dI l.words, dI l.s0, dI l.s1, dI l.s2, dI l.s3, .list (fls l.fl)]), (8, [.list (cds cs), dI h])], 400⟩) (fun k => k ≤ cs.length ∧ ∀ j, j < k → cdB l (cs[j]?.getD cd0) = true) (fun k => cs.length - k) ⟨0, ⟨by omega, fun j hj => by omega⟩, ?_⟩ ?_)
  · unfold dI
    refine wk_q [] [(0, 0), (8, 8)] ?_ ?_ <;> repeat' (first | exact trivial | exact vr_val _ | exact vr_list _ | exact vr_ptr _ _ _ rfl | refine And.intro ⟨_, rfl, .inl ⟨_, rfl, by decide, ?_⟩⟩ ?_ | apply And.intro)
  rintro k ⟨hk, hin⟩
  by_cases hk2 : k < cs.length
  case neg =>
    obtain rfl : k = cs.length := by omega
    have e : cs.all (cdB l) = true := List.all_eq_true.2 fun x hx => by
      obtain ⟨j, hj, rfl⟩ := List.getElem_of_mem hx
      have := hin j hj
      simpa [hj] using this
    rw [e]
    (have hg : (987654321 : Nat) - 987654321 = 0 := rfl; have hr := hg; repeat' (first | (with_reducible first | refine thenQ_n ?_ | refine blockQ_n ?_ | refine thenQ_e ?_ | refine blockQ_t ?_ | refine blockQ_f (by decide) ?_) | apply aw_seq | apply aw_skip | apply aw_exit | apply aw_ret | apply aw_block | apply aw_condT rfl | apply aw_condF rfl | (refine aw_cond rfl (fun hg => ?_) (fun hg => ?_) <;> (try (have hq := hg; simp only [Bool.not_eq_true', Bool.not_eq_false', Bool.and_eq_true, Bool.and_eq_false_iff, Bool.or_eq_true, Bool.or_eq_false_iff, decide_eq_true_eq, decide_eq_false_iff_not, bne_iff_ne, beq_iff_eq, beq_eq_false_iff_ne, bne_eq_false_iff_eq, ne_eq, Int.not_lt, Int.not_le, Decidable.not_not] at hq)) <;> (try (have hr := hg; simp only [decide_eq_true_eq, decide_eq_false_iff_not] at hr)) <;> (try (exfalso; omega))) | ((first | refine aw_hide fun K hK => aw_region ?_ | refine ago_if (by omega) ?_ | skip); simp (disch := first | exact okY | omega) only [List.length, Nat.zero_add, Nat.reduceAdd, Nat.reduceMul, dI, ARun_none, AOpRun, aexec, FSt.ev, St.F, eget_c, Nat.reduceBEq, ↓eget_h, cond_false, AGo_ok, St.app, putO, eput_c, eput_n, hups, List.map, Option.map, run1, hget_c, ↓hget_h, List.getElem?_cons_zero, cds_len, isSh, Bool.false_eq_true, ↓reduceIte, abin, ARun_nil, dropE_c, inL_c, inL_n, beq_self_eq_true, cond_true, dropE_n, hr, decide_false]) | subst hK))
    all_goals (refine end_q [] [] ?_ ?_ <;> repeat' (first | exact trivial | exact vr_val _))
  have g1 := cds_gd cs k hk2
  have hall : cdB l (cs[k]?.getD cd0) = false → cs.all (cdB l) = false := fun h => List.all_eq_false.2 ⟨cs[k], List.getElem_mem hk2, by simpa [hk2] using h⟩
  have hnx : cdB l (cs[k]?.getD cd0) = true → ∀ j, j < k + 1 → cdB l (cs[j]?.getD cd0) = true := fun h j hj => by
    rcases (by omega : j < k ∨ j = k) with h' | rfl
    · exact hin j h'
    · exact h
  have ki : (k : Int) < (cs.length : Int) := by omega
  generalize cs[k]?.getD cd0 = c at *
  have r1 := rf c.field
  have r2 := from_ac c.lim (-1000000) 1000000
  have hcb : cdB l c = (wI c.field 0 ((l.fl.length : Int) - 1) && wI c.lim (-1000000) 1000000) := rfl
  unfold cdC at g1
  cases p1 : wI c.field 0 ((l.fl.length : Int) - 1) with
  | false =>
    rw [p1] at r1 hcb
    rw [hall (by rw [hcb]; rfl)]
    (repeat' (first | (with_reducible first | refine thenQ_n ?_ | refine blockQ_n ?_ | refine thenQ_e ?_ | refine blockQ_t ?_ | refine blockQ_f (by decide) ?_) | apply aw_seq | apply aw_skip | apply aw_exit | apply aw_ret | apply aw_block | apply aw_condT rfl | apply aw_condF rfl | ((first | refine aw_hide fun K hK => aw_region ?_ | refine acall0 (r1) ?_ | refine acall0 (r2) ?_ | refine ago_if (by omega) ?_ | skip); simp (disch := first | exact okY | omega) only [List.length, Nat.zero_add, Nat.reduceAdd, Nat.reduceMul, dI, ARun_none, AOpRun, aexec, FSt.ev, St.F, eget_c, Nat.reduceBEq, ↓eget_h, cond_false, AGo_ok, St.app, putO, eput_c, eput_n, hups, List.map, Option.map, run1, hget_c, ↓hget_h, List.getElem?_cons_zero, cds_len, isSh, Bool.false_eq_true, ↓reduceIte, abin, ki, decide_true, ARun_nil, dropE_c, inL_c, inL_n, beq_self_eq_true, cond_true, dropE_n, Int.reduceNeg, hget_n, Nat.reduceLeDiff, List.drop, List.take, Int.natCast_nonneg, cds_all, and_self, opt1, Int.toNat_natCast, g1, dB, Bool.not_false, ARun_some, AG_tf, blockQ, thenQ]) | subst hK))
    all_goals (refine end_q [] [] ?_ ?_ <;> repeat' (first | exact trivial | exact vr_val _))
  | true =>
  rw [p1] at r1 hcb
  cases p2 : wI c.lim (-1000000) 1000000 with
  | false =>
    rw [p2] at r2 hcb
    rw [hall (by rw [hcb]; rfl)]
    (repeat' (first | (with_reducible first | refine thenQ_n ?_ | refine blockQ_n ?_ | refine thenQ_e ?_ | refine blockQ_t ?_ | refine blockQ_f (by decide) ?_) | apply aw_seq | apply aw_skip | apply aw_exit | apply aw_ret | apply aw_block | apply aw_condT rfl | apply aw_condF rfl | ((first | refine aw_hide fun K hK => aw_region ?_ | refine acall0 (r1) ?_ | refine acall0 (r2) ?_ | refine ago_if (by omega) ?_ | skip); simp (disch := first | exact okY | omega) only [List.length, Nat.zero_add, Nat.reduceAdd, Nat.reduceMul, dI, ARun_none, AOpRun, aexec, FSt.ev, St.F, eget_c, Nat.reduceBEq, ↓eget_h, cond_false, AGo_ok, St.app, putO, eput_c, eput_n, hups, List.map, Option.map, run1, hget_c, ↓hget_h, List.getElem?_cons_zero, cds_len, isSh, Bool.false_eq_true, ↓reduceIte, abin, ki, decide_true, ARun_nil, dropE_c, inL_c, inL_n, beq_self_eq_true, cond_true, dropE_n, Int.reduceNeg, hget_n, Nat.reduceLeDiff, List.drop, List.take, Int.natCast_nonneg, cds_all, and_self, opt1, Int.toNat_natCast, g1, dB, Bool.not_true, ARun_some, AG_ff, Bool.not_false, blockQ, thenQ]) | subst hK))
    all_goals (refine end_q [] [] ?_ ?_ <;> repeat' (first | exact trivial | exact vr_val _))
  | true =>
    rw [p2] at r2 hcb
    (repeat' (first | (with_reducible first | refine thenQ_n ?_ | refine blockQ_n ?_ | refine thenQ_e ?_ | refine blockQ_t ?_ | refine blockQ_f (by decide) ?_) | apply aw_seq | apply aw_skip | apply aw_exit | apply aw_ret | apply aw_block | apply aw_condT rfl | apply aw_condF rfl | ((first | refine aw_hide fun K hK => aw_region ?_ | refine acall0 (r1) ?_ | refine acall0 (r2) ?_ | refine ago_if (by omega) ?_ | skip); simp (disch := first | exact okY | omega) only [List.length, Nat.zero_add, Nat.reduceAdd, Nat.reduceMul, dI, ARun_none, AOpRun, aexec, FSt.ev, St.F, eget_c, Nat.reduceBEq, ↓eget_h, cond_false, AGo_ok, St.app, putO, eput_c, eput_n, hups, List.map, Option.map, run1, hget_c, ↓hget_h, List.getElem?_cons_zero, cds_len, isSh, Bool.false_eq_true, ↓reduceIte, abin, ki, decide_true, ARun_nil, dropE_c, inL_c, inL_n, beq_self_eq_true, cond_true, dropE_n, Int.reduceNeg, hget_n, Nat.reduceLeDiff, List.drop, List.take, Int.natCast_nonneg, cds_all, and_self, opt1, Int.toNat_natCast, g1, dB, Bool.not_true, ARun_some, AG_ff, fits]) | subst hK))
    refine ⟨k + 1, ⟨by omega, hnx (by rw [hcb]; rfl)⟩, by omega, ?_⟩
    refine wk_q [] [(0, 0), (8, 8)] ?_ ?_ <;> repeat' (first | exact trivial | exact vr_val _ | exact vr_list _ | exact vr_ptr _ _ _ rfl | refine And.intro ⟨_, rfl, .inl ⟨_, rfl, by decide, ?_⟩⟩ ?_ | apply And.intro)
end Go.Proofs.Ytdcodicoclecnaa
/- Sorting that keeps the order of equals: by insertion, by merging; rotations. In lists; no conditions. -/
namespace Go.Proofs.Ytdcodicoclecnaa

abbrev Fd := Int × Int × Int
abbrev fk (x : Fd) : Int := x.2.1
def insS (x : Fd) : List Fd → List Fd
  | [] => [x]
  | y :: l => if fk x < fk y then x :: y :: l else y :: insS x l
def isrt (l : List Fd) : List Fd := l.foldl (fun s x => insS x s) []
def mrg : List Fd → List Fd → List Fd
  | [], b => b
  | x :: a, [] => x :: a
  | x :: a, y :: b => if fk y < fk x then y :: mrg (x :: a) b else x :: mrg a (y :: b)
termination_by a b => a.length + b.length
theorem mrg_nil (b : List Fd) : mrg [] b = b := by unfold mrg; rfl
theorem mrg_nil2 (a : List Fd) : mrg a [] = a := by cases a <;> simp [mrg]
theorem mrg_lt {x y : Fd} (a b : List Fd) (h : fk y < fk x) : mrg (x :: a) (y :: b) = y :: mrg (x :: a) b := by rw [mrg, if_pos h]
theorem mrg_ge {x y : Fd} (a b : List Fd) (h : ¬ fk y < fk x) : mrg (x :: a) (y :: b) = x :: mrg a (y :: b) := by rw [mrg, if_neg h]
theorem mrg_app : ∀ (n : Nat) (A1 A2 B1 B2 : List Fd), A1.length + B1.length = n → (∀ x ∈ A1, ∀ y ∈ B2, fk x ≤ fk y) → (∀ x ∈ A2, ∀ y ∈ B1, fk y < fk x) → mrg (A1 ++ A2) (B1 ++ B2) = mrg A1 B1 ++ mrg A2 B2
  | n, [], A2, [], B2, _, _, _ => by simp [mrg_nil]
  | n, [], [], y :: B1, B2, _, _, _ => by simp [mrg_nil]
  | n, [], x :: A2, y :: B1, B2, hn, h1, h2 => by
    have h := h2 x (List.mem_cons_self ..) y (List.mem_cons_self ..)
    have ih := mrg_app (n - 1) [] (x :: A2) B1 B2 (by simp at hn ⊢; omega) (by simp) (fun u hu v hv => h2 u hu v (List.mem_cons_of_mem _ hv))
    simp only [List.nil_append, List.cons_append, mrg_nil] at ih ⊢
    rw [mrg_lt _ _ h, ih]
  | n, x :: A1, A2, [], [], _, _, _ => by simp [mrg_nil2]
  | n, x :: A1, A2, [], y :: B2, hn, h1, h2 => by
    have h := h1 x (List.mem_cons_self ..) y (List.mem_cons_self ..)
    have ih := mrg_app (n - 1) A1 A2 [] (y :: B2) (by simp at hn ⊢; omega) (fun u hu v hv => h1 u (List.mem_cons_of_mem _ hu) v hv) (by simp)
    simp only [List.nil_append, List.cons_append, mrg_nil2] at ih ⊢
    rw [mrg_ge _ _ (by omega), ih]
  | n, x :: A1, A2, y :: B1, B2, hn, h1, h2 => by
    by_cases h : fk y < fk x
    · have ih := mrg_app (n - 1) (x :: A1) A2 B1 B2 (by simp at hn ⊢; omega) h1 (fun u hu v hv => h2 u hu v (List.mem_cons_of_mem _ hv))
      simp only [List.cons_append] at ih ⊢
      rw [mrg_lt _ _ h, mrg_lt _ _ h, ih]; rfl
    · have ih := mrg_app (n - 1) A1 A2 (y :: B1) B2 (by simp at hn ⊢; omega) (fun u hu v hv => h1 u (List.mem_cons_of_mem _ hu) v hv) h2
      simp only [List.cons_append] at ih ⊢
      rw [mrg_ge _ _ h, mrg_ge _ _ h, ih]; rfl
termination_by n => n
decreasing_by all_goals (simp at hn; omega)
theorem mrg_cut {A1 A2 B1 B2 : List Fd} (h1 : ∀ x ∈ A1, ∀ y ∈ B2, fk x ≤ fk y) (h2 : ∀ x ∈ A2, ∀ y ∈ B1, fk y < fk x) : mrg (A1 ++ A2) (B1 ++ B2) = mrg A1 B1 ++ mrg A2 B2 := mrg_app _ A1 A2 B1 B2 rfl h1 h2
theorem mrg_one {x : Fd} {B1 B2 : List Fd} (h1 : ∀ y ∈ B1, fk y < fk x) (h2 : ∀ y ∈ B2, fk x ≤ fk y) : mrg [x] (B1 ++ B2) = B1 ++ x :: B2 := by
  have e1 := mrg_cut (A1 := []) (A2 := [x]) (B1 := B1) (B2 := B2) (by simp) (by intro u hu; rw [List.mem_singleton.1 hu]; exact h1)
  have e2 := mrg_cut (A1 := [x]) (A2 := []) (B1 := []) (B2 := B2) (by intro u hu; rw [List.mem_singleton.1 hu]; exact h2) (by simp)
  simp only [List.nil_append, List.append_nil, mrg_nil, mrg_nil2] at e1 e2
  rw [e1, e2]; rfl
theorem mrg_one2 {y : Fd} {A1 A2 : List Fd} (h1 : ∀ x ∈ A1, fk x ≤ fk y) (h2 : ∀ x ∈ A2, fk y < fk x) : mrg (A1 ++ A2) [y] = A1 ++ y :: A2 := by
  have e1 := mrg_cut (A1 := A1) (A2 := A2) (B1 := [y]) (B2 := []) (by simp) (by intro u hu v hv; rw [List.mem_singleton.1 hv]; exact h2 u hu)
  have e2 := mrg_cut (A1 := A1) (A2 := []) (B1 := []) (B2 := [y]) (by intro u hu v hv; rw [List.mem_singleton.1 hv]; exact h1 u hu) (by simp)
  simp only [List.nil_append, List.append_nil, mrg_nil, mrg_nil2] at e1 e2
  rw [e1, e2]; simp
theorem mrg_len : ∀ (n : Nat) (A B : List Fd), A.length + B.length = n → (mrg A B).length = A.length + B.length
  | n, [], B, _ => by simp [mrg_nil]
  | n, x :: A, [], _ => by simp [mrg_nil2]
  | n, x :: A, y :: B, hn => by
    by_cases h : fk y < fk x
    · have ih := mrg_len (n - 1) (x :: A) B (by simp at hn ⊢; omega)
      rw [mrg_lt _ _ h]; simp only [List.length_cons] at ih ⊢; omega
    · have ih := mrg_len (n - 1) A (y :: B) (by simp at hn ⊢; omega)
      rw [mrg_ge _ _ h]; simp only [List.length_cons] at ih ⊢; omega
termination_by n => n
decreasing_by all_goals (simp at hn; omega)
theorem insS_lt {x y : Fd} (l : List Fd) (h : fk x < fk y) : insS x (y :: l) = x :: y :: l := if_pos h
theorem insS_ge {x y : Fd} (l : List Fd) (h : ¬ fk x < fk y) : insS x (y :: l) = y :: insS x l := if_neg h
theorem insS_hd (x b : Fd) (B : List Fd) : ∃ z C, insS x (b :: B) = z :: C ∧ (z = x ∧ fk x < fk b ∨ z = b) := by
  by_cases h : fk x < fk b
  · exact ⟨x, _, insS_lt _ h, .inl ⟨rfl, h⟩⟩
  · exact ⟨b, _, insS_ge _ h, .inr rfl⟩
theorem mrg_ins (x : Fd) : ∀ (n : Nat) (A B : List Fd), A.length + B.length = n → insS x (mrg A B) = mrg A (insS x B)
  | n, [], B, _ => by simp [mrg_nil]
  | n, a :: A, [], hn => by
    have ih := mrg_ins x (n - 1) A [] (by simp at hn ⊢; omega)
    rw [mrg_nil2] at ih ⊢
    show insS x (a :: A) = mrg (a :: A) [x]
    by_cases h : fk x < fk a
    · rw [insS_lt _ h, mrg_lt _ _ h, mrg_nil2]
    · rw [insS_ge _ h, mrg_ge _ _ h, ih]; rfl
  | n, a :: A, b :: B, hn => by
    by_cases h : fk b < fk a
    · have ih := mrg_ins x (n - 1) (a :: A) B (by simp at hn ⊢; omega)
      rw [mrg_lt _ _ h]
      by_cases h1 : fk x < fk b
      · rw [insS_lt _ h1, insS_lt _ h1, mrg_lt _ _ (by omega), mrg_lt _ _ h]
      · rw [insS_ge _ h1, insS_ge _ h1, mrg_lt _ _ h, ih]
    · have ih := mrg_ins x (n - 1) A (b :: B) (by simp at hn ⊢; omega)
      rw [mrg_ge _ _ h]
      by_cases h1 : fk x < fk a
      · rw [insS_lt _ h1, insS_lt _ (by omega), mrg_lt _ _ h1, mrg_ge _ _ h]
      · rw [insS_ge _ h1, ih]
        obtain ⟨z, C, e, hz⟩ := insS_hd x b B
        rw [e, mrg_ge]
        rcases hz with ⟨rfl, _⟩ | rfl <;> omega
termination_by n => n
decreasing_by all_goals (simp at hn; omega)
theorem isrt_snoc (l : List Fd) (x : Fd) : isrt (l ++ [x]) = insS x (isrt l) := by simp [isrt]
theorem isrt_app (A : List Fd) : ∀ (n : Nat) (B : List Fd), B.length = n → isrt (A ++ B) = mrg (isrt A) (isrt B)
  | 0, B, h => by
    obtain rfl := List.length_eq_zero_iff.1 h
    simp [isrt, mrg_nil2]
  | n + 1, B, h => by
    have hne : B ≠ [] := by rintro rfl; simp at h
    obtain ⟨C, x, rfl⟩ : ∃ C x, B = C ++ [x] := ⟨B.dropLast, B.getLast hne, (List.dropLast_concat_getLast hne).symm⟩
    have ih := isrt_app A n C (by simp at h; omega)
    rw [← List.append_assoc, isrt_snoc, isrt_snoc, ih, mrg_ins x _ _ _ rfl]
theorem insS_len (x : Fd) : ∀ l : List Fd, (insS x l).length = l.length + 1
  | [] => rfl
  | y :: l => by
    have ih := insS_len x l
    by_cases h : fk x < fk y
    · rw [insS_lt _ h]; simp
    · rw [insS_ge _ h]; simp [ih]
theorem isrt_len : ∀ (n : Nat) (l : List Fd), l.length = n → (isrt l).length = l.length
  | 0, l, h => by
    obtain rfl := List.length_eq_zero_iff.1 h
    rfl
  | n + 1, l, h => by
    have hne : l ≠ [] := by rintro rfl; simp at h
    obtain ⟨C, x, rfl⟩ : ∃ C x, l = C ++ [x] := ⟨l.dropLast, l.getLast hne, (List.dropLast_concat_getLast hne).symm⟩
    rw [isrt_snoc, insS_len, isrt_len n C (by simp at h; omega)]; simp
def Srt (l : List Fd) : Prop := l.Pairwise fun x y => fk x ≤ fk y
theorem insS_mem {x z : Fd} : ∀ {l : List Fd}, z ∈ insS x l → z = x ∨ z ∈ l
  | [], h => by simp [insS] at h; exact .inl h
  | y :: l, h => by
    by_cases hc : fk x < fk y
    · rw [insS_lt _ hc] at h; simpa using h
    · rw [insS_ge _ hc] at h
      rcases List.mem_cons.1 h with h | h
      · exact .inr (h ▸ List.mem_cons_self ..)
      · exact (insS_mem h).imp id (List.mem_cons_of_mem _)
theorem insS_srt (x : Fd) : ∀ {l : List Fd}, Srt l → Srt (insS x l)
  | [], _ => by simp [Srt, insS]
  | y :: l, h => by
    obtain ⟨h1, h2⟩ := List.pairwise_cons.1 h
    by_cases hc : fk x < fk y
    · rw [insS_lt _ hc]
      refine List.pairwise_cons.2 ⟨fun z hz => ?_, h⟩
      rcases List.mem_cons.1 hz with rfl | hz
      · omega
      · have := h1 z hz; omega
    · rw [insS_ge _ hc]
      refine List.pairwise_cons.2 ⟨fun z hz => ?_, insS_srt x h2⟩
      rcases insS_mem hz with rfl | hz
      · omega
      · exact h1 z hz
theorem isrt_srt : ∀ (n : Nat) (l : List Fd), l.length = n → Srt (isrt l)
  | 0, l, h => by
    obtain rfl := List.length_eq_zero_iff.1 h
    exact List.Pairwise.nil
  | n + 1, l, h => by
    have hne : l ≠ [] := by rintro rfl; simp at h
    obtain ⟨C, x, rfl⟩ : ∃ C x, l = C ++ [x] := ⟨l.dropLast, l.getLast hne, (List.dropLast_concat_getLast hne).symm⟩
    rw [isrt_snoc]
    exact insS_srt x (isrt_srt n C (by simp at h; omega))
def fat (l : List Fd) (i : Nat) : Fd := l[i]?.getD (0, 0, 0)
theorem fat_at {l : List Fd} {i : Nat} (h : i < l.length) : fat l i = l[i] := by simp [fat, h]
theorem Srt.le {l : List Fd} (h : Srt l) {i j : Nat} (hij : i ≤ j) (hj : j < l.length) : fk (fat l i) ≤ fk (fat l j) := by
  rcases Nat.lt_or_eq_of_le hij with h1 | h1
  · rw [fat_at hj, fat_at (by omega)]
    exact List.pairwise_iff_getElem.1 h i j (by omega) hj h1
  · rw [h1]; exact Int.le_refl _
/-! ### one sorted into the sorted ones ahead of it, by exchanges -/
def swp (l : List Fd) (i j : Nat) : List Fd := (l.set i (fat l j)).set j (fat l i)
theorem swp_two (P Q R : List Fd) (x z : Fd) : swp (P ++ x :: (Q ++ z :: R)) P.length (P.length + 1 + Q.length) = P ++ z :: (Q ++ x :: R) := by
  have h1 : fat (P ++ x :: (Q ++ z :: R)) P.length = x := by simp [fat]
  have h2 : fat (P ++ x :: (Q ++ z :: R)) (P.length + 1 + Q.length) = z := by
    unfold fat
    rw [List.getElem?_append_right (by omega), show P.length + 1 + Q.length - P.length = Q.length + 1 by omega, List.getElem?_cons_succ, List.getElem?_append_right (by omega)]
    simp
  unfold swp
  rw [h1, h2, List.set_append_right _ _ (by omega), Nat.sub_self, List.set_cons_zero, List.set_append_right _ _ (by omega), show P.length + 1 + Q.length - P.length = Q.length + 1 by omega, List.set_cons_succ, List.set_append_right _ _ (by omega)]
  simp
theorem swp_comm (l : List Fd) (i j : Nat) (hij : i ≠ j) : swp l i j = swp l j i := by
  unfold swp
  exact List.set_comm _ _ hij
theorem swp_next (P R : List Fd) (x z : Fd) : swp (P ++ x :: z :: R) P.length (P.length + 1) = P ++ z :: x :: R := swp_two P [] R x z
def srI (pre X Y Z post : List Fd) (i : Nat) : List Fd := pre ++ (Z.take i ++ (X.drop i ++ (Y ++ (X.take i ++ (Z.drop i ++ post)))))
theorem srI_len (pre X Y Z post : List Fd) (i : Nat) (h : X.length = Z.length) (hi : i ≤ X.length) : (srI pre X Y Z post i).length = pre.length + X.length + Y.length + Z.length + post.length := by
  simp [srI]; omega
theorem srI_next (pre X Y Z post : List Fd) (i : Nat) (h : X.length = Z.length) (hi : i < X.length) : swp (srI pre X Y Z post i) (pre.length + i) (pre.length + X.length + Y.length + i) = srI pre X Y Z post (i + 1) := by
  have e1 : X.drop i = X[i] :: X.drop (i + 1) := (List.drop_eq_getElem_cons hi)
  have e2 : Z.drop i = Z[i] :: Z.drop (i + 1) := (List.drop_eq_getElem_cons (by omega))
  have e3 : X.take (i + 1) = X.take i ++ [X[i]] := (List.take_append_getElem hi).symm
  have e4 : Z.take (i + 1) = Z.take i ++ [Z[i]] := (List.take_append_getElem (by omega)).symm
  have hs := swp_two (pre ++ Z.take i) (X.drop (i + 1) ++ (Y ++ X.take i)) (Z.drop (i + 1) ++ post) X[i] Z[i]
  have l1 : (pre ++ Z.take i).length = pre.length + i := by simp; omega
  have l2 : (X.drop (i + 1) ++ (Y ++ X.take i)).length = X.length - (i + 1) + Y.length + i := by simp; omega
  rw [l1, l2] at hs
  unfold srI
  rw [e1, e2, e3, e4]
  rw [show pre.length + X.length + Y.length + i = pre.length + i + 1 + (X.length - (i + 1) + Y.length + i) by omega]
  simp only [List.append_assoc, List.cons_append, List.nil_append] at hs ⊢
  exact hs
theorem srI_zero (pre X Y Z post : List Fd) : srI pre X Y Z post 0 = pre ++ (X ++ (Y ++ (Z ++ post))) := by simp [srI]
theorem srI_end (pre X Y Z post : List Fd) (h : X.length = Z.length) : srI pre X Y Z post X.length = pre ++ (Z ++ (Y ++ (X ++ post))) := by
  unfold srI
  rw [show Z.take X.length = Z by rw [h]; simp, show Z.drop X.length = [] by rw [h]; simp]
  simp
end Go.Proofs.Ytdcodicoclecnaa
/- Sorting in blocks that are merged: levels; and turning a stretch. In lists; no conditions. -/
namespace Go.Proofs.Ytdcodicoclecnaa

def levN (s : Nat) : Nat → List Fd → List Fd
  | 0, L => isrt L
  | f + 1, L => if L.length ≤ s then isrt L else isrt (L.take s) ++ levN s f (L.drop s)
theorem levN_more (s : Nat) (hs : 0 < s) : ∀ (f g : Nat) (L : List Fd), L.length ≤ f → L.length ≤ g → levN s f L = levN s g L
  | 0, 0, L, _, _ => rfl
  | 0, g + 1, L, h, _ => by
    show isrt L = if L.length ≤ s then _ else _
    rw [if_pos (by omega)]
  | f + 1, 0, L, _, h => by
    show (if L.length ≤ s then _ else _) = isrt L
    rw [if_pos (by omega)]
  | f + 1, g + 1, L, h1, h2 => by
    show (if L.length ≤ s then _ else _) = (if L.length ≤ s then _ else _)
    by_cases h : L.length ≤ s
    · rw [if_pos h, if_pos h]
    · rw [if_neg h, if_neg h, levN_more s hs f g (L.drop s) (by simp; omega) (by simp; omega)]
def lev (s : Nat) (L : List Fd) : List Fd := levN s L.length L
theorem lev_small {s : Nat} {L : List Fd} (h : L.length ≤ s) : lev s L = isrt L := by
  unfold lev
  cases hl : L.length with
  | zero => rfl
  | succ n =>
    show (if L.length ≤ s then _ else _) = _
    rw [if_pos h]
theorem isrt_nil : isrt [] = [] := rfl
theorem lev_cut {s : Nat} (hs : 0 < s) {L : List Fd} (h : s ≤ L.length) : lev s L = isrt (L.take s) ++ lev s (L.drop s) := by
  by_cases h1 : L.length = s
  · rw [lev_small (by omega), lev_small (s := s) (L := L.drop s) (by simp; omega)]
    rw [List.take_of_length_le (by omega), List.drop_eq_nil_of_le (by omega), isrt_nil, List.append_nil]
  · unfold lev
    have : L.length = (L.length - 1) + 1 := by omega
    rw [this]
    show (if L.length ≤ s then _ else _) = _
    rw [if_neg (by omega), levN_more s hs (L.length - 1) (L.drop s).length (L.drop s) (by simp; omega) (by omega)]
theorem lev_len (s : Nat) (hs : 0 < s) : ∀ (n : Nat) (L : List Fd), L.length = n → (lev s L).length = L.length := by
  intro n
  induction n using Nat.strongRecOn with
  | _ n ih =>
    intro L hL
    by_cases h : L.length ≤ s
    · rw [lev_small h, isrt_len _ L rfl]
    · rw [lev_cut hs (by omega), List.length_append, isrt_len _ _ rfl, ih (L.drop s).length (by simp; omega) (L.drop s) rfl]
      simp; omega
theorem isrt_two (A B : List Fd) : mrg (isrt A) (isrt B) = isrt (A ++ B) := (isrt_app A _ B rfl).symm
theorem lev_two {s : Nat} (hs : 0 < s) {R : List Fd} (h : 2 * s ≤ R.length) : lev s R = isrt (R.take s) ++ (isrt ((R.drop s).take s) ++ lev s (R.drop (2 * s))) ∧ lev (2 * s) R = mrg (isrt (R.take s)) (isrt ((R.drop s).take s)) ++ lev (2 * s) (R.drop (2 * s)) := by
  constructor
  · rw [lev_cut hs (by omega), lev_cut (L := R.drop s) hs (by simp; omega), List.drop_drop, show s + s = 2 * s by omega]
  · rw [lev_cut (s := 2 * s) (by omega) h, isrt_two]
    congr 2
    rw [show 2 * s = s + s by omega, List.take_add]
theorem lev_last {s : Nat} (hs : 0 < s) {R : List Fd} (h1 : s < R.length) (h2 : R.length ≤ 2 * s) : lev s R = isrt (R.take s) ++ isrt (R.drop s) ∧ lev (2 * s) R = mrg (isrt (R.take s)) (isrt (R.drop s)) := by
  constructor
  · rw [lev_cut hs (by omega), lev_small (L := R.drop s) (by simp; omega)]
  · rw [lev_small h2, isrt_two, List.take_append_drop]
theorem insS_at (x : Fd) : ∀ (S1 S2 : List Fd), (∀ y ∈ S1, ¬ fk x < fk y) → (∀ z ∈ S2.head?, fk x < fk z) → insS x (S1 ++ S2) = S1 ++ x :: S2
  | [], [], _, _ => rfl
  | [], z :: S2, _, h => insS_lt _ (h z rfl)
  | y :: S1, S2, h1, h2 => by
    have ih := insS_at x S1 S2 (fun u hu => h1 u (List.mem_cons_of_mem _ hu)) h2
    show insS x (y :: (S1 ++ S2)) = _
    rw [insS_ge _ (h1 y (List.mem_cons_self ..)), ih]; rfl
def bub (P S : List Fd) (x : Fd) (R : List Fd) (j : Nat) : List Fd := P ++ (S.take j ++ x :: (S.drop j ++ R))
theorem bub_len (P S : List Fd) (x : Fd) (R : List Fd) (j : Nat) : (bub P S x R j).length = P.length + S.length + 1 + R.length := by
  simp [bub]; omega
theorem bub_top (P S : List Fd) (x : Fd) (R : List Fd) : bub P S x R S.length = P ++ (S ++ x :: R) := by simp [bub]
theorem bub_at (P S : List Fd) (x : Fd) (R : List Fd) (j : Nat) (hj : j < S.length) : fat (bub P S x R (j + 1)) (P.length + (j + 1)) = x ∧ fat (bub P S x R (j + 1)) (P.length + j) = fat S j := by
  have l1 : (S.take (j + 1)).length = j + 1 := by simp; omega
  unfold fat bub
  constructor
  · rw [List.getElem?_append_right (by omega), show P.length + (j + 1) - P.length = j + 1 by omega, List.getElem?_append_right (by omega), l1]
    simp
  · rw [List.getElem?_append_right (by omega), show P.length + j - P.length = j by omega, List.getElem?_append_left (by omega), List.getElem?_take_of_lt (by omega)]
theorem bub_next (P S : List Fd) (x : Fd) (R : List Fd) (j : Nat) (hj : j < S.length) : swp (bub P S x R (j + 1)) (P.length + (j + 1)) (P.length + j) = bub P S x R j := by
  have e1 : S.drop j = S[j] :: S.drop (j + 1) := List.drop_eq_getElem_cons hj
  have e2 : S.take (j + 1) = S.take j ++ [S[j]] := (List.take_append_getElem hj).symm
  have hs := swp_next (P ++ S.take j) (S.drop (j + 1) ++ R) S[j] x
  have l1 : (P ++ S.take j).length = P.length + j := by simp; omega
  rw [l1] at hs
  rw [swp_comm _ _ _ (by omega)]
  unfold bub
  rw [e1, e2]
  rw [show P.length + (j + 1) = P.length + j + 1 by omega]
  simp only [List.append_assoc, List.cons_append, List.nil_append] at hs ⊢
  exact hs
theorem bub_end (P S : List Fd) (x : Fd) (R : List Fd) (j : Nat) (hS : Srt S) (hj : j ≤ S.length) (h1 : j = 0 ∨ ¬ fk x < fk (fat S (j - 1))) (h2 : ∀ i, j ≤ i → i < S.length → fk x < fk (fat S i)) : bub P S x R j = P ++ (insS x S ++ R) := by
  have e : insS x S = S.take j ++ x :: S.drop j := by
    have := insS_at x (S.take j) (S.drop j) (fun y hy => by
      obtain ⟨i, hi, rfl⟩ := List.getElem_of_mem hy
      have hi2 : i < j := by simp at hi; omega
      have hle := hS.le (i := i) (j := j - 1) (by omega) (by omega)
      rw [fat_at (by omega)] at hle
      rw [List.getElem_take]
      rcases h1 with h1 | h1 <;> omega) (fun z hz => by
      by_cases hjl : j < S.length
      · have hh := h2 j (Nat.le_refl _) hjl
        rw [List.drop_eq_getElem_cons hjl] at hz
        simp only [List.head?_cons, Option.mem_some_iff] at hz
        rw [fat_at hjl, hz] at hh
        exact hh
      · rw [List.drop_eq_nil_of_le (by omega)] at hz
        simp at hz)
    rwa [List.take_append_drop] at this
  unfold bub
  rw [e]; simp
end Go.Proofs.Ytdcodicoclecnaa
/- The functions' bodies, translated. Written by a program; no conditions. -/
namespace Go.Proofs.Ytdcodicoclecnaa
open Go.RowKit Lift

def cslices_SortStableFunc_L_L_Japi_Found_Kapi_Found_J : ACode :=
 (.region false [⟨some 4, .mv (.tmp 0), none, []⟩,
 ⟨some 5, .mv (.tmp 0), none, []⟩,
 ⟨some 6, .len_ (.tmp 5), none, []⟩,
 ⟨some 7, .mv (.tmp 1), none, []⟩,
 ⟨some 8, .call (.func 142) [(.tmp 4), (.tmp 6), (.tmp 7)], none, []⟩] [4, 5, 6, 7, 8])
set_option maxRecDepth 100000 in
theorem kslices_SortStableFunc_L_L_Japi_Found_Kapi_Found_J : IsCode Try.prog 107 9 cslices_SortStableFunc_L_L_Japi_Found_Kapi_Found_J [] :=
 ⟨Try.f107, _, [0, 1], Try.func107, rfl, by decide, rfl, by kernel_rfl, by kernel_rfl⟩
def cslices_stableCmpFunc_Lapi_Found_J : ACode :=
 (.seq
 (.region false [⟨some 6, .mv (.const (.int .i64 20)), none, []⟩] [])
 (.seq
 (.region false [⟨some 10, .mv (.tmp 6), none, []⟩,
 ⟨some 7, .mv (.const (.int .i64 0)), none, []⟩,
 ⟨some 8, .mv (.tmp 10), none, []⟩] [10])
 (.seq
 (.block 0
 (.loop
 (.seq
 (.seq
 (.region false [⟨some 11, .mv (.tmp 8), none, []⟩,
 ⟨some 12, .mv (.tmp 1), none, []⟩,
 ⟨some 13, .bin .leq (.tmp 11) (.tmp 12), none, []⟩] [11, 12])
 (.cond (.tmp 13)
 .skip
 (.exit 0)))
 (.block 1
 (.seq
 (.region false [⟨some 14, .mv (.tmp 0), none, []⟩,
 ⟨some 15, .mv (.tmp 7), none, []⟩,
 ⟨some 16, .mv (.tmp 8), none, []⟩,
 ⟨some 17, .mv (.tmp 2), none, []⟩,
 ⟨some 18, .call (.func 156) [(.tmp 14), (.tmp 15), (.tmp 16), (.tmp 17)], none, []⟩] [14, 15, 16, 17, 18])
 (.seq
 (.region false [⟨some 19, .mv (.tmp 8), none, []⟩,
 ⟨some 7, .mv (.tmp 19), none, []⟩] [19])
 (.region false [⟨some 20, .mv (.tmp 8), none, []⟩,
 ⟨some 21, .mv (.tmp 6), none, []⟩,
 ⟨some 22, .bin .add (.tmp 20) (.tmp 21), none, []⟩,
 ⟨some 8, .mv (.tmp 22), none, []⟩] [20, 21, 22])))))))
 (.seq
 (.region false [⟨some 23, .mv (.tmp 0), none, []⟩,
 ⟨some 24, .mv (.tmp 7), none, []⟩,
 ⟨some 25, .mv (.tmp 1), none, []⟩,
 ⟨some 26, .mv (.tmp 2), none, []⟩,
 ⟨some 27, .call (.func 156) [(.tmp 23), (.tmp 24), (.tmp 25), (.tmp 26)], none, []⟩] [23, 24, 25, 26, 27])
 (.block 2
 (.loop
 (.seq
 (.seq
 (.region false [⟨some 28, .mv (.tmp 6), none, []⟩,
 ⟨some 29, .mv (.tmp 1), none, []⟩,
 ⟨some 30, .bin .lss (.tmp 28) (.tmp 29), none, []⟩] [28, 29])
 (.cond (.tmp 30)
 .skip
 (.exit 2)))
 (.block 3
 (.seq
 (.region false [⟨some 31, .mv (.tmp 6), none, []⟩,
 ⟨some 32, .bin .mul (.const (.int .i64 2)) (.tmp 31), none, []⟩,
 ⟨some 7, .mv (.const (.int .i64 0)), none, []⟩,
 ⟨some 8, .mv (.tmp 32), none, []⟩] [31, 32])
 (.seq
 (.block 4
 (.loop
 (.seq
 (.seq
 (.region false [⟨some 33, .mv (.tmp 8), none, []⟩,
 ⟨some 34, .mv (.tmp 1), none, []⟩,
 ⟨some 35, .bin .leq (.tmp 33) (.tmp 34), none, []⟩] [33, 34])
 (.cond (.tmp 35)
 .skip
 (.exit 4)))
 (.block 5
 (.seq
 (.region false [⟨some 36, .mv (.tmp 0), none, []⟩,
 ⟨some 37, .mv (.tmp 7), none, []⟩,
 ⟨some 38, .mv (.tmp 7), none, []⟩,
 ⟨some 39, .mv (.tmp 6), none, []⟩,
 ⟨some 40, .bin .add (.tmp 38) (.tmp 39), none, []⟩,
 ⟨some 41, .mv (.tmp 8), none, []⟩,
 ⟨some 42, .mv (.tmp 2), none, []⟩,
 ⟨some 43, .call (.func 157) [(.tmp 36), (.tmp 37), (.tmp 40), (.tmp 41), (.tmp 42)], none, []⟩] [36, 37, 38, 39, 40, 41, 42, 43])
 (.seq
 (.region false [⟨some 44, .mv (.tmp 8), none, []⟩,
 ⟨some 7, .mv (.tmp 44), none, []⟩] [44])
 (.region false [⟨some 45, .mv (.tmp 8), none, []⟩,
 ⟨some 46, .mv (.tmp 6), none, []⟩,
 ⟨some 47, .bin .mul (.const (.int .i64 2)) (.tmp 46), none, []⟩,
 ⟨some 48, .bin .add (.tmp 45) (.tmp 47), none, []⟩,
 ⟨some 8, .mv (.tmp 48), none, []⟩] [45, 46, 47, 48])))))))
 (.seq
 (.seq
 (.region false [⟨some 49, .mv (.tmp 7), none, []⟩,
 ⟨some 50, .mv (.tmp 6), none, []⟩,
 ⟨some 51, .bin .add (.tmp 49) (.tmp 50), none, []⟩,
 ⟨some 9, .mv (.tmp 51), none, []⟩] [49, 50, 51])
 (.seq
 (.region false [⟨some 52, .mv (.tmp 9), none, []⟩,
 ⟨some 53, .mv (.tmp 1), none, []⟩,
 ⟨some 54, .bin .lss (.tmp 52) (.tmp 53), none, []⟩] [52, 53])
 (.cond (.tmp 54)
 (.region false [⟨some 55, .mv (.tmp 0), none, []⟩,
 ⟨some 56, .mv (.tmp 7), none, []⟩,
 ⟨some 57, .mv (.tmp 9), none, []⟩,
 ⟨some 58, .mv (.tmp 1), none, []⟩,
 ⟨some 59, .mv (.tmp 2), none, []⟩,
 ⟨some 60, .call (.func 157) [(.tmp 55), (.tmp 56), (.tmp 57), (.tmp 58), (.tmp 59)], none, []⟩] [55, 56, 57, 58, 59, 60])
 .skip)))
 (.region false [⟨some 61, .mv (.tmp 6), none, []⟩,
 ⟨some 62, .bin .mul (.tmp 61) (.const (.int .i64 2)), none, []⟩,
 ⟨some 6, .mv (.tmp 62), none, []⟩] [61, 62]))))))))))))
set_option maxRecDepth 100000 in
theorem kslices_stableCmpFunc_Lapi_Found_J : IsCode Try.prog 142 63 cslices_stableCmpFunc_Lapi_Found_J [] :=
 ⟨Try.f142, _, [54, 35, 30, 13, 6, 8, 1, 0, 7, 2, 9], Try.func142, rfl, by decide, rfl, by kernel_rfl, by kernel_rfl⟩
def cslices_insertionSortCmpFunc_Lapi_Found_J : ACode :=
 (.seq
 (.region false [⟨some 10, .mv (.tmp 1), none, []⟩,
 ⟨some 11, .bin .add (.tmp 10) (.const (.int .i64 1)), none, []⟩,
 ⟨some 8, .mv (.tmp 11), none, []⟩] [10, 11])
 (.block 0
 (.loop
 (.seq
 (.seq
 (.region false [⟨some 12, .mv (.tmp 8), none, []⟩,
 ⟨some 13, .mv (.tmp 2), none, []⟩,
 ⟨some 14, .bin .lss (.tmp 12) (.tmp 13), none, []⟩] [12, 13])
 (.cond (.tmp 14)
 .skip
 (.exit 0)))
 (.seq
 (.block 1
 (.seq
 (.region false [⟨some 17, .mv (.tmp 8), none, []⟩,
 ⟨some 9, .mv (.tmp 17), none, []⟩] [17])
 (.block 2
 (.loop
 (.seq
 (.seq
 (.region true [⟨some 18, .mv (.tmp 9), none, []⟩,
 ⟨some 19, .mv (.tmp 1), none, []⟩,
 ⟨some 20, .bin .gtr (.tmp 18) (.tmp 19), none, [0, 1]⟩,
 ⟨some 21, .mv (.tmp 20), none, [2, 0, 1]⟩,
 ⟨some 22, .mv (.tmp 3), (some (some 21, true)), [3, 2, 0, 1]⟩,
 ⟨some 23, .mv (.tmp 0), (some (some 21, true)), [3, 2, 0, 1]⟩,
 ⟨some 24, .mv (.tmp 9), (some (some 21, true)), [3, 2, 0, 1]⟩,
 ⟨some 25, .iadS 3 (.tmp 23) (.tmp 24), (some (some 21, true)), [5, 3, 2, 0, 1, 6]⟩,
 ⟨some 26, .loadN 3 (.tmp 25), (some (some 21, true)), [7, 5, 3, 2, 0, 1, 6]⟩,
 ⟨some 27, .mv (.tmp 0), (some (some 21, true)), [3, 2, 0, 1]⟩,
 ⟨some 28, .mv (.tmp 9), (some (some 21, true)), [3, 2, 0, 1]⟩,
 ⟨some 29, .bin .sub (.tmp 28) (.const (.int .i64 1)), (some (some 21, true)), [10, 3, 2, 0, 1]⟩,
 ⟨some 30, .iadS 3 (.tmp 27) (.tmp 29), (some (some 21, true)), [9, 3, 2, 0, 1, 11, 10]⟩,
 ⟨some 31, .loadN 3 (.tmp 30), (some (some 21, true)), [12, 9, 3, 2, 0, 1, 11, 10]⟩,
 ⟨some 32, .call (.tmp 22) [(.tmp 26), (.tmp 31)], (some (some 21, true)), [4, 3, 2, 0, 1, 8, 7, 5, 6, 13, 12, 9, 11, 10]⟩,
 ⟨some 33, .bin .lss (.tmp 32) (.const (.int .i64 0)), (some (some 21, true)), [14, 4, 3, 2, 0, 1, 8, 7, 5, 6, 13, 12, 9, 11, 10]⟩,
 ⟨some 34, .pick (.tmp 21) (.tmp 33) (.const (.bool false)), none, [3, 2, 0, 1, 15, 14, 4, 8, 7, 5, 6, 13, 12, 9, 11, 10]⟩] [18, 19, 20, 21, 22, 23, 24, 25, 26, 27, 28, 29, 30, 31, 32, 33])
 (.cond (.tmp 34)
 .skip
 (.exit 2)))
 (.seq
 (.block 3
 (.region true [⟨some 37, .mv (.tmp 0), none, []⟩,
 ⟨some 38, .mv (.tmp 9), none, []⟩,
 ⟨some 39, .mv (.tmp 0), none, []⟩,
 ⟨some 40, .mv (.tmp 9), none, []⟩,
 ⟨some 41, .bin .sub (.tmp 40) (.const (.int .i64 1)), none, [3]⟩,
 ⟨some 42, .mv (.tmp 0), none, []⟩,
 ⟨some 43, .mv (.tmp 9), none, []⟩,
 ⟨some 44, .bin .sub (.tmp 43) (.const (.int .i64 1)), none, [6]⟩,
 ⟨some 45, .iadS 3 (.tmp 42) (.tmp 44), none, [5, 7, 6]⟩,
 ⟨some 46, .loadN 3 (.tmp 45), none, [8, 5, 7, 6]⟩,
 ⟨some 47, .mv (.tmp 0), none, []⟩,
 ⟨some 48, .mv (.tmp 9), none, []⟩,
 ⟨some 49, .iadS 3 (.tmp 47) (.tmp 48), none, [10, 11]⟩,
 ⟨some 50, .loadN 3 (.tmp 49), none, [12, 10, 11]⟩,
 ⟨some 51, .iadS 3 (.tmp 37) (.tmp 38), none, [0, 1, 5, 6, 7, 8, 9, 13, 12, 10, 11]⟩,
 ⟨none, .store 3 (.tmp 51) (.tmp 46), none, [14, 0, 1, 5, 6, 7, 8, 9, 13, 12, 10, 11]⟩,
 ⟨some 52, .iadS 3 (.tmp 39) (.tmp 41), none, [2, 4, 3, 0, 1, 5, 6, 7, 8, 9, 10, 11, 12, 13, 14, 15]⟩,
 ⟨none, .store 3 (.tmp 52) (.tmp 50), none, [16, 2, 4, 3, 0, 1, 5, 6, 7, 8, 9, 10, 11, 12, 13, 14, 15]⟩] [37, 38, 39, 40, 41, 42, 43, 44, 45, 46, 47, 48, 49, 50, 51, 52]))
 (.region false [⟨some 35, .mv (.tmp 9), none, []⟩,
 ⟨some 36, .bin .sub (.tmp 35) (.const (.int .i64 1)), none, []⟩,
 ⟨some 9, .mv (.tmp 36), none, []⟩] [35, 36])))))))
 (.region false [⟨some 15, .mv (.tmp 8), none, []⟩,
 ⟨some 16, .bin .add (.tmp 15) (.const (.int .i64 1)), none, []⟩,
 ⟨some 8, .mv (.tmp 16), none, []⟩] [15, 16]))))))
set_option maxRecDepth 100000 in
theorem kslices_insertionSortCmpFunc_Lapi_Found_J : IsCode Try.prog 156 53 cslices_insertionSortCmpFunc_Lapi_Found_J [] :=
 ⟨Try.f156, _, [34, 14, 1, 8, 2, 9, 3, 0], Try.func156, rfl, by decide, rfl, by kernel_rfl, by kernel_rfl⟩
def cslices_symMergeCmpFunc_Lapi_Found_J : ACode :=
 (.seq
 (.seq
 (.region false [⟨some 25, .mv (.tmp 2), none, []⟩,
 ⟨some 26, .mv (.tmp 1), none, []⟩,
 ⟨some 27, .bin .sub (.tmp 25) (.tmp 26), none, []⟩,
 ⟨some 28, .bin .eql (.tmp 27) (.const (.int .i64 1)), none, []⟩] [25, 26, 27])
 (.cond (.tmp 28)
 (.seq
 (.region false [⟨some 29, .mv (.tmp 2), none, []⟩,
 ⟨some 10, .mv (.tmp 29), none, []⟩] [29])
 (.seq
 (.region false [⟨some 30, .mv (.tmp 3), none, []⟩,
 ⟨some 11, .mv (.tmp 30), none, []⟩] [30])
 (.seq
 (.block 0
 (.loop
 (.seq
 (.seq
 (.region false [⟨some 31, .mv (.tmp 10), none, []⟩,
 ⟨some 32, .mv (.tmp 11), none, []⟩,
 ⟨some 33, .bin .lss (.tmp 31) (.tmp 32), none, []⟩] [31, 32])
 (.cond (.tmp 33)
 .skip
 (.exit 0)))
 (.block 1
 (.seq
 (.region false [⟨some 34, .mv (.tmp 10), none, []⟩,
 ⟨some 35, .mv (.tmp 11), none, []⟩,
 ⟨some 36, .bin .add (.tmp 34) (.tmp 35), none, []⟩,
 ⟨some 37, .conv .u64 (.tmp 36), none, []⟩,
 ⟨some 38, .bin .shr (.tmp 37) (.const (.int .u64 1)), none, []⟩,
 ⟨some 39, .conv .i64 (.tmp 38), none, []⟩,
 ⟨some 12, .mv (.tmp 39), none, []⟩] [34, 35, 36, 37, 38, 39])
 (.seq
 (.region true [⟨some 40, .mv (.tmp 4), none, []⟩,
 ⟨some 41, .mv (.tmp 0), none, []⟩,
 ⟨some 42, .mv (.tmp 12), none, []⟩,
 ⟨some 43, .iadS 3 (.tmp 41) (.tmp 42), none, [1, 2]⟩,
 ⟨some 44, .loadN 3 (.tmp 43), none, [3, 1, 2]⟩,
 ⟨some 45, .mv (.tmp 0), none, []⟩,
 ⟨some 46, .mv (.tmp 1), none, []⟩,
 ⟨some 47, .iadS 3 (.tmp 45) (.tmp 46), none, [5, 6]⟩,
 ⟨some 48, .loadN 3 (.tmp 47), none, [7, 5, 6]⟩,
 ⟨some 49, .call (.tmp 40) [(.tmp 44), (.tmp 48)], none, [0, 4, 3, 1, 2, 8, 7, 5, 6]⟩,
 ⟨some 50, .bin .lss (.tmp 49) (.const (.int .i64 0)), none, [9, 0, 4, 3, 1, 2, 8, 7, 5, 6]⟩] [40, 41, 42, 43, 44, 45, 46, 47, 48, 49])
 (.cond (.tmp 50)
 (.region false [⟨some 51, .mv (.tmp 12), none, []⟩,
 ⟨some 52, .bin .add (.tmp 51) (.const (.int .i64 1)), none, []⟩,
 ⟨some 10, .mv (.tmp 52), none, []⟩] [51, 52])
 (.region false [⟨some 53, .mv (.tmp 12), none, []⟩,
 ⟨some 11, .mv (.tmp 53), none, []⟩] [53]))))))))
 (.seq
 (.seq
 (.region false [⟨some 54, .mv (.tmp 1), none, []⟩,
 ⟨some 13, .mv (.tmp 54), none, []⟩] [54])
 (.block 2
 (.loop
 (.seq
 (.seq
 (.region false [⟨some 55, .mv (.tmp 13), none, []⟩,
 ⟨some 56, .mv (.tmp 10), none, []⟩,
 ⟨some 57, .bin .sub (.tmp 56) (.const (.int .i64 1)), none, []⟩,
 ⟨some 58, .bin .lss (.tmp 55) (.tmp 57), none, []⟩] [55, 56, 57])
 (.cond (.tmp 58)
 .skip
 (.exit 2)))
 (.seq
 (.block 3
 (.region true [⟨some 61, .mv (.tmp 0), none, []⟩,
 ⟨some 62, .mv (.tmp 13), none, []⟩,
 ⟨some 63, .mv (.tmp 0), none, []⟩,
 ⟨some 64, .mv (.tmp 13), none, []⟩,
 ⟨some 65, .bin .add (.tmp 64) (.const (.int .i64 1)), none, [3]⟩,
 ⟨some 66, .mv (.tmp 0), none, []⟩,
 ⟨some 67, .mv (.tmp 13), none, []⟩,
 ⟨some 68, .bin .add (.tmp 67) (.const (.int .i64 1)), none, [6]⟩,
 ⟨some 69, .iadS 3 (.tmp 66) (.tmp 68), none, [5, 7, 6]⟩,
 ⟨some 70, .loadN 3 (.tmp 69), none, [8, 5, 7, 6]⟩,
 ⟨some 71, .mv (.tmp 0), none, []⟩,
 ⟨some 72, .mv (.tmp 13), none, []⟩,
 ⟨some 73, .iadS 3 (.tmp 71) (.tmp 72), none, [10, 11]⟩,
 ⟨some 74, .loadN 3 (.tmp 73), none, [12, 10, 11]⟩,
 ⟨some 75, .iadS 3 (.tmp 61) (.tmp 62), none, [0, 1, 5, 6, 7, 8, 9, 13, 12, 10, 11]⟩,
 ⟨none, .store 3 (.tmp 75) (.tmp 70), none, [14, 0, 1, 5, 6, 7, 8, 9, 13, 12, 10, 11]⟩,
 ⟨some 76, .iadS 3 (.tmp 63) (.tmp 65), none, [2, 4, 3, 0, 1, 5, 6, 7, 8, 9, 10, 11, 12, 13, 14, 15]⟩,
 ⟨none, .store 3 (.tmp 76) (.tmp 74), none, [16, 2, 4, 3, 0, 1, 5, 6, 7, 8, 9, 10, 11, 12, 13, 14, 15]⟩] [61, 62, 63, 64, 65, 66, 67, 68, 69, 70, 71, 72, 73, 74, 75, 76]))
 (.region false [⟨some 59, .mv (.tmp 13), none, []⟩,
 ⟨some 60, .bin .add (.tmp 59) (.const (.int .i64 1)), none, []⟩,
 ⟨some 13, .mv (.tmp 60), none, []⟩] [59, 60]))))))
 .ret))))
 .skip))
 (.seq
 (.seq
 (.region false [⟨some 77, .mv (.tmp 3), none, []⟩,
 ⟨some 78, .mv (.tmp 2), none, []⟩,
 ⟨some 79, .bin .sub (.tmp 77) (.tmp 78), none, []⟩,
 ⟨some 80, .bin .eql (.tmp 79) (.const (.int .i64 1)), none, []⟩] [77, 78, 79])
 (.cond (.tmp 80)
 (.seq
 (.region false [⟨some 81, .mv (.tmp 1), none, []⟩,
 ⟨some 14, .mv (.tmp 81), none, []⟩] [81])
 (.seq
 (.region false [⟨some 82, .mv (.tmp 2), none, []⟩,
 ⟨some 15, .mv (.tmp 82), none, []⟩] [82])
 (.seq
 (.block 4
 (.loop
 (.seq
 (.seq
 (.region false [⟨some 83, .mv (.tmp 14), none, []⟩,
 ⟨some 84, .mv (.tmp 15), none, []⟩,
 ⟨some 85, .bin .lss (.tmp 83) (.tmp 84), none, []⟩] [83, 84])
 (.cond (.tmp 85)
 .skip
 (.exit 4)))
 (.block 5
 (.seq
 (.region false [⟨some 86, .mv (.tmp 14), none, []⟩,
 ⟨some 87, .mv (.tmp 15), none, []⟩,
 ⟨some 88, .bin .add (.tmp 86) (.tmp 87), none, []⟩,
 ⟨some 89, .conv .u64 (.tmp 88), none, []⟩,
 ⟨some 90, .bin .shr (.tmp 89) (.const (.int .u64 1)), none, []⟩,
 ⟨some 91, .conv .i64 (.tmp 90), none, []⟩,
 ⟨some 16, .mv (.tmp 91), none, []⟩] [86, 87, 88, 89, 90, 91])
 (.seq
 (.region true [⟨some 92, .mv (.tmp 4), none, []⟩,
 ⟨some 93, .mv (.tmp 0), none, []⟩,
 ⟨some 94, .mv (.tmp 2), none, []⟩,
 ⟨some 95, .iadS 3 (.tmp 93) (.tmp 94), none, [1, 2]⟩,
 ⟨some 96, .loadN 3 (.tmp 95), none, [3, 1, 2]⟩,
 ⟨some 97, .mv (.tmp 0), none, []⟩,
 ⟨some 98, .mv (.tmp 16), none, []⟩,
 ⟨some 99, .iadS 3 (.tmp 97) (.tmp 98), none, [5, 6]⟩,
 ⟨some 100, .loadN 3 (.tmp 99), none, [7, 5, 6]⟩,
 ⟨some 101, .call (.tmp 92) [(.tmp 96), (.tmp 100)], none, [0, 4, 3, 1, 2, 8, 7, 5, 6]⟩,
 ⟨some 102, .bin .lss (.tmp 101) (.const (.int .i64 0)), none, [9, 0, 4, 3, 1, 2, 8, 7, 5, 6]⟩,
 ⟨some 103, .un .not (.tmp 102), none, [10, 9, 0, 4, 3, 1, 2, 8, 7, 5, 6]⟩] [92, 93, 94, 95, 96, 97, 98, 99, 100, 101, 102])
 (.cond (.tmp 103)
 (.region false [⟨some 104, .mv (.tmp 16), none, []⟩,
 ⟨some 105, .bin .add (.tmp 104) (.const (.int .i64 1)), none, []⟩,
 ⟨some 14, .mv (.tmp 105), none, []⟩] [104, 105])
 (.region false [⟨some 106, .mv (.tmp 16), none, []⟩,
 ⟨some 15, .mv (.tmp 106), none, []⟩] [106]))))))))
 (.seq
 (.seq
 (.region false [⟨some 107, .mv (.tmp 2), none, []⟩,
 ⟨some 17, .mv (.tmp 107), none, []⟩] [107])
 (.block 6
 (.loop
 (.seq
 (.seq
 (.region false [⟨some 108, .mv (.tmp 17), none, []⟩,
 ⟨some 109, .mv (.tmp 14), none, []⟩,
 ⟨some 110, .bin .gtr (.tmp 108) (.tmp 109), none, []⟩] [108, 109])
 (.cond (.tmp 110)
 .skip
 (.exit 6)))
 (.seq
 (.block 7
 (.region true [⟨some 113, .mv (.tmp 0), none, []⟩,
 ⟨some 114, .mv (.tmp 17), none, []⟩,
 ⟨some 115, .mv (.tmp 0), none, []⟩,
 ⟨some 116, .mv (.tmp 17), none, []⟩,
 ⟨some 117, .bin .sub (.tmp 116) (.const (.int .i64 1)), none, [3]⟩,
 ⟨some 118, .mv (.tmp 0), none, []⟩,
 ⟨some 119, .mv (.tmp 17), none, []⟩,
 ⟨some 120, .bin .sub (.tmp 119) (.const (.int .i64 1)), none, [6]⟩,
 ⟨some 121, .iadS 3 (.tmp 118) (.tmp 120), none, [5, 7, 6]⟩,
 ⟨some 122, .loadN 3 (.tmp 121), none, [8, 5, 7, 6]⟩,
 ⟨some 123, .mv (.tmp 0), none, []⟩,
 ⟨some 124, .mv (.tmp 17), none, []⟩,
 ⟨some 125, .iadS 3 (.tmp 123) (.tmp 124), none, [10, 11]⟩,
 ⟨some 126, .loadN 3 (.tmp 125), none, [12, 10, 11]⟩,
 ⟨some 127, .iadS 3 (.tmp 113) (.tmp 114), none, [0, 1, 5, 6, 7, 8, 9, 13, 12, 10, 11]⟩,
 ⟨none, .store 3 (.tmp 127) (.tmp 122), none, [14, 0, 1, 5, 6, 7, 8, 9, 13, 12, 10, 11]⟩,
 ⟨some 128, .iadS 3 (.tmp 115) (.tmp 117), none, [2, 4, 3, 0, 1, 5, 6, 7, 8, 9, 10, 11, 12, 13, 14, 15]⟩,
 ⟨none, .store 3 (.tmp 128) (.tmp 126), none, [16, 2, 4, 3, 0, 1, 5, 6, 7, 8, 9, 10, 11, 12, 13, 14, 15]⟩] [113, 114, 115, 116, 117, 118, 119, 120, 121, 122, 123, 124, 125, 126, 127, 128]))
 (.region false [⟨some 111, .mv (.tmp 17), none, []⟩,
 ⟨some 112, .bin .sub (.tmp 111) (.const (.int .i64 1)), none, []⟩,
 ⟨some 17, .mv (.tmp 112), none, []⟩] [111, 112]))))))
 .ret))))
 .skip))
 (.seq
 (.region false [⟨some 129, .mv (.tmp 1), none, []⟩,
 ⟨some 130, .mv (.tmp 3), none, []⟩,
 ⟨some 131, .bin .add (.tmp 129) (.tmp 130), none, []⟩,
 ⟨some 132, .conv .u64 (.tmp 131), none, []⟩,
 ⟨some 133, .bin .shr (.tmp 132) (.const (.int .u64 1)), none, []⟩,
 ⟨some 134, .conv .i64 (.tmp 133), none, []⟩,
 ⟨some 18, .mv (.tmp 134), none, []⟩] [129, 130, 131, 132, 133, 134])
 (.seq
 (.region false [⟨some 135, .mv (.tmp 18), none, []⟩,
 ⟨some 136, .mv (.tmp 2), none, []⟩,
 ⟨some 137, .bin .add (.tmp 135) (.tmp 136), none, []⟩,
 ⟨some 19, .mv (.tmp 137), none, []⟩] [135, 136, 137])
 (.seq
 (.region false [⟨some 20, .mv (.const (.int .i64 0)), none, []⟩,
 ⟨some 21, .mv (.const (.int .i64 0)), none, []⟩] [])
 (.seq
 (.seq
 (.region false [⟨some 138, .mv (.tmp 2), none, []⟩,
 ⟨some 139, .mv (.tmp 18), none, []⟩,
 ⟨some 140, .bin .gtr (.tmp 138) (.tmp 139), none, []⟩] [138, 139])
 (.cond (.tmp 140)
 (.seq
 (.region false [⟨some 141, .mv (.tmp 19), none, []⟩,
 ⟨some 142, .mv (.tmp 3), none, []⟩,
 ⟨some 143, .bin .sub (.tmp 141) (.tmp 142), none, []⟩,
 ⟨some 20, .mv (.tmp 143), none, []⟩] [141, 142, 143])
 (.region false [⟨some 144, .mv (.tmp 18), none, []⟩,
 ⟨some 21, .mv (.tmp 144), none, []⟩] [144]))
 (.seq
 (.region false [⟨some 145, .mv (.tmp 1), none, []⟩,
 ⟨some 20, .mv (.tmp 145), none, []⟩] [145])
 (.region false [⟨some 146, .mv (.tmp 2), none, []⟩,
 ⟨some 21, .mv (.tmp 146), none, []⟩] [146]))))
 (.seq
 (.region false [⟨some 147, .mv (.tmp 19), none, []⟩,
 ⟨some 148, .bin .sub (.tmp 147) (.const (.int .i64 1)), none, []⟩,
 ⟨some 22, .mv (.tmp 148), none, []⟩] [147, 148])
 (.seq
 (.block 8
 (.loop
 (.seq
 (.seq
 (.region false [⟨some 149, .mv (.tmp 20), none, []⟩,
 ⟨some 150, .mv (.tmp 21), none, []⟩,
 ⟨some 151, .bin .lss (.tmp 149) (.tmp 150), none, []⟩] [149, 150])
 (.cond (.tmp 151)
 .skip
 (.exit 8)))
 (.block 9
 (.seq
 (.region false [⟨some 152, .mv (.tmp 20), none, []⟩,
 ⟨some 153, .mv (.tmp 21), none, []⟩,
 ⟨some 154, .bin .add (.tmp 152) (.tmp 153), none, []⟩,
 ⟨some 155, .conv .u64 (.tmp 154), none, []⟩,
 ⟨some 156, .bin .shr (.tmp 155) (.const (.int .u64 1)), none, []⟩,
 ⟨some 157, .conv .i64 (.tmp 156), none, []⟩,
 ⟨some 23, .mv (.tmp 157), none, []⟩] [152, 153, 154, 155, 156, 157])
 (.seq
 (.region true [⟨some 158, .mv (.tmp 4), none, []⟩,
 ⟨some 159, .mv (.tmp 0), none, []⟩,
 ⟨some 160, .mv (.tmp 22), none, []⟩,
 ⟨some 161, .mv (.tmp 23), none, []⟩,
 ⟨some 162, .bin .sub (.tmp 160) (.tmp 161), none, [2, 3]⟩,
 ⟨some 163, .iadS 3 (.tmp 159) (.tmp 162), none, [1, 4, 2, 3]⟩,
 ⟨some 164, .loadN 3 (.tmp 163), none, [5, 1, 4, 2, 3]⟩,
 ⟨some 165, .mv (.tmp 0), none, []⟩,
 ⟨some 166, .mv (.tmp 23), none, []⟩,
 ⟨some 167, .iadS 3 (.tmp 165) (.tmp 166), none, [7, 8]⟩,
 ⟨some 168, .loadN 3 (.tmp 167), none, [9, 7, 8]⟩,
 ⟨some 169, .call (.tmp 158) [(.tmp 164), (.tmp 168)], none, [0, 6, 5, 1, 4, 2, 3, 10, 9, 7, 8]⟩,
 ⟨some 170, .bin .lss (.tmp 169) (.const (.int .i64 0)), none, [11, 0, 6, 5, 1, 4, 2, 3, 10, 9, 7, 8]⟩,
 ⟨some 171, .un .not (.tmp 170), none, [12, 11, 0, 6, 5, 1, 4, 2, 3, 10, 9, 7, 8]⟩] [158, 159, 160, 161, 162, 163, 164, 165, 166, 167, 168, 169, 170])
 (.cond (.tmp 171)
 (.region false [⟨some 172, .mv (.tmp 23), none, []⟩,
 ⟨some 173, .bin .add (.tmp 172) (.const (.int .i64 1)), none, []⟩,
 ⟨some 20, .mv (.tmp 173), none, []⟩] [172, 173])
 (.region false [⟨some 174, .mv (.tmp 23), none, []⟩,
 ⟨some 21, .mv (.tmp 174), none, []⟩] [174]))))))))
 (.seq
 (.region false [⟨some 175, .mv (.tmp 19), none, []⟩,
 ⟨some 176, .mv (.tmp 20), none, []⟩,
 ⟨some 177, .bin .sub (.tmp 175) (.tmp 176), none, []⟩,
 ⟨some 24, .mv (.tmp 177), none, []⟩] [175, 176, 177])
 (.seq
 (.seq
 (.region false [⟨some 178, .mv (.tmp 20), none, []⟩,
 ⟨some 179, .mv (.tmp 2), none, []⟩,
 ⟨some 180, .bin .lss (.tmp 178) (.tmp 179), none, []⟩,
 ⟨some 181, .mv (.tmp 180), none, []⟩,
 ⟨some 182, .mv (.tmp 2), (some (some 181, true)), []⟩,
 ⟨some 183, .mv (.tmp 24), (some (some 181, true)), []⟩,
 ⟨some 184, .bin .lss (.tmp 182) (.tmp 183), (some (some 181, true)), []⟩,
 ⟨some 185, .pick (.tmp 181) (.tmp 184) (.const (.bool false)), none, []⟩] [178, 179, 180, 181, 182, 183, 184])
 (.cond (.tmp 185)
 (.region false [⟨some 186, .mv (.tmp 0), none, []⟩,
 ⟨some 187, .mv (.tmp 20), none, []⟩,
 ⟨some 188, .mv (.tmp 2), none, []⟩,
 ⟨some 189, .mv (.tmp 24), none, []⟩,
 ⟨some 190, .mv (.tmp 4), none, []⟩,
 ⟨some 191, .call (.func 160) [(.tmp 186), (.tmp 187), (.tmp 188), (.tmp 189), (.tmp 190)], none, []⟩] [186, 187, 188, 189, 190, 191])
 .skip))
 (.seq
 (.seq
 (.region false [⟨some 192, .mv (.tmp 1), none, []⟩,
 ⟨some 193, .mv (.tmp 20), none, []⟩,
 ⟨some 194, .bin .lss (.tmp 192) (.tmp 193), none, []⟩,
 ⟨some 195, .mv (.tmp 194), none, []⟩,
 ⟨some 196, .mv (.tmp 20), (some (some 195, true)), []⟩,
 ⟨some 197, .mv (.tmp 18), (some (some 195, true)), []⟩,
 ⟨some 198, .bin .lss (.tmp 196) (.tmp 197), (some (some 195, true)), []⟩,
 ⟨some 199, .pick (.tmp 195) (.tmp 198) (.const (.bool false)), none, []⟩] [192, 193, 194, 195, 196, 197, 198])
 (.cond (.tmp 199)
 (.region false [⟨some 200, .mv (.tmp 0), none, []⟩,
 ⟨some 201, .mv (.tmp 1), none, []⟩,
 ⟨some 202, .mv (.tmp 20), none, []⟩,
 ⟨some 203, .mv (.tmp 18), none, []⟩,
 ⟨some 204, .mv (.tmp 4), none, []⟩,
 ⟨some 205, .call (.func 157) [(.tmp 200), (.tmp 201), (.tmp 202), (.tmp 203), (.tmp 204)], none, []⟩] [200, 201, 202, 203, 204, 205])
 .skip))
 (.seq
 (.region false [⟨some 206, .mv (.tmp 18), none, []⟩,
 ⟨some 207, .mv (.tmp 24), none, []⟩,
 ⟨some 208, .bin .lss (.tmp 206) (.tmp 207), none, []⟩,
 ⟨some 209, .mv (.tmp 208), none, []⟩,
 ⟨some 210, .mv (.tmp 24), (some (some 209, true)), []⟩,
 ⟨some 211, .mv (.tmp 3), (some (some 209, true)), []⟩,
 ⟨some 212, .bin .lss (.tmp 210) (.tmp 211), (some (some 209, true)), []⟩,
 ⟨some 213, .pick (.tmp 209) (.tmp 212) (.const (.bool false)), none, []⟩] [206, 207, 208, 209, 210, 211, 212])
 (.cond (.tmp 213)
 (.region false [⟨some 214, .mv (.tmp 0), none, []⟩,
 ⟨some 215, .mv (.tmp 18), none, []⟩,
 ⟨some 216, .mv (.tmp 24), none, []⟩,
 ⟨some 217, .mv (.tmp 3), none, []⟩,
 ⟨some 218, .mv (.tmp 4), none, []⟩,
 ⟨some 219, .call (.func 157) [(.tmp 214), (.tmp 215), (.tmp 216), (.tmp 217), (.tmp 218)], none, []⟩] [214, 215, 216, 217, 218, 219])
 .skip)))))))))))))
set_option maxRecDepth 100000 in
theorem kslices_symMergeCmpFunc_Lapi_Found_J : IsCode Try.prog 157 220 cslices_symMergeCmpFunc_Lapi_Found_J [] :=
 ⟨Try.f157, _, [213, 199, 185, 171, 151, 140, 110, 103, 85, 80, 58, 50, 33, 28, 2, 1, 3, 10, 11, 4, 0, 12, 13, 14, 15, 16, 17, 18, 19, 20, 21, 22, 23, 24], Try.func157, rfl, by decide, rfl, by kernel_rfl, by kernel_rfl⟩
def cslices_rotateCmpFunc_Lapi_Found_J : ACode :=
 (.seq
 (.region false [⟨some 12, .mv (.tmp 2), none, []⟩,
 ⟨some 13, .mv (.tmp 1), none, []⟩,
 ⟨some 14, .bin .sub (.tmp 12) (.tmp 13), none, []⟩,
 ⟨some 10, .mv (.tmp 14), none, []⟩] [12, 13, 14])
 (.seq
 (.region false [⟨some 15, .mv (.tmp 3), none, []⟩,
 ⟨some 16, .mv (.tmp 2), none, []⟩,
 ⟨some 17, .bin .sub (.tmp 15) (.tmp 16), none, []⟩,
 ⟨some 11, .mv (.tmp 17), none, []⟩] [15, 16, 17])
 (.seq
 (.block 0
 (.loop
 (.seq
 (.seq
 (.region false [⟨some 18, .mv (.tmp 10), none, []⟩,
 ⟨some 19, .mv (.tmp 11), none, []⟩,
 ⟨some 20, .bin .neq (.tmp 18) (.tmp 19), none, []⟩] [18, 19])
 (.cond (.tmp 20)
 .skip
 (.exit 0)))
 (.block 1
 (.seq
 (.region false [⟨some 21, .mv (.tmp 10), none, []⟩,
 ⟨some 22, .mv (.tmp 11), none, []⟩,
 ⟨some 23, .bin .gtr (.tmp 21) (.tmp 22), none, []⟩] [21, 22])
 (.cond (.tmp 23)
 (.seq
 (.region false [⟨some 24, .mv (.tmp 0), none, []⟩,
 ⟨some 25, .mv (.tmp 2), none, []⟩,
 ⟨some 26, .mv (.tmp 10), none, []⟩,
 ⟨some 27, .bin .sub (.tmp 25) (.tmp 26), none, []⟩,
 ⟨some 28, .mv (.tmp 2), none, []⟩,
 ⟨some 29, .mv (.tmp 11), none, []⟩,
 ⟨some 30, .mv (.tmp 4), none, []⟩,
 ⟨some 31, .call (.func 163) [(.tmp 24), (.tmp 27), (.tmp 28), (.tmp 29), (.tmp 30)], none, []⟩] [24, 25, 26, 27, 28, 29, 30, 31])
 (.region false [⟨some 32, .mv (.tmp 10), none, []⟩,
 ⟨some 33, .mv (.tmp 11), none, []⟩,
 ⟨some 34, .bin .sub (.tmp 32) (.tmp 33), none, []⟩,
 ⟨some 10, .mv (.tmp 34), none, []⟩] [32, 33, 34]))
 (.seq
 (.region false [⟨some 35, .mv (.tmp 0), none, []⟩,
 ⟨some 36, .mv (.tmp 2), none, []⟩,
 ⟨some 37, .mv (.tmp 10), none, []⟩,
 ⟨some 38, .bin .sub (.tmp 36) (.tmp 37), none, []⟩,
 ⟨some 39, .mv (.tmp 2), none, []⟩,
 ⟨some 40, .mv (.tmp 11), none, []⟩,
 ⟨some 41, .bin .add (.tmp 39) (.tmp 40), none, []⟩,
 ⟨some 42, .mv (.tmp 10), none, []⟩,
 ⟨some 43, .bin .sub (.tmp 41) (.tmp 42), none, []⟩,
 ⟨some 44, .mv (.tmp 10), none, []⟩,
 ⟨some 45, .mv (.tmp 4), none, []⟩,
 ⟨some 46, .call (.func 163) [(.tmp 35), (.tmp 38), (.tmp 43), (.tmp 44), (.tmp 45)], none, []⟩] [35, 36, 37, 38, 39, 40, 41, 42, 43, 44, 45, 46])
 (.region false [⟨some 47, .mv (.tmp 11), none, []⟩,
 ⟨some 48, .mv (.tmp 10), none, []⟩,
 ⟨some 49, .bin .sub (.tmp 47) (.tmp 48), none, []⟩,
 ⟨some 11, .mv (.tmp 49), none, []⟩] [47, 48, 49]))))))))
 (.region false [⟨some 50, .mv (.tmp 0), none, []⟩,
 ⟨some 51, .mv (.tmp 2), none, []⟩,
 ⟨some 52, .mv (.tmp 10), none, []⟩,
 ⟨some 53, .bin .sub (.tmp 51) (.tmp 52), none, []⟩,
 ⟨some 54, .mv (.tmp 2), none, []⟩,
 ⟨some 55, .mv (.tmp 10), none, []⟩,
 ⟨some 56, .mv (.tmp 4), none, []⟩,
 ⟨some 57, .call (.func 163) [(.tmp 50), (.tmp 53), (.tmp 54), (.tmp 55), (.tmp 56)], none, []⟩] [50, 51, 52, 53, 54, 55, 56, 57]))))
set_option maxRecDepth 100000 in
theorem kslices_rotateCmpFunc_Lapi_Found_J : IsCode Try.prog 160 58 cslices_rotateCmpFunc_Lapi_Found_J [] :=
 ⟨Try.f160, _, [23, 20, 2, 1, 3, 10, 11, 0, 4], Try.func160, rfl, by decide, rfl, by kernel_rfl, by kernel_rfl⟩
def cslices_swapRangeCmpFunc_Lapi_Found_J : ACode :=
 (.seq
 (.region false [⟨some 10, .mv (.const (.int .i64 0)), none, []⟩] [])
 (.block 0
 (.loop
 (.seq
 (.seq
 (.region false [⟨some 11, .mv (.tmp 10), none, []⟩,
 ⟨some 12, .mv (.tmp 3), none, []⟩,
 ⟨some 13, .bin .lss (.tmp 11) (.tmp 12), none, []⟩] [11, 12])
 (.cond (.tmp 13)
 .skip
 (.exit 0)))
 (.seq
 (.block 1
 (.region true [⟨some 16, .mv (.tmp 0), none, []⟩,
 ⟨some 17, .mv (.tmp 1), none, []⟩,
 ⟨some 18, .mv (.tmp 10), none, []⟩,
 ⟨some 19, .bin .add (.tmp 17) (.tmp 18), none, [1, 2]⟩,
 ⟨some 20, .mv (.tmp 0), none, []⟩,
 ⟨some 21, .mv (.tmp 2), none, []⟩,
 ⟨some 22, .mv (.tmp 10), none, []⟩,
 ⟨some 23, .bin .add (.tmp 21) (.tmp 22), none, [5, 6]⟩,
 ⟨some 24, .mv (.tmp 0), none, []⟩,
 ⟨some 25, .mv (.tmp 2), none, []⟩,
 ⟨some 26, .mv (.tmp 10), none, []⟩,
 ⟨some 27, .bin .add (.tmp 25) (.tmp 26), none, [9, 10]⟩,
 ⟨some 28, .iadS 3 (.tmp 24) (.tmp 27), none, [8, 11, 9, 10]⟩,
 ⟨some 29, .loadN 3 (.tmp 28), none, [12, 8, 11, 9, 10]⟩,
 ⟨some 30, .mv (.tmp 0), none, []⟩,
 ⟨some 31, .mv (.tmp 1), none, []⟩,
 ⟨some 32, .mv (.tmp 10), none, []⟩,
 ⟨some 33, .bin .add (.tmp 31) (.tmp 32), none, [15, 16]⟩,
 ⟨some 34, .iadS 3 (.tmp 30) (.tmp 33), none, [14, 17, 15, 16]⟩,
 ⟨some 35, .loadN 3 (.tmp 34), none, [18, 14, 17, 15, 16]⟩,
 ⟨some 36, .iadS 3 (.tmp 16) (.tmp 19), none, [0, 3, 1, 2, 8, 9, 10, 11, 12, 13, 19, 18, 14, 17, 15, 16]⟩,
 ⟨none, .store 3 (.tmp 36) (.tmp 29), none, [20, 0, 3, 1, 2, 8, 9, 10, 11, 12, 13, 19, 18, 14, 17, 15, 16]⟩,
 ⟨some 37, .iadS 3 (.tmp 20) (.tmp 23), none, [4, 7, 5, 6, 0, 1, 2, 3, 8, 9, 10, 11, 12, 13, 14, 15, 16, 17, 18, 19, 20, 21]⟩,
 ⟨none, .store 3 (.tmp 37) (.tmp 35), none, [22, 4, 7, 5, 6, 0, 1, 2, 3, 8, 9, 10, 11, 12, 13, 14, 15, 16, 17, 18, 19, 20, 21]⟩] [16, 17, 18, 19, 20, 21, 22, 23, 24, 25, 26, 27, 28, 29, 30, 31, 32, 33, 34, 35, 36, 37]))
 (.region false [⟨some 14, .mv (.tmp 10), none, []⟩,
 ⟨some 15, .bin .add (.tmp 14) (.const (.int .i64 1)), none, []⟩,
 ⟨some 10, .mv (.tmp 15), none, []⟩] [14, 15]))))))
set_option maxRecDepth 100000 in
theorem kslices_swapRangeCmpFunc_Lapi_Found_J : IsCode Try.prog 163 38 cslices_swapRangeCmpFunc_Lapi_Found_J [] :=
 ⟨Try.f163, _, [13, 10, 3, 0, 1, 2], Try.func163, rfl, by decide, rfl, by kernel_rfl, by kernel_rfl⟩
end Go.Proofs.Ytdcodicoclecnaa
/- Found events as cells; exchanges of stretches (views last). No conditions. -/
namespace Go.Proofs.Ytdcodicoclecnaa
open Go.RowKit Lift

def fc (x : Fd) : List D := [dI x.1, dI x.2.1, dI x.2.2]
def fcells (l : List Fd) : List D := (l.map fc).flatten
theorem fcells_cons (x : Fd) (l : List Fd) : fcells (x :: l) = dI x.1 :: dI x.2.1 :: dI x.2.2 :: fcells l := rfl
theorem fcells_len : ∀ l : List Fd, (fcells l).length = l.length * 3
  | [] => rfl
  | x :: l => by rw [fcells_cons]; simp only [List.length_cons, fcells_len l]; omega
theorem fcells_rd : ∀ (l : List Fd) (i : Nat), i < l.length → ((fcells l).drop (i * 3)).take 3 = fc (fat l i)
  | [], i, h => absurd h (Nat.not_lt_zero i)
  | x :: l, 0, h => rfl
  | x :: l, i + 1, h => by
    have ih := fcells_rd l i (by simpa using h)
    rw [fcells_cons, show (i + 1) * 3 = i * 3 + 3 by omega]
    exact ih
theorem fcells_wr : ∀ (l : List Fd) (i : Nat) (x : Fd), i < l.length → splice (fcells l) (i * 3) (fc x) = fcells (l.set i x)
  | [], i, x, h => absurd h (Nat.not_lt_zero i)
  | y :: l, 0, x, h => rfl
  | y :: l, i + 1, x, h => by
    have ih := fcells_wr l i x (by simpa using h)
    rw [fcells_cons, show (i + 1) * 3 = i * 3 + 3 by omega, List.set_cons_succ, fcells_cons, ← ih]
    unfold splice fc
    simp only [List.length_cons, List.length_nil, Nat.zero_add]
    rfl
theorem fcells_mem {l : List Fd} {d : D} (h : d ∈ fcells l) : ∃ n : Int, d = dI n := by
  unfold fcells at h
  rw [List.mem_flatten] at h
  obtain ⟨c, hc, hd⟩ := h
  obtain ⟨x, _, rfl⟩ := List.mem_map.1 hc
  unfold fc at hd
  simp only [List.mem_cons, List.not_mem_nil, or_false] at hd
  rcases hd with rfl | rfl | rfl <;> exact ⟨_, rfl⟩
theorem fcells_in (l : List Fd) (S : Nat → Prop) : ∀ d ∈ fcells l, In S d := fun d hd => by obtain ⟨n, rfl⟩ := fcells_mem hd; exact .val _
theorem okUp_f {d : List Fd} {c : List D} (h : 0 < d.length) : okUp [(0, fcells d)] [(0, some c)] = true := by
  have : (fcells d).isEmpty = false := by
    cases d with
    | nil => simp at h
    | cons x l => rfl
  simp [okUp, this]
set_option maxRecDepth 100000 in
set_option maxHeartbeats 4000000 in
theorem swapR_ac (pre X Y Z post : List Fd) (h : X.length = Z.length) (N : Nat) (a b m : Int) (hN : N = pre.length + X.length + Y.length + Z.length + post.length) (hN2 : N ≤ 1000000) (hN0 : 0 < N) (ha : a = pre.length) (hb : b = pre.length + X.length + Y.length) (hm : m = X.length) :
    AC Try.prog 163 [.vec 0 N 3, dI a, dI b, dI m, .fn 108 [] []] [(0, fcells (pre ++ (X ++ (Y ++ (Z ++ post)))))] [(0, some (fcells (pre ++ (Z ++ (Y ++ (X ++ post))))))] (.tup []) := by
  refine kslices_swapRangeCmpFunc_Lapi_Found_J.ac (n0 := 8) (by simp) ⟨.vec _ _ _ (by omega), .val _, .val _, .val _, .fn _ _ _ (by simp) (by simp), trivial⟩ ⟨⟨by omega, fcells_in _ _⟩, trivial⟩ (okUp_f (by simp; omega)) ?_
  unfold cslices_swapRangeCmpFunc_Lapi_Found_J
  rw [← srI_zero pre X Y Z post, ← srI_end pre X Y Z post h]
  have sl := fun i hi => srI_len pre X Y Z post i h hi
  have sn := fun i hi => srI_next pre X Y Z post i h hi
  refine aw_seq (aw_region ?_)
  simp (disch := first | exact okY | omega) only [thenQ, List.map, List.length, Nat.zero_add, Nat.reduceMul, Nat.reduceAdd, envOf, dI, ARun_none, AOpRun, aexec, FSt.ev, AGo_ok, St.app, putO, eput_c, Nat.reduceBEq, eput_n, cond_false, hups, ARun_nil, dropE_c, inL_n, dropE_n]
  refine aw_block (aw_loop (fun i : Nat => ⟨[(0, .vec 0 N 3), (1, dI a), (2, dI b), (3, dI m), (10, dI i)], [(0, fcells (srI pre X Y Z post i))], 100⟩) (fun i => i ≤ X.length) (fun i => X.length - i) ⟨0, by omega, ?_⟩ ?_)
  · unfold dI
    refine wk_q [] [(0, 0)] ?_ ?_ <;> repeat' (first | exact trivial | exact vr_val _ | exact vr_vec _ _ _ _ rfl | refine And.intro ⟨_, rfl, .inl ⟨_, rfl, by decide, ?_⟩⟩ ?_ | apply And.intro)
    all_goals exact vrl_flat _ (fcells_in _ _)
  intro i hi
  by_cases hi2 : i < X.length
  case neg =>
    obtain rfl : i = X.length := by omega
    have q : decide (((X.length : Nat) : Int) < m) = false := decide_eq_false (by omega)
    (repeat' (first | (with_reducible first | refine thenQ_n ?_ | refine blockQ_n ?_ | refine thenQ_e ?_ | refine blockQ_t ?_ | refine blockQ_f (by decide) ?_) | apply aw_seq | apply aw_skip | apply aw_exit | apply aw_ret | apply aw_block | apply aw_condT rfl | apply aw_condF rfl | ((first | refine aw_hide fun K hK => aw_region ?_ | refine ago_if (by omega) ?_ | skip); simp (disch := first | exact okY | omega) only [List.length, Nat.zero_add, Nat.reduceAdd, Nat.reduceMul, dI, ARun_none, AOpRun, aexec, FSt.ev, St.F, eget_c, Nat.reduceBEq, ↓eget_h, cond_false, AGo_ok, St.app, putO, eput_c, eput_n, hups, List.map, isSh, Bool.false_eq_true, ↓reduceIte, Option.map, abin, q, ARun_nil, dropE_c, inL_c, inL_n, beq_self_eq_true, cond_true, dropE_n]) | subst hK))
    all_goals (refine end_q [] [(0, 0)] ?_ ?_ <;> repeat' (first | exact trivial | apply vr_tup | refine And.intro ⟨_, rfl, _, rfl, by decide, ?_⟩ ?_))
    all_goals exact vrl_flat _ (fcells_in _ _)
  have q : decide ((i : Int) < m) = true := decide_eq_true (by omega)
  have sl := sl i hi
  have sn := sn i hi2
  generalize srI pre X Y Z post i = d at *
  have t1 : (a + (i : Int)).toNat = pre.length + i := by omega
  have t2 : (b + (i : Int)).toNat = pre.length + X.length + Y.length + i := by omega
  have fl := fcells_len d
  have hp : pre.length + i < d.length := by omega
  have hq : pre.length + X.length + Y.length + i < d.length := by omega
  have r1 := fcells_rd d _ hp
  have r2 := fcells_rd d _ hq
  have w1 := fcells_wr d _ (fat d (pre.length + X.length + Y.length + i)) hp
  have w2 := fcells_wr (d.set (pre.length + i) (fat d (pre.length + X.length + Y.length + i))) (pre.length + X.length + Y.length + i) (fat d (pre.length + i)) (by simpa using hq)
  have fl2 := fcells_len (d.set (pre.length + i) (fat d (pre.length + X.length + Y.length + i)))
  rw [List.length_set] at fl2
  unfold swp at sn
  rw [sn] at w2
  simp only [splice, fc, dI, List.length_cons, List.length_nil, Nat.zero_add, Nat.reduceAdd] at r1 r2 w1 w2
  generalize fat d (pre.length + X.length + Y.length + i) = u at *
  generalize fat d (pre.length + i) = v at *
  generalize d.set (pre.length + i) u = d2 at *
  have nxt : ∃ j, j ≤ X.length ∧ X.length - j < X.length - i ∧ j = i + 1 := ⟨i + 1, by omega, by omega, rfl⟩
  obtain ⟨j, j1, j2, rfl⟩ := nxt
  generalize hd3 : srI pre X Y Z post (i + 1) = d3 at *
  (repeat' (first | (with_reducible first | refine thenQ_n ?_ | refine blockQ_n ?_ | refine thenQ_e ?_ | refine blockQ_t ?_ | refine blockQ_f (by decide) ?_) | apply aw_seq | apply aw_skip | apply aw_exit | apply aw_ret | apply aw_block | apply aw_condT rfl | apply aw_condF rfl | ((first | refine aw_hide fun K hK => aw_region ?_ | refine ago_if (by omega) ?_ | skip); simp (disch := first | exact okY | omega) only [List.length, Nat.zero_add, Nat.reduceAdd, Nat.reduceMul, dI, ARun_none, AOpRun, aexec, FSt.ev, St.F, eget_c, Nat.reduceBEq, ↓eget_h, cond_false, AGo_ok, St.app, putO, eput_c, eput_n, hups, List.map, isSh, Bool.false_eq_true, ↓reduceIte, Option.map, abin, q, ARun_nil, dropE_c, inL_c, inL_n, beq_self_eq_true, cond_true, dropE_n, fits, and_true, t2, hget_c, hget_n, fl, r2, t1, r1, D.isBot, D.cells, List.all, D.leaf, Bool.and_true, true_and, splice, w1, hput_c, hput_n, fl2, w2]) | subst hK))
  refine ⟨i + 1, j1, j2, ?_⟩
  subst hd3
  refine wk_q [] [(0, 0)] ?_ ?_ <;> repeat' (first | exact trivial | exact vr_val _ | exact vr_vec _ _ _ _ rfl | refine And.intro ⟨_, rfl, .inl ⟨_, rfl, by decide, ?_⟩⟩ ?_ | apply And.intro)
  all_goals exact vrl_flat _ (fcells_in _ _)
end Go.Proofs.Ytdcodicoclecnaa
/- The functions' bodies, translated. Written by a program; no conditions. -/
namespace Go.Proofs.Ytdcodicoclecnaa
open Go.RowKit Lift

def crecord_All_S2 : ACode :=
 (.seq
 (.region false [⟨some 2, .box (.tmp 0), none, []⟩,
 ⟨some 3, .box (.tmp 1), none, []⟩,
 ⟨some 4, .mv (.const (.int .i64 0)), none, []⟩] [])
 (.seq
 (.region false [⟨some 5, .fad 1 (.tmp 2), none, []⟩,
 ⟨some 6, .fad 0 (.tmp 5), none, []⟩,
 ⟨some 7, .load1 (.tmp 6), none, []⟩,
 ⟨some 8, .fad 1 (.tmp 3), none, []⟩,
 ⟨some 9, .fad 0 (.tmp 8), none, []⟩,
 ⟨some 10, .load1 (.tmp 9), none, []⟩,
 ⟨some 11, .call (.func 109) [(.tmp 7), (.tmp 10)], none, []⟩,
 ⟨some 4, .mv (.tmp 11), none, []⟩] [5, 6, 7, 8, 9, 10, 11])
 .ret))
set_option maxRecDepth 100000 in
theorem krecord_All_S2 : IsCode Try.prog 108 12 crecord_All_S2 [.tmp 4] :=
 ⟨Try.f108, _, [0, 1, 2, 3, 4], Try.func108, rfl, by decide, rfl, by kernel_rfl, by kernel_rfl⟩
def ccmp_Compare_Lint_J : ACode :=
 (.seq
 (.region false [⟨some 4, .mv (.const (.int .i64 0)), none, []⟩] [])
 (.seq
 (.region false [⟨some 7, .mv (.tmp 0), none, []⟩,
 ⟨some 8, .call (.func 143) [(.tmp 7)], none, []⟩,
 ⟨some 5, .mv (.tmp 8), none, []⟩] [7, 8])
 (.seq
 (.region false [⟨some 9, .mv (.tmp 1), none, []⟩,
 ⟨some 10, .call (.func 143) [(.tmp 9)], none, []⟩,
 ⟨some 6, .mv (.tmp 10), none, []⟩] [9, 10])
 (.seq
 (.seq
 (.region false [⟨some 11, .mv (.tmp 5), none, []⟩] [])
 (.cond (.tmp 11)
 (.seq
 (.seq
 (.region false [⟨some 12, .mv (.tmp 6), none, []⟩] [])
 (.cond (.tmp 12)
 (.seq
 (.region false [⟨some 4, .mv (.const (.int .i64 0)), none, []⟩] [])
 .ret)
 .skip))
 (.seq
 (.region false [⟨some 4, .mv (.const (.int .i64 (-1))), none, []⟩] [])
 .ret))
 .skip))
 (.seq
 (.seq
 (.region false [⟨some 13, .mv (.tmp 6), none, []⟩] [])
 (.cond (.tmp 13)
 (.seq
 (.region false [⟨some 4, .mv (.const (.int .i64 1)), none, []⟩] [])
 .ret)
 .skip))
 (.seq
 (.seq
 (.region false [⟨some 14, .mv (.tmp 0), none, []⟩,
 ⟨some 15, .mv (.tmp 1), none, []⟩,
 ⟨some 16, .bin .lss (.tmp 14) (.tmp 15), none, []⟩] [14, 15])
 (.cond (.tmp 16)
 (.seq
 (.region false [⟨some 4, .mv (.const (.int .i64 (-1))), none, []⟩] [])
 .ret)
 .skip))
 (.seq
 (.seq
 (.region false [⟨some 17, .mv (.tmp 0), none, []⟩,
 ⟨some 18, .mv (.tmp 1), none, []⟩,
 ⟨some 19, .bin .gtr (.tmp 17) (.tmp 18), none, []⟩] [17, 18])
 (.cond (.tmp 19)
 (.seq
 (.region false [⟨some 4, .mv (.const (.int .i64 1)), none, []⟩] [])
 .ret)
 .skip))
 (.seq
 (.region false [⟨some 4, .mv (.const (.int .i64 0)), none, []⟩] [])
 .ret))))))))
set_option maxRecDepth 100000 in
theorem kcmp_Compare_Lint_J : IsCode Try.prog 109 20 ccmp_Compare_Lint_J [.tmp 4] :=
 ⟨Try.f109, _, [19, 16, 13, 12, 11, 0, 1, 5, 6, 4], Try.func109, rfl, by decide, rfl, by kernel_rfl, by kernel_rfl⟩
def ccmp_isNaN_Lint_J : ACode :=
 (.seq
 (.region false [⟨some 2, .mv (.const (.bool false)), none, []⟩] [])
 (.seq
 (.region false [⟨some 3, .mv (.tmp 0), none, []⟩,
 ⟨some 4, .mv (.tmp 0), none, []⟩,
 ⟨some 5, .bin .neq (.tmp 3) (.tmp 4), none, []⟩,
 ⟨some 2, .mv (.tmp 5), none, []⟩] [3, 4, 5])
 .ret))
set_option maxRecDepth 100000 in
theorem kcmp_isNaN_Lint_J : IsCode Try.prog 143 6 ccmp_isNaN_Lint_J [.tmp 2] :=
 ⟨Try.f143, _, [0, 2], Try.func143, rfl, by decide, rfl, by kernel_rfl, by kernel_rfl⟩
end Go.Proofs.Ytdcodicoclecnaa
