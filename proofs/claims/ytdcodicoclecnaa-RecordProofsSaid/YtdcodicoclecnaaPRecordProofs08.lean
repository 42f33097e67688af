/- Texts of the law RecordProofs, part 8. No conditions. -/
import Derived.Test.YtdcodicoclecnaaPRecordProofs07
import Derived.Test.YtdcodicoclecnaaRows
/- record: a new tape. No conditions. -/
set_option linter.unusedSimpArgs false
set_option linter.unusedVariables false
namespace Go.Proofs.Ytdcodicoclecnaa
open Go.RowKit Lift

set_option maxRecDepth 100000 in
set_option maxHeartbeats 1000000 in
theorem newTape_err (l : Lay) (frs : List (List Int)) (hl : LayIn l) (he : ¬ (LayOk l ∧ frs.length ≤ 200)) (hf : FrIn frs) : AC Try.prog 71 [layD l, .list (rows frs)] [] [] (.tup [.val (.pointer none), dI (tpE l frs)]) := by
  refine krecord_newTape.ac (n0 := 0) (by simp) ⟨in_layD _ _, .list _, trivial⟩ trivial rfl ?_
  unfold crecord_newTape layD layC
  have hmax : maxLen = 9223372036854775807 := rfl
  have hn := hf.n
  have ck := check_ac l hl
  by_cases h1 : LayOk l
  · have h2 : ¬ frs.length ≤ 200 := fun h => he ⟨h1, h⟩
    rw [layE_ok h1] at ck
    rw [tpE_many h1 h2]
    have q : decide ((frs.length : Int) > 200) = true := decide_eq_true (by omega)
    (have hg : (987654321 : Nat) - 987654321 = 0 := rfl; have hr := hg; repeat' (first | refine aw_seq ?_ | (refine aw_skip ?_; repeat' (first | with_reducible refine thenQ_n ?_ | with_reducible refine blockQ_n ?_ | with_reducible refine thenQ_e ?_ | with_reducible refine blockQ_t ?_ | with_reducible refine blockQ_f (by decide) ?_)) | (refine aw_exit ?_; repeat' (first | with_reducible refine thenQ_n ?_ | with_reducible refine blockQ_n ?_ | with_reducible refine thenQ_e ?_ | with_reducible refine blockQ_t ?_ | with_reducible refine blockQ_f (by decide) ?_)) | refine aw_ret ?_ | refine aw_block ?_ | refine aw_condT rfl ?_ | refine aw_condF rfl ?_ | ((first | refine aw_hide fun K hK => aw_region ?_ | refine acall0 (ck) ?_ | refine ago_if (by omega) ?_ | skip); simp (config := {maxSteps := 10000000}) (disch := first | exact okYes (by kernel_rfl) | omega) only [List.length, Nat.zero_add, Nat.reduceAdd, Nat.reduceMul, envOf, dI, ARun_none, AOpRun, aexec, D.isBot, FSt.ev, St.F, ↓eget_h, Bool.false_eq_true, Option.isSome, hget_n, or_self, ↓reduceIte, D.cells, AGo_ok, St.app, putO, eput_c, Nat.reduceBEq, eput_n, cond_false, hups, hput_n, List.map, ARun_nil, dropE_c, inL_n, dropE_n, eget_c, hget_c, beq_self_eq_true, cond_true, Nat.reduceLeDiff, List.drop, List.take, inL_c, isSh, Option.map, abin, bne_self_eq_false, rows_len, q, thenQ]) | (subst hK; repeat' (first | with_reducible refine thenQ_n ?_ | with_reducible refine blockQ_n ?_ | with_reducible refine thenQ_e ?_ | with_reducible refine blockQ_t ?_ | with_reducible refine blockQ_f (by decide) ?_))))
    all_goals (refine end_to [] [] (by first | exact .inl rfl | exact .inr rfl) rfl (by kernel_rfl) (by kernel_rfl) (by kernel_rfl) ?_ ?_ <;> repeat' (first | exact trivial | exact vr_val _ | apply vr_tup | apply And.intro))
  · rw [layE_no h1] at ck
    rw [tpE_no h1]
    (have hg : (987654321 : Nat) - 987654321 = 0 := rfl; have hr := hg; repeat' (first | refine aw_seq ?_ | (refine aw_skip ?_; repeat' (first | with_reducible refine thenQ_n ?_ | with_reducible refine blockQ_n ?_ | with_reducible refine thenQ_e ?_ | with_reducible refine blockQ_t ?_ | with_reducible refine blockQ_f (by decide) ?_)) | (refine aw_exit ?_; repeat' (first | with_reducible refine thenQ_n ?_ | with_reducible refine blockQ_n ?_ | with_reducible refine thenQ_e ?_ | with_reducible refine blockQ_t ?_ | with_reducible refine blockQ_f (by decide) ?_)) | refine aw_ret ?_ | refine aw_block ?_ | refine aw_condT rfl ?_ | refine aw_condF rfl ?_ | ((first | refine aw_hide fun K hK => aw_region ?_ | refine acall0 (ck) ?_ | refine ago_if (by omega) ?_ | skip); simp (config := {maxSteps := 10000000}) (disch := first | exact okYes (by kernel_rfl) | omega) only [List.length, Nat.zero_add, Nat.reduceAdd, Nat.reduceMul, envOf, dI, ARun_none, AOpRun, aexec, D.isBot, FSt.ev, St.F, ↓eget_h, Bool.false_eq_true, Option.isSome, hget_n, or_self, ↓reduceIte, D.cells, AGo_ok, St.app, putO, eput_c, Nat.reduceBEq, eput_n, cond_false, hups, hput_n, List.map, ARun_nil, dropE_c, inL_n, dropE_n, eget_c, hget_c, beq_self_eq_true, cond_true, Nat.reduceLeDiff, List.drop, List.take, inL_c, isSh, Option.map, abin, Int.reduceBNe, thenQ]) | (subst hK; repeat' (first | with_reducible refine thenQ_n ?_ | with_reducible refine blockQ_n ?_ | with_reducible refine thenQ_e ?_ | with_reducible refine blockQ_t ?_ | with_reducible refine blockQ_f (by decide) ?_))))
    all_goals (refine end_to [] [] (by first | exact .inl rfl | exact .inr rfl) rfl (by kernel_rfl) (by kernel_rfl) (by kernel_rfl) ?_ ?_ <;> repeat' (first | exact trivial | exact vr_val _ | apply vr_tup | apply And.intro))
set_option maxRecDepth 100000 in
set_option maxHeartbeats 8000000 in
theorem newTape_ok (l : Lay) (frs : List (List Int)) (hl : LayIn l) (h1 : LayOk l) (h2 : frs.length ≤ 200) (hf : FrIn frs) : AC Try.prog 71 [layD l, .list (rows frs)] [] [(96, some (tpC l frs))] (.tup [.ptr 96 0, dI 0]) := by
  refine krecord_newTape.ac (n0 := 0) (by simp) ⟨in_layD _ _, .list _, trivial⟩ trivial rfl ?_
  unfold crecord_newTape layD layC
  have hmax : maxLen = 9223372036854775807 := rfl
  have w1 := h1.w1
  have w2 := h1.w2
  have ck := check_ac l hl
  rw [layE_ok h1] at ck
  have q : decide ((frs.length : Int) > 200) = false := decide_eq_false (by omega)
  (have hg : (987654321 : Nat) - 987654321 = 0 := rfl; have hr := hg; repeat' (first | refine aw_seq ?_ | (refine aw_skip ?_; repeat' (first | with_reducible refine thenQ_n ?_ | with_reducible refine blockQ_n ?_ | with_reducible refine thenQ_e ?_ | with_reducible refine blockQ_t ?_ | with_reducible refine blockQ_f (by decide) ?_)) | (refine aw_exit ?_; repeat' (first | with_reducible refine thenQ_n ?_ | with_reducible refine blockQ_n ?_ | with_reducible refine thenQ_e ?_ | with_reducible refine blockQ_t ?_ | with_reducible refine blockQ_f (by decide) ?_)) | refine aw_ret ?_ | refine aw_block ?_ | refine aw_condT rfl ?_ | refine aw_condF rfl ?_ | ((first | refine aw_hide fun K hK => aw_region ?_ | refine acall0 (ck) ?_ | refine ago_if (by omega) ?_ | skip); simp (config := {maxSteps := 10000000}) (disch := first | exact okYes (by kernel_rfl) | omega) only [List.length, Nat.zero_add, Nat.reduceAdd, Nat.reduceMul, envOf, dI, ARun_none, AOpRun, aexec, D.isBot, FSt.ev, St.F, ↓eget_h, Bool.false_eq_true, Option.isSome, hget_n, or_self, ↓reduceIte, D.cells, AGo_ok, St.app, putO, eput_c, Nat.reduceBEq, eput_n, cond_false, hups, hput_n, List.map, ARun_nil, dropE_c, inL_n, dropE_n, eget_c, hget_c, beq_self_eq_true, cond_true, Nat.reduceLeDiff, List.drop, List.take, inL_c, isSh, Option.map, abin, bne_self_eq_false, rows_len, q, fillD, ne_eq, not_true_eq_false, Nat.reduceGT, splice, List.nil_append, List.cons_append, hput_c, Int.reduceNeg]) | (subst hK; repeat' (first | with_reducible refine thenQ_n ?_ | with_reducible refine blockQ_n ?_ | with_reducible refine thenQ_e ?_ | with_reducible refine blockQ_t ?_ | with_reducible refine blockQ_f (by decide) ?_))))
  refine aw_loop (fun k : Nat => ⟨[(1, .list (rows frs)), (2, .ptr 0 0), (7, .ptr 40 0), (8, .fn 116 [] []), (24, .list (rows frs)), (25, dI frs.length), (26, dI k)],
    [(0, [dI l.words, dI l.s0, dI l.s1, dI l.s2, dI l.s3, .list (fls l.fl)]), (40, [dI l.words, dI l.s0, dI l.s1, dI l.s2, dI l.s3, .list (fls l.fl), .list (rows frs), .vec 48 k 1]), (48, icells (subsK l frs k))], 100⟩) (fun k => k ≤ frs.length) (fun k => frs.length - k) ⟨0, by omega, ?_⟩ ?_
  · refine wk_to [] [(0, 0), (40, 112), (48, 900)] (by kernel_rfl) (by kernel_rfl) (by kernel_rfl) (by kernel_rfl) (by kernel_rfl) ?_ ?_ <;> repeat' (first | exact trivial | exact vr_val _ | exact vr_list _ | exact vr_ptr _ _ _ rfl | exact vr_nilv _ _ _ rfl | apply vr_fn | refine And.intro ⟨_, rfl, .inl ⟨_, rfl, by decide, ?_⟩⟩ ?_ | refine And.intro ⟨_, rfl, .inr ⟨rfl, rfl, of_decide_eq_true (by kernel_rfl)⟩⟩ ?_ | apply And.intro)
  intro k hk
  by_cases hk2 : k < frs.length
  case neg =>
    obtain rfl : k = frs.length := by omega
    have hl2 := subsK_len l frs frs.length
    (have hg : (987654321 : Nat) - 987654321 = 0 := rfl; have hr := hg; repeat' (first | refine aw_seq ?_ | (refine aw_skip ?_; repeat' (first | with_reducible refine thenQ_n ?_ | with_reducible refine blockQ_n ?_ | with_reducible refine thenQ_e ?_ | with_reducible refine blockQ_t ?_ | with_reducible refine blockQ_f (by decide) ?_)) | (refine aw_exit ?_; repeat' (first | with_reducible refine thenQ_n ?_ | with_reducible refine blockQ_n ?_ | with_reducible refine thenQ_e ?_ | with_reducible refine blockQ_t ?_ | with_reducible refine blockQ_f (by decide) ?_)) | refine aw_ret ?_ | refine aw_block ?_ | refine aw_condT rfl ?_ | refine aw_condF rfl ?_ | (refine aw_cond rfl (fun hg => ?_) (fun hg => ?_) <;> (try (have hq := hg; simp only [Bool.not_eq_true', Bool.not_eq_false', Bool.and_eq_true, Bool.and_eq_false_iff, Bool.or_eq_true, Bool.or_eq_false_iff, decide_eq_true_eq, decide_eq_false_iff_not, bne_iff_ne, beq_iff_eq, beq_eq_false_iff_ne, bne_eq_false_iff_eq, ne_eq, Int.not_lt, Int.not_le, Decidable.not_not] at hq)) <;> (try (have hr := hg; simp only [decide_eq_true_eq, decide_eq_false_iff_not] at hr)) <;> (try (exfalso; omega))) | ((first | refine aw_hide fun K hK => aw_region ?_ | refine ago_if (by omega) ?_ | skip); simp (config := {maxSteps := 10000000}) (disch := first | exact okYes (by kernel_rfl) | omega) only [List.length, Nat.zero_add, Nat.reduceMul, Nat.reduceAdd, dI, ARun_none, AOpRun, aexec, FSt.ev, St.F, eget_c, Nat.reduceBEq, ↓eget_h, cond_false, isSh, Bool.false_eq_true, ↓reduceIte, Option.map, abin, AGo_ok, St.app, putO, eput_c, eput_n, hups, List.map, ARun_nil, dropE_c, inL_n, dropE_n, hr, decide_false, inL_c, beq_self_eq_true, cond_true]) | (subst hK; repeat' (first | with_reducible refine thenQ_n ?_ | with_reducible refine blockQ_n ?_ | with_reducible refine thenQ_e ?_ | with_reducible refine blockQ_t ?_ | with_reducible refine blockQ_f (by decide) ?_))))
    refine end_to [48] [(96, 40)] (by first | exact .inl rfl | exact .inr rfl) rfl (by kernel_rfl) (by kernel_rfl) (by kernel_rfl) ?_ ?_ <;> repeat' (first | exact trivial | exact vr_val _ | exact vr_list _ | exact vr_ptr _ _ _ rfl | apply vr_tup | refine vr_fl _ _ _ _ _ (by decide) rfl ?_ ?_ ?_ ?_ | refine And.intro ⟨_, rfl, _, rfl, by decide, ?_⟩ ?_ | apply And.intro)
    all_goals first | exact ints_one _ | exact (ints_len _).trans hl2 | exact ints_flat _ | exact icells_in _ | (rw [Nat.mul_one, ic_take _ _ hl2]; exact ints_flat _) | (rw [Nat.mul_one, icells_len]; omega)
  have g1 := rows_gd frs k hk2
  have ki : (k : Int) < (frs.length : Int) := by omega
  have hfm := hf.m k
  have hss := subsK_succ l frs k
  have hsl := subsK_len l frs k
  have hsub : subF l (frm frs k) = if frOk l (frm frs k) then idx4 l ((frm frs k)[0]?.getD 0) else -1 := rfl
  rw [show frs[k]?.getD [] = frm frs k from rfl] at g1
  generalize frm frs k = fr at *
  generalize subF l fr = sv at *
  have hit : (icells (subsK l frs k)).take k = icells (subsK l frs k) := ic_take _ _ hsl
  refine aw_seq (aw_region ?_)
  simp (config := {maxSteps := 10000000}) (disch := first | exact okYes (by kernel_rfl) | omega) only [thenQ, Int.reduceNeg, dI, List.length, Nat.zero_add, Nat.reduceMul, Nat.reduceAdd, ARun_none, AOpRun, aexec, FSt.ev, St.F, eget_c, Nat.reduceBEq, ↓eget_h, cond_false, isSh, Bool.false_eq_true, ↓reduceIte, Option.map, abin, ki, decide_true, AGo_ok, St.app, putO, eput_c, eput_n, hups, List.map, ARun_nil, dropE_c, inL_n, dropE_n]
  refine aw_seq (aw_condT rfl ?_)
  refine aw_skip (aw_seq (aw_block (aw_seq (aw_region ?_))))
  simp (config := {maxSteps := 10000000}) (disch := first | exact okYes (by kernel_rfl) | omega) only [thenQ, Int.reduceNeg, List.length, Nat.zero_add, Nat.reduceAdd, Nat.reduceMul, ARun_none, AOpRun, aexec, FSt.ev, St.F, eget_c, Nat.reduceBEq, ↓eget_h, cond_false, Int.natCast_nonneg, rows_all, and_self, ↓reduceIte, opt1, Option.map, Int.toNat_natCast, g1, AGo_ok, St.app, putO, eput_c, eput_n, hups, List.map, run1, List.getElem?_cons_zero, ARun_nil, dropE_c, inL_c, inL_n, beq_self_eq_true, cond_true, dropE_n]
  refine aw_seq (aw_region ?_)
  simp (config := {maxSteps := 10000000}) (disch := first | exact okYes (by kernel_rfl) | omega) only [thenQ, List.length, Nat.zero_add, Nat.reduceMul, Nat.reduceAdd, Int.reduceNeg, ARun_none, AOpRun, aexec, FSt.ev, AGo_ok, St.app, putO, eput_c, Nat.reduceBEq, eput_n, cond_false, hups, List.map, ARun_nil, dropE_c, inL_n, dropE_n]
  refine aw_cut ⟨[(1, .list (rows frs)), (2, .ptr 0 0), (7, .ptr 40 0), (8, .fn 116 [] []), (11, dI sv), (24, .list (rows frs)), (25, dI frs.length), (26, dI k)],
    [(0, [dI l.words, dI l.s0, dI l.s1, dI l.s2, dI l.s3, .list (fls l.fl)]), (40, [dI l.words, dI l.s0, dI l.s1, dI l.s2, dI l.s3, .list (fls l.fl), .list (rows frs), .vec 48 k 1]), (48, icells (subsK l frs k))], 300⟩ ?_ ?_
  · by_cases hlen : (fr.length : Int) = l.words
    case neg =>
      have e : sv = -1 := by rw [hsub, if_neg fun h => hlen h.1]
      have q1 : ((fr.length : Int) == l.words) = false := by simp only [beq_eq_false_iff_ne]; exact hlen
      rw [e]
      (have hg : (987654321 : Nat) - 987654321 = 0 := rfl; have hr := hg; repeat' (first | refine aw_seq ?_ | (refine aw_skip ?_; repeat' (first | with_reducible refine thenQ_n ?_ | with_reducible refine blockQ_n ?_ | with_reducible refine thenQ_e ?_ | with_reducible refine blockQ_t ?_ | with_reducible refine blockQ_f (by decide) ?_)) | (refine aw_exit ?_; repeat' (first | with_reducible refine thenQ_n ?_ | with_reducible refine blockQ_n ?_ | with_reducible refine thenQ_e ?_ | with_reducible refine blockQ_t ?_ | with_reducible refine blockQ_f (by decide) ?_)) | refine aw_ret ?_ | refine aw_block ?_ | refine aw_condT rfl ?_ | refine aw_condF rfl ?_ | ((first | refine aw_hide fun K hK => aw_region ?_ | refine ago_if (by omega) ?_ | skip); simp (config := {maxSteps := 10000000}) (disch := first | exact okYes (by kernel_rfl) | omega) only [List.length, Nat.zero_add, Nat.reduceAdd, Nat.reduceMul, Int.reduceNeg, ARun_none, AOpRun, aexec, FSt.ev, St.F, eget_c, Nat.reduceBEq, ↓eget_h, cond_false, AGo_ok, St.app, putO, eput_c, eput_n, hups, List.map, ints_len, Option.map, run1, hget_c, beq_self_eq_true, hget_n, cond_true, List.getElem?_cons_zero, isSh, Bool.false_eq_true, ↓reduceIte, abin, q1, ARun_some, AG_ft, ARun_nil, dropE_c, inL_c, inL_n, dropE_n, dI]) | (subst hK; repeat' (first | with_reducible refine thenQ_n ?_ | with_reducible refine blockQ_n ?_ | with_reducible refine thenQ_e ?_ | with_reducible refine blockQ_t ?_ | with_reducible refine blockQ_f (by decide) ?_))))
      refine wk_to [] [(0, 0), (40, 40), (48, 48)] (by kernel_rfl) (by kernel_rfl) (by kernel_rfl) (by kernel_rfl) (by kernel_rfl) ?_ ?_ <;> repeat' (first | exact trivial | exact vr_val _ | exact vr_list _ | exact vr_vec _ _ _ _ rfl | exact vr_ptr _ _ _ rfl | apply vr_fn | refine And.intro ⟨_, rfl, .inl ⟨_, rfl, by decide, ?_⟩⟩ ?_ | apply And.intro | exact vrl_flat _ (by first | exact icells_in _ | exact rcells_in _ | exact scells_in _ | exact bcells_in _ | assumption))
    have q1 : ((fr.length : Int) == l.words) = true := by simp only [beq_iff_eq]; exact hlen
    have cf := cfunc_ac fr (by omega)
    cases ha : fr.all wOk with
    | false =>
      have e : sv = -1 := by rw [hsub, if_neg fun h => by have := h.2; rw [ha] at this; cases this]
      rw [ha] at cf
      rw [e]
      (have hg : (987654321 : Nat) - 987654321 = 0 := rfl; have hr := hg; repeat' (first | refine aw_seq ?_ | (refine aw_skip ?_; repeat' (first | with_reducible refine thenQ_n ?_ | with_reducible refine blockQ_n ?_ | with_reducible refine thenQ_e ?_ | with_reducible refine blockQ_t ?_ | with_reducible refine blockQ_f (by decide) ?_)) | (refine aw_exit ?_; repeat' (first | with_reducible refine thenQ_n ?_ | with_reducible refine blockQ_n ?_ | with_reducible refine thenQ_e ?_ | with_reducible refine blockQ_t ?_ | with_reducible refine blockQ_f (by decide) ?_)) | refine aw_ret ?_ | refine aw_block ?_ | refine aw_condT rfl ?_ | refine aw_condF rfl ?_ | ((first | refine aw_hide fun K hK => aw_region ?_ | refine acall0 (cf) ?_ | refine ago_if (by omega) ?_ | skip); simp (config := {maxSteps := 10000000}) (disch := first | exact okYes (by kernel_rfl) | omega) only [List.length, Nat.zero_add, Nat.reduceAdd, Nat.reduceMul, Int.reduceNeg, ARun_none, AOpRun, aexec, FSt.ev, St.F, eget_c, Nat.reduceBEq, ↓eget_h, cond_false, AGo_ok, St.app, putO, eput_c, eput_n, hups, List.map, ints_len, Option.map, run1, hget_c, beq_self_eq_true, hget_n, cond_true, List.getElem?_cons_zero, isSh, Bool.false_eq_true, ↓reduceIte, abin, q1, ARun_some, AG_tt, dB, Bool.not_false, Bool.not_true, ARun_nil, dropE_c, inL_c, inL_n, dropE_n, dI]) | (subst hK; repeat' (first | with_reducible refine thenQ_n ?_ | with_reducible refine blockQ_n ?_ | with_reducible refine thenQ_e ?_ | with_reducible refine blockQ_t ?_ | with_reducible refine blockQ_f (by decide) ?_))))
      refine wk_to [] [(0, 0), (40, 40), (48, 48)] (by kernel_rfl) (by kernel_rfl) (by kernel_rfl) (by kernel_rfl) (by kernel_rfl) ?_ ?_ <;> repeat' (first | exact trivial | exact vr_val _ | exact vr_list _ | exact vr_vec _ _ _ _ rfl | exact vr_ptr _ _ _ rfl | apply vr_fn | refine And.intro ⟨_, rfl, .inl ⟨_, rfl, by decide, ?_⟩⟩ ?_ | apply And.intro | exact vrl_flat _ (by first | exact icells_in _ | exact rcells_in _ | exact scells_in _ | exact bcells_in _ | assumption))
    | true =>
      have e : sv = idx4 l (fr[0]?.getD 0) := by rw [hsub, if_pos ⟨hlen, ha⟩]
      rw [ha] at cf
      have ix := index_ac (sync l) (fr[0]?.getD 0) (by simp [sync])
      rw [idx_sync, ← e] at ix
      have vw : ∀ c1 c2, Vw (hget [(0, [.val (.int .i64 l.words), .val (.int .i64 l.s0), .val (.int .i64 l.s1), .val (.int .i64 l.s2), .val (.int .i64 l.s3), .list (fls l.fl)]), (40, c1), (48, c2)]) [0] (.own 0 1 4 1) (.list (ints (sync l))) := fun c1 c2 => own_ints (sync l) (by simp) (c := layC l) rfl (by simp [sync]) (by simp [layC]) rfl (layC_in l)
      have g0 := ints_gd fr 0 (by omega)
      (have hg : (987654321 : Nat) - 987654321 = 0 := rfl; have hr := hg; repeat' (first | refine aw_seq ?_ | (refine aw_skip ?_; repeat' (first | with_reducible refine thenQ_n ?_ | with_reducible refine blockQ_n ?_ | with_reducible refine thenQ_e ?_ | with_reducible refine blockQ_t ?_ | with_reducible refine blockQ_f (by decide) ?_)) | (refine aw_exit ?_; repeat' (first | with_reducible refine thenQ_n ?_ | with_reducible refine blockQ_n ?_ | with_reducible refine thenQ_e ?_ | with_reducible refine blockQ_t ?_ | with_reducible refine blockQ_f (by decide) ?_)) | refine aw_ret ?_ | refine aw_block ?_ | refine aw_condT rfl ?_ | refine aw_condF rfl ?_ | ((first | refine aw_hide fun K hK => aw_region ?_ | refine acall0 (cf) ?_ | refine acall (ix) [0] ⟨vw _ _, .refl _, trivial⟩ (.inr (.val _)) (by simp only [List.mem_cons, List.not_mem_nil, or_false, forall_eq_or_imp, forall_eq]; first | exact ⟨_, rfl⟩ | exact ⟨⟨_, rfl⟩, ⟨_, rfl⟩⟩) (by kernel_rfl) ?_ | refine ago_if (by omega) ?_ | skip); simp (config := {maxSteps := 10000000}) (disch := first | exact okYes (by kernel_rfl) | omega) only [List.length, Nat.zero_add, Nat.reduceAdd, Nat.reduceMul, Int.reduceNeg, ARun_none, AOpRun, aexec, FSt.ev, St.F, eget_c, Nat.reduceBEq, ↓eget_h, cond_false, AGo_ok, St.app, putO, eput_c, eput_n, hups, List.map, ints_len, Option.map, run1, hget_c, beq_self_eq_true, hget_n, cond_true, List.getElem?_cons_zero, isSh, Bool.false_eq_true, ↓reduceIte, abin, q1, ARun_some, AG_tt, dB, Bool.not_true, Bool.not_false, ARun_nil, dropE_c, inL_c, inL_n, dropE_n, asI, cast_lit, Int.le_refl, Int.reduceLE, Nat.mul_one, Nat.reduceLeDiff, Int.reduceLT, or_self, and_self, Int.toNat_zero, Int.reduceSub, Int.reduceToNat, ints_all, opt1, g0, dI]) | (subst hK; repeat' (first | with_reducible refine thenQ_n ?_ | with_reducible refine blockQ_n ?_ | with_reducible refine thenQ_e ?_ | with_reducible refine blockQ_t ?_ | with_reducible refine blockQ_f (by decide) ?_))))
      refine wk_to [] [(0, 0), (40, 40), (48, 48)] (by kernel_rfl) (by kernel_rfl) (by kernel_rfl) (by kernel_rfl) (by kernel_rfl) ?_ ?_ <;> repeat' (first | exact trivial | exact vr_val _ | exact vr_list _ | exact vr_vec _ _ _ _ rfl | exact vr_ptr _ _ _ rfl | apply vr_fn | refine And.intro ⟨_, rfl, .inl ⟨_, rfl, by decide, ?_⟩⟩ ?_ | apply And.intro | exact vrl_flat _ (by first | exact icells_in _ | exact rcells_in _ | exact scells_in _ | exact bcells_in _ | assumption))
  · have hic : (icells (subsK l frs k)).length = k := by rw [icells_len, hsl]
    have e : icells (subsK l frs (k + 1)) = icells (subsK l frs k) ++ [.val (.int .i64 sv)] := by rw [hss, ← ic_app]
    have hcin : ∀ y ∈ icells (subsK l frs k) ++ [.val (.int .i64 sv)], In (fun _ => False) y := by rw [← e]; exact icells_in _
    (have hg : (987654321 : Nat) - 987654321 = 0 := rfl; have hr := hg; repeat' (first | refine aw_seq ?_ | (refine aw_skip ?_; repeat' (first | with_reducible refine thenQ_n ?_ | with_reducible refine blockQ_n ?_ | with_reducible refine thenQ_e ?_ | with_reducible refine blockQ_t ?_ | with_reducible refine blockQ_f (by decide) ?_)) | (refine aw_exit ?_; repeat' (first | with_reducible refine thenQ_n ?_ | with_reducible refine blockQ_n ?_ | with_reducible refine thenQ_e ?_ | with_reducible refine blockQ_t ?_ | with_reducible refine blockQ_f (by decide) ?_)) | refine aw_ret ?_ | refine aw_block ?_ | refine aw_condT rfl ?_ | refine aw_condF rfl ?_ | ((first | refine aw_hide fun K hK => aw_region ?_ | refine ago_if (by omega) ?_ | skip); simp (config := {maxSteps := 10000000}) (disch := first | exact okYes (by kernel_rfl) | omega) only [List.length, Nat.zero_add, Nat.reduceAdd, Nat.reduceMul, dI, ARun_none, AOpRun, aexec, FSt.ev, St.F, eget_c, Nat.reduceBEq, ↓eget_h, cond_false, AGo_ok, St.app, putO, eput_c, eput_n, hups, List.map, Option.map, run1, hget_c, ↓hget_h, List.getElem?_cons_succ, List.getElem?_cons_zero, Option.isSome, hget_n, Bool.false_eq_true, ↓reduceIte, fillD, D.isBot, D.cells, ne_eq, not_true_eq_false, Nat.reduceGT, or_self, splice, List.take, List.nil_append, List.drop, List.append_nil, hput_c, hput_n, base, Nat.mul_one, hic, Nat.le_refl, and_self, hit, elems, List.all, D.leaf, Bool.and_true, and_true, ups, List.cons_append, hdel_c, beq_self_eq_true, hdel_n, cond_true, ARun_nil, dropE_c, inL_c, inL_n, dropE_n, isSh, abin, fits]) | (subst hK; repeat' (first | with_reducible refine thenQ_n ?_ | with_reducible refine blockQ_n ?_ | with_reducible refine thenQ_e ?_ | with_reducible refine blockQ_t ?_ | with_reducible refine blockQ_f (by decide) ?_))))
    refine ⟨k + 1, by omega, by omega, ?_⟩
    rw [e]
    refine wk_to [] [(0, 0), (40, 40), (48, 356)] (by kernel_rfl) (by kernel_rfl) (by kernel_rfl) (by kernel_rfl) (by kernel_rfl) ?_ ?_ <;> repeat' (first | exact trivial | exact vr_val _ | exact vr_list _ | exact vr_vec _ _ _ _ rfl | exact vr_ptr _ _ _ rfl | apply vr_fn | refine And.intro ⟨_, rfl, .inl ⟨_, rfl, by decide, ?_⟩⟩ ?_ | apply And.intro | exact vrl_flat _ (by first | exact icells_in _ | exact rcells_in _ | exact scells_in _ | exact bcells_in _ | assumption))
end Go.Proofs.Ytdcodicoclecnaa
/- record: the loop over the good frames of a tape, whatever its body does. No conditions. -/
set_option linter.unusedSimpArgs false
set_option linter.unusedVariables false
namespace Go.Proofs.Ytdcodicoclecnaa.Lift
open Go Go.RowKit

theorem nle {a b : Nat} (h : Nat.ble a b = true) : a ≤ b := Nat.le_of_ble_eq_true h
theorem nlt {a b : Nat} (h : Nat.ble (a + 1) b = true) : a < b := Nat.le_of_ble_eq_true h
theorem In.mono {S T : Nat → Prop} {d : D} (h : In S d) (hT : ∀ g, S g → T g) : In T d := by
  induction h with
  | bot => exact .bot
  | val v => exact .val v
  | agg l _ ih => exact .agg l fun d hd => ih d hd
  | tup l _ ih => exact .tup l fun d hd => ih d hd
  | list l => exact .list l
  | at_ l => exact .at_ l
  | own g off len sz h => exact .own g off len sz (hT g h)
  | cap0 => exact .cap0
  | ptr g off h => exact .ptr g off (hT g h)
  | vec g len sz h => exact .vec g len sz (hT g h)
  | fn f k l _ _ ih1 ih2 => exact .fn f k l (fun d hd => ih1 d hd) fun d hd => ih2 d hd
  | yld g r k h _ ih => exact .yld g r k (hT g h) fun d hd => ih d hd
  | yref g h => exact .yref g (hT g h)
/-- objects with names below n, without yields -/
def LowH (n : Nat) (h : Hp) : Prop := (∀ g c, hget h g = some c → g < n ∧ ∀ d ∈ c, In (· < n) d) ∧ hpY h = true
theorem LowH.cons {n g : Nat} {c : List D} {h : Hp} (hg : g < n) (hc : ∀ d ∈ c, In (· < n) d) (hy : c.all (noY 9) = true) (h1 : LowH n h) : LowH n ((g, c) :: h) := by
  refine ⟨fun g' c' h2 => ?_, by simp only [hpY, List.all_cons, hy, Bool.true_and]; exact h1.2⟩
  simp only [hget] at h2
  split at h2
  · rename_i he; cases h2; subst he; exact ⟨hg, hc⟩
  · exact h1.1 g' c' h2
theorem LowH.nil {n : Nat} : LowH n [] := ⟨fun g c h => by simp [hget] at h, rfl⟩
theorem LowH.get {n m : Nat} {h : Hp} (h1 : LowH n h) (hm : n ≤ m) : ∀ g c, hget h g = some c → g < m ∧ ∀ d ∈ c, In (· < m) d := fun g c hc =>
  ⟨Nat.lt_of_lt_of_le (h1.1 g c hc).1 hm, fun d hd => ((h1.1 g c hc).2 d hd).mono fun x hx => Nat.lt_of_lt_of_le hx hm⟩
end Go.Proofs.Ytdcodicoclecnaa.Lift
namespace Go.Proofs.Ytdcodicoclecnaa
open Go Go.RowKit Lift

set_option maxRecDepth 100000 in
set_option maxHeartbeats 4000000 in
theorem good_hit {n : Nat} {ps : List Nat} {asg : List (Nat × Nat)} {cb : ACode} {r : Loop} (hr : LoopIs Try.prog n ps asg cb r) (hps : ps.length = 2) (l : Lay) (frs : List (List Int)) (hn : frs.length ≤ 200)
    (pin : List Nat) (hpin : ∀ g ∈ pin, g < 1000) (k : List D) (hk : kOK k = true) (hkp : ∀ d ∈ k, In (· ∈ pin) d) (h96 : 96 ∈ pin) (hp : Nat → Hp) (hlow : ∀ i, LowH 1000 (hp i)) {Q : AExit → St → Prop} {env' : Env}
    (hno : ∀ i, i < frs.length → ¬ 0 ≤ subF l (frm frs i) → hp (i + 1) = hp i)
    (hb : ∀ i, i < frs.length → 0 ≤ subF l (frm frs i) → AWb true Try.prog n (1000 :: pin) cb (fun e s => e = .norm ∧ Wk (1000 :: pin) s ⟨[], (96, tpC l frs) :: hp (i + 1), 1300⟩) ⟨bodyE k ps [dI i, dI (subF l (frm frs i))] asg, (96, tpC l frs) :: hp i, 1300⟩)
    (hQ : Q .norm ⟨env', (96, tpC l frs) :: hp frs.length, 1100⟩) : AWb false Try.prog 26 pin cprecord_tape_good (RangeQ Q env') ⟨envOf 0 [.ptr 96 0, .yld 1000 r k], (96, tpC l frs) :: hp 0, 1008⟩ := by
  have hmax : maxLen = 9223372036854775807 := rfl
  have hL : ∀ i, LowH 1000 ((96, tpC l frs) :: hp i) := fun i => (hlow i).cons (by omega) (tpC_in _ l frs) rfl
  have hpre : ∀ m, 1000 ≤ m → ∀ g ∈ pin, g < m := fun m hm g hg => Nat.lt_of_lt_of_le (hpin g hg) hm
  have hkl : ∀ m, 1001 ≤ m → In (· < m) (.yld 1000 r k) := fun m hm => .yld _ _ _ (by show 1000 < m; omega) fun d hd => (hkp d hd).mono fun g hg => hpre m (by omega) g hg
  refine aw_post (Q := fun e s => e = .norm ∧ s.hp = (96, tpC l frs) :: hp frs.length) ?_ ?_
  case refine_2 =>
    rintro e s ⟨rfl, hs⟩
    exact ⟨⟨[], (96, tpC l frs) :: hp frs.length, 1100⟩, wk_low (hpre _ (nle rfl)) hs.symm trivial (by rw [hs]; exact (hL _).get (nle rfl)), rangeQ (.inl rfl) (hL _).2 hQ⟩
  have hsl := subsK_len l frs frs.length
  unfold cprecord_tape_good
  unfold tpC at *
  refine aw_seq (aw_region ?_)
  simp (config := {maxSteps := 10000000}) (disch := first | exact okYes (by kernel_rfl) | omega) only [thenQ, dI, List.length, Nat.zero_add, Nat.reduceAdd, Nat.reduceMul, envOf, ARun_none, AOpRun, aexec, FSt.ev, St.F, ↓eget_h, AGo_ok, St.app, putO, eput_c, Nat.reduceBEq, eput_n, cond_false, hups, List.map, eget_c, Option.map, run1, hget_c, beq_self_eq_true, cond_true, List.getElem?_cons_succ, List.getElem?_cons_zero, ints_len, hsl, ARun_nil, dropE_c, inL_c, inL_n, dropE_n]
  refine aw_block (aw_loop (fun i : Nat => ⟨[(0, .ptr 96 0), (1, .yld 1000 r k), (9, .list (ints (subsK l frs frs.length))), (10, dI frs.length), (11, dI i)], (96, tpC l frs) :: hp i, 1100⟩) (fun i => i ≤ frs.length) (fun i => frs.length - i) ⟨0, by omega, ?_⟩ ?_)
  · exact wk_low (hpre _ (nle rfl)) rfl ⟨rfl, .ptr _ _ (nlt rfl), rfl, hkl _ (nle rfl), rfl, .list _, rfl, .val _, rfl, .val _, trivial⟩ ((hL 0).get (nle rfl))
  intro i hi
  unfold tpC
  refine aw_seq (aw_region ?_)
  by_cases hi2 : i < frs.length
  case neg =>
    obtain rfl : i = frs.length := by omega
    simp (config := {maxSteps := 10000000}) (disch := first | exact okYes (by kernel_rfl) | omega) only [thenQ, dI, List.length, Nat.zero_add, Nat.reduceMul, Nat.reduceAdd, ARun_none, AOpRun, aexec, FSt.ev, St.F, eget_c, Nat.reduceBEq, ↓eget_h, cond_false, isSh, Bool.false_eq_true, ↓reduceIte, Option.map, abin, Int.lt_irrefl, decide_false, AGo_ok, St.app, putO, eput_c, eput_n, hups, List.map, ARun_nil, dropE_c, inL_n, dropE_n]
    refine aw_seq (aw_condF rfl ?_)
    refine aw_exit ?_
    simp only [thenQ, blockQ, if_true, if_false, Nat.reduceEqDiff, reduceCtorEq]
    exact ⟨trivial, trivial⟩
  have ki : (i : Int) < (frs.length : Int) := by omega
  simp (config := {maxSteps := 10000000}) (disch := first | exact okYes (by kernel_rfl) | omega) only [thenQ, dI, List.length, Nat.zero_add, Nat.reduceMul, Nat.reduceAdd, ARun_none, AOpRun, aexec, FSt.ev, St.F, eget_c, Nat.reduceBEq, ↓eget_h, cond_false, isSh, Bool.false_eq_true, ↓reduceIte, Option.map, abin, ki, decide_true, AGo_ok, St.app, putO, eput_c, eput_n, hups, List.map, ARun_nil, dropE_c, inL_n, dropE_n]
  refine aw_seq (aw_condT rfl ?_)
  have g1 := ints_gd (subsK l frs frs.length) i (by omega)
  rw [subsK_get l frs frs.length i hi2] at g1
  refine aw_skip (aw_seq (aw_block (aw_seq (aw_region ?_))))
  simp (config := {maxSteps := 10000000}) (disch := first | exact okYes (by kernel_rfl) | omega) only [thenQ, List.length, Nat.zero_add, Nat.reduceAdd, Nat.reduceMul, ARun_none, AOpRun, aexec, FSt.ev, St.F, eget_c, Nat.reduceBEq, ↓eget_h, cond_false, AGo_ok, St.app, putO, eput_c, eput_n, hups, List.map, Int.natCast_nonneg, ints_all, and_self, ↓reduceIte, opt1, Option.map, Int.toNat_natCast, g1, run1, List.getElem?_cons_zero, ARun_nil, dropE_c, inL_c, inL_n, beq_self_eq_true, cond_true, dropE_n]
  by_cases hs : 0 ≤ subF l (frm frs i)
  case neg =>
    have q : decide (subF l (frm frs i) ≥ 0) = false := decide_eq_false hs
    refine aw_seq (aw_region ?_)
    simp (config := {maxSteps := 10000000}) (disch := first | exact okYes (by kernel_rfl) | omega) only [thenQ, List.length, Nat.zero_add, Nat.reduceAdd, Nat.reduceMul, ARun_none, AOpRun, aexec, FSt.ev, St.F, eget_c, Nat.reduceBEq, ↓eget_h, cond_false, AGo_ok, St.app, putO, eput_c, eput_n, hups, List.map, isSh, Bool.false_eq_true, ↓reduceIte, Option.map, abin, q, ARun_some, AG_ft, ARun_nil, dropE_c, inL_c, inL_n, beq_self_eq_true, cond_true, dropE_n]
    refine aw_condF rfl (aw_skip ?_)
    simp only [thenQ, blockQ, if_true, if_false, Nat.reduceEqDiff, reduceCtorEq]
    refine aw_region ?_
    simp (config := {maxSteps := 10000000}) (disch := first | exact okYes (by kernel_rfl) | omega) only [thenQ, List.length, Nat.zero_add, Nat.reduceAdd, Nat.reduceMul, ARun_none, AOpRun, aexec, FSt.ev, St.F, eget_c, Nat.reduceBEq, ↓eget_h, cond_false, isSh, Bool.false_eq_true, ↓reduceIte, Option.map, abin, fits, AGo_ok, St.app, putO, eput_c, eput_n, hups, List.map, beq_self_eq_true, cond_true, ARun_nil, dropE_c, inL_c, inL_n, dropE_n]
    refine ⟨i + 1, by omega, by omega, ?_⟩
    rw [hno i hi2 hs]
    exact wk_low (hpre _ (nle rfl)) rfl ⟨rfl, .ptr _ _ (nlt rfl), rfl, hkl _ (nle rfl), rfl, .list _, rfl, .val _, rfl, .val _, trivial⟩ ((hL i).get (nle rfl))
  have q : decide (subF l (frm frs i) ≥ 0) = true := decide_eq_true hs
  refine aw_seq (aw_region_yieldG hr [⟨some 16, .mv (.tmp 5), none, []⟩, ⟨some 17, .bin .geq (.tmp 16) (.const (.int .i64 0)), none, []⟩, ⟨some 18, .mv (.tmp 17), none, []⟩, ⟨some 19, .mv (.tmp 1), (some (some 18, true)), []⟩, ⟨some 20, .mv (.tmp 4), (some (some 18, true)), []⟩, ⟨some 21, .mv (.tmp 5), (some (some 18, true)), []⟩]
    [⟨some 23, .un .not (.tmp 22), (some (some 18, true)), []⟩, ⟨some 24, .pick (.tmp 18) (.tmp 23) (.const (.bool false)), none, []⟩] ?_)
  simp (config := {maxSteps := 10000000}) (disch := first | exact okYes (by kernel_rfl) | omega) only [List.length, Nat.zero_add, Nat.reduceAdd, Nat.reduceMul, ARun_none, AOpRun, aexec, FSt.ev, St.F, eget_c, Nat.reduceBEq, ↓eget_h, cond_false, AGo_ok, St.app, putO, eput_c, eput_n, hups, List.map, isSh, Bool.false_eq_true, ↓reduceIte, Option.map, abin, q, ARun_some, AG_tt, ARun_nil]
  refine yieldKG (1000 :: pin) [(0, .ptr 96 0), (1, .yld 1000 r k), (9, .list (ints (subsK l frs frs.length))), (10, dI frs.length), (11, dI i), (18, dB true)] [dI i, dI (subF l (frm frs i))] rfl rfl rfl hr hps.symm rfl hk (hL i).2 (fun g hg => List.mem_cons_of_mem _ hg)
    ⟨.inr ⟨rfl, .ptr _ _ (List.mem_cons_of_mem _ h96)⟩, .inr ⟨rfl, .yld _ _ _ (List.mem_cons_self ..) fun d hd => (hkp d hd).mono fun g hg => List.mem_cons_of_mem _ hg⟩, .inr ⟨rfl, .list _⟩, .inr ⟨rfl, .val _⟩, .inr ⟨rfl, .val _⟩, .inr ⟨rfl, .val _⟩, trivial⟩ ?_
  refine aw_wk (wk_up (m := 1300) (by decide)) (aw_post (hb i hi2 hs) ?_)
  rintro e s ⟨rfl, hw⟩
  refine ⟨_, hw, yieldQ (hL (i + 1)).2 (nle rfl) ?_⟩
  simp (config := {maxSteps := 10000000}) (disch := first | exact okYes (by kernel_rfl) | omega) only [Nat.reduceAdd, Nat.reduceMul, Nat.reduceSub, thenQ, List.length, Nat.zero_add, putO, dI, dB, eput_c, Nat.reduceBEq, eput_n, cond_false, ARun_some, eget_c, ↓eget_h, AG_tt, AOpRun, aexec, FSt.ev, St.F, Bool.not_true, AGo_ok, St.app, hups, List.map, ARun_none, ↓reduceIte, ARun_nil, dropE_c, inL_c, inL_n, beq_self_eq_true, cond_true, dropE_n]
  refine aw_condF rfl (aw_skip ?_)
  simp only [thenQ, blockQ, if_true, if_false, Nat.reduceEqDiff, reduceCtorEq]
  refine aw_region ?_
  simp (config := {maxSteps := 10000000}) (disch := first | exact okYes (by kernel_rfl) | omega) only [thenQ, List.length, Nat.zero_add, Nat.reduceAdd, Nat.reduceMul, ARun_none, AOpRun, aexec, FSt.ev, St.F, eget_c, Nat.reduceBEq, ↓eget_h, cond_false, isSh, Bool.false_eq_true, ↓reduceIte, Option.map, abin, fits, AGo_ok, St.app, putO, eput_c, eput_n, hups, List.map, beq_self_eq_true, cond_true, ARun_nil, dropE_c, inL_c, inL_n, dropE_n]
  refine ⟨i + 1, by omega, by omega, ?_⟩
  exact wk_low (hpre _ (nle rfl)) rfl ⟨rfl, .ptr _ _ (nlt rfl), rfl, hkl _ (nle rfl), rfl, .list _, rfl, .val _, rfl, .val _, trivial⟩ ((hL (i + 1)).get (nle rfl))
end Go.Proofs.Ytdcodicoclecnaa
/- record: choosing truth values. No conditions. -/
set_option linter.unusedSimpArgs false
set_option linter.unusedVariables false
namespace Go.Proofs.Ytdcodicoclecnaa
open Go Go.RowKit Lift

set_option maxRecDepth 100000 in
set_option maxHeartbeats 1000000 in
theorem ibool_ac (l : List Bool) (b : Bool) (hl : l.length ≤ 1000000) : AC Try.prog 149 [.list (bools l), dB b] [] [] (dI (match l.findIdx? (fun x => x == b) with
    | some k => (k : Int)
    | none => -1)) := by
  refine kslices_Index_L_L_Jbool_Kbool_J.ac (n0 := 0) (by simp) ⟨.list _, .val _, trivial⟩ trivial rfl ?_
  unfold cslices_Index_L_L_Jbool_Kbool_J
  (have hg : (987654321 : Nat) - 987654321 = 0 := rfl; have hr := hg; repeat' (first | refine aw_seq ?_ | (refine aw_skip ?_; try simp only [thenQ, blockQ, if_true, if_false, Nat.reduceEqDiff, reduceCtorEq]) | (refine aw_exit ?_; try simp only [thenQ, blockQ, if_true, if_false, Nat.reduceEqDiff, reduceCtorEq]) | refine aw_ret ?_ | refine aw_block ?_ | refine aw_condT rfl ?_ | refine aw_condF rfl ?_ | ((first | refine aw_region ?_ | refine ago_if (by omega) ?_ | skip); simp (config := {maxSteps := 10000000}) (disch := first | exact okYes (by kernel_rfl) | omega) only [thenQ, List.map, Int.reduceNeg, dI, List.length, Nat.zero_add, Nat.reduceMul, envOf, dB, ARun_none, AOpRun, aexec, FSt.ev, AGo_ok, St.app, putO, eput_c, Nat.reduceBEq, eput_n, cond_false, hups, ARun_nil, dropE_c, inL_n, dropE_n, Nat.reduceAdd, St.F, ↓eget_h, eget_c, bools_len, inL_c, beq_self_eq_true, cond_true])))
  refine aw_loop (fun k : Nat => ⟨[(0, .list (bools l)), (1, dB b), (7, dI l.length), (8, dI k)], [], 400⟩) (fun k => k ≤ l.length ∧ ∀ j, j < k → (l[j]?.getD false == b) = false) (fun k => l.length - k) ⟨0, ⟨by omega, fun j hj => by omega⟩, ?_⟩ ?_
  · refine wk_to [] [] (by kernel_rfl) (by kernel_rfl) (by kernel_rfl) (by kernel_rfl) (by kernel_rfl) ?_ ?_ <;> repeat' (first | exact trivial | exact vr_val _ | exact vr_list _ | apply And.intro)
  rintro k ⟨hk, hin⟩
  by_cases hk2 : k < l.length
  · have g1 := bools_gd l k hk2
    unfold dB at g1
    cases he : (l[k]?.getD false == b) with
    | true =>
      have q : l.findIdx? (fun x => x == b) = some k := by
        rw [List.findIdx?_eq_some_iff_getElem]
        refine ⟨hk2, by have := he; simp only [hk2, List.getElem?_eq_getElem, Option.getD_some] at this; exact this, fun j hj => ?_⟩
        have := hin j hj
        simp only [show j < l.length by omega, List.getElem?_eq_getElem, Option.getD_some] at this
        simp [this]
      have he2 : (b == l[k]?.getD false) = true := by rw [beq_iff_eq] at he ⊢; exact he.symm
      rw [q]
      generalize l[k]?.getD false = v at *
      (have hg : (987654321 : Nat) - 987654321 = 0 := rfl; have hr := hg; repeat' (first | refine aw_seq ?_ | (refine aw_skip ?_; try simp only [thenQ, blockQ, if_true, if_false, Nat.reduceEqDiff, reduceCtorEq]) | (refine aw_exit ?_; try simp only [thenQ, blockQ, if_true, if_false, Nat.reduceEqDiff, reduceCtorEq]) | refine aw_ret ?_ | refine aw_block ?_ | refine aw_condT rfl ?_ | refine aw_condF rfl ?_ | (refine aw_cond rfl (fun hg => ?_) (fun hg => ?_) <;> (try (have hq := hg; simp only [Bool.not_eq_true', Bool.not_eq_false', Bool.and_eq_true, Bool.and_eq_false_iff, Bool.or_eq_true, Bool.or_eq_false_iff, decide_eq_true_eq, decide_eq_false_iff_not, bne_iff_ne, beq_iff_eq, beq_eq_false_iff_ne, bne_eq_false_iff_eq, ne_eq, Int.not_lt, Int.not_le, Decidable.not_not] at hq)) <;> (try (have hr := hg; simp only [decide_eq_true_eq, decide_eq_false_iff_not] at hr)) <;> (try (exfalso; omega))) | ((first | refine aw_region ?_ | refine ago_if (by omega) ?_ | skip); simp (config := {maxSteps := 10000000}) (disch := first | exact okYes (by kernel_rfl) | omega) only [thenQ, dB, dI, Int.reduceNeg, List.length, Nat.zero_add, Nat.reduceMul, Nat.reduceAdd, ARun_none, AOpRun, aexec, FSt.ev, St.F, eget_c, Nat.reduceBEq, ↓eget_h, cond_false, isSh, Bool.false_eq_true, ↓reduceIte, Option.map, abin, AGo_ok, St.app, putO, eput_c, eput_n, hups, List.map, ARun_nil, dropE_c, inL_n, dropE_n, hr, decide_true, inL_c, beq_self_eq_true, cond_true, Int.natCast_nonneg, bools_all, and_self, opt1, Int.toNat_natCast, g1, run1, List.getElem?_cons_zero, he2, blockQ])))
      all_goals (refine end_to [] [] (by first | exact .inl rfl | exact .inr rfl) rfl (by kernel_rfl) (by kernel_rfl) (by kernel_rfl) ?_ ?_ <;> repeat' (first | exact trivial | exact vr_val _))
    | false =>
      have he2 : (b == l[k]?.getD false) = false := by rw [beq_eq_false_iff_ne] at he ⊢; exact fun h => he h.symm
      generalize hv : l[k]?.getD false = v at *
      (have hg : (987654321 : Nat) - 987654321 = 0 := rfl; have hr := hg; repeat' (first | refine aw_seq ?_ | (refine aw_skip ?_; try simp only [thenQ, blockQ, if_true, if_false, Nat.reduceEqDiff, reduceCtorEq]) | (refine aw_exit ?_; try simp only [thenQ, blockQ, if_true, if_false, Nat.reduceEqDiff, reduceCtorEq]) | refine aw_ret ?_ | refine aw_block ?_ | refine aw_condT rfl ?_ | refine aw_condF rfl ?_ | (refine aw_cond rfl (fun hg => ?_) (fun hg => ?_) <;> (try (have hq := hg; simp only [Bool.not_eq_true', Bool.not_eq_false', Bool.and_eq_true, Bool.and_eq_false_iff, Bool.or_eq_true, Bool.or_eq_false_iff, decide_eq_true_eq, decide_eq_false_iff_not, bne_iff_ne, beq_iff_eq, beq_eq_false_iff_ne, bne_eq_false_iff_eq, ne_eq, Int.not_lt, Int.not_le, Decidable.not_not] at hq)) <;> (try (have hr := hg; simp only [decide_eq_true_eq, decide_eq_false_iff_not] at hr)) <;> (try (exfalso; omega))) | ((first | refine aw_region ?_ | refine ago_if (by omega) ?_ | skip); simp (config := {maxSteps := 10000000}) (disch := first | exact okYes (by kernel_rfl) | omega) only [thenQ, dB, dI, Int.reduceNeg, List.length, Nat.zero_add, Nat.reduceMul, Nat.reduceAdd, ARun_none, AOpRun, aexec, FSt.ev, St.F, eget_c, Nat.reduceBEq, ↓eget_h, cond_false, isSh, Bool.false_eq_true, ↓reduceIte, Option.map, abin, AGo_ok, St.app, putO, eput_c, eput_n, hups, List.map, ARun_nil, dropE_c, inL_n, dropE_n, hr, decide_true, inL_c, beq_self_eq_true, cond_true, Int.natCast_nonneg, bools_all, and_self, opt1, Int.toNat_natCast, g1, run1, List.getElem?_cons_zero, he2, bne_self_eq_false, fits])))
      refine ⟨k + 1, ⟨by omega, fun j hj => ?_⟩, by omega, by refine wk_to [] [] (by kernel_rfl) (by kernel_rfl) (by kernel_rfl) (by kernel_rfl) (by kernel_rfl) ?_ ?_ <;> repeat' (first | exact trivial | exact vr_val _ | exact vr_list _ | apply And.intro)⟩
      rcases (by omega : j < k ∨ j = k) with h | rfl
      · exact hin j h
      · rw [hv]; exact he
  · obtain rfl : k = l.length := by omega
    have q : l.findIdx? (fun x => x == b) = none := by
      rw [List.findIdx?_eq_none_iff]
      intro y hy
      obtain ⟨j, hj, rfl⟩ := List.getElem_of_mem hy
      have := hin j hj
      simp only [hj, List.getElem?_eq_getElem, Option.getD_some] at this
      exact this
    rw [q]
    (have hg : (987654321 : Nat) - 987654321 = 0 := rfl; have hr := hg; repeat' (first | refine aw_seq ?_ | (refine aw_skip ?_; try simp only [thenQ, blockQ, if_true, if_false, Nat.reduceEqDiff, reduceCtorEq]) | (refine aw_exit ?_; try simp only [thenQ, blockQ, if_true, if_false, Nat.reduceEqDiff, reduceCtorEq]) | refine aw_ret ?_ | refine aw_block ?_ | refine aw_condT rfl ?_ | refine aw_condF rfl ?_ | (refine aw_cond rfl (fun hg => ?_) (fun hg => ?_) <;> (try (have hq := hg; simp only [Bool.not_eq_true', Bool.not_eq_false', Bool.and_eq_true, Bool.and_eq_false_iff, Bool.or_eq_true, Bool.or_eq_false_iff, decide_eq_true_eq, decide_eq_false_iff_not, bne_iff_ne, beq_iff_eq, beq_eq_false_iff_ne, bne_eq_false_iff_eq, ne_eq, Int.not_lt, Int.not_le, Decidable.not_not] at hq)) <;> (try (have hr := hg; simp only [decide_eq_true_eq, decide_eq_false_iff_not] at hr)) <;> (try (exfalso; omega))) | ((first | refine aw_region ?_ | refine ago_if (by omega) ?_ | skip); simp (config := {maxSteps := 10000000}) (disch := first | exact okYes (by kernel_rfl) | omega) only [thenQ, dB, dI, Int.reduceNeg, List.length, Nat.zero_add, Nat.reduceMul, Nat.reduceAdd, ARun_none, AOpRun, aexec, FSt.ev, St.F, eget_c, Nat.reduceBEq, ↓eget_h, cond_false, isSh, Bool.false_eq_true, ↓reduceIte, Option.map, abin, AGo_ok, St.app, putO, eput_c, eput_n, hups, List.map, ARun_nil, dropE_c, inL_n, dropE_n, hr, decide_false])))
    all_goals (refine end_to [] [] (by first | exact .inl rfl | exact .inr rfl) rfl (by kernel_rfl) (by kernel_rfl) (by kernel_rfl) ?_ ?_ <;> repeat' (first | exact trivial | exact vr_val _))
set_option maxRecDepth 100000 in
set_option maxHeartbeats 1000000 in
theorem cbool_ac (l : List Bool) (b : Bool) (hl : l.length ≤ 1000000) : AC Try.prog 121 [.list (bools l), dB b] [] [] (dB (l.any fun x => x == b)) := by
  refine kslices_Contains_L_L_Jbool_Kbool_J.ac (n0 := 0) (by simp) ⟨.list _, .val _, trivial⟩ trivial rfl ?_
  unfold cslices_Contains_L_L_Jbool_Kbool_J
  have hf := ibool_ac l b hl
  cases h : l.findIdx? (fun x => x == b) with
  | none =>
    have ha : l.any (fun x => x == b) = false := by
      rw [List.findIdx?_eq_none_iff] at h
      exact List.any_eq_false.2 fun x hx => by simp [h x hx]
    rw [h] at hf
    rw [ha]
    (have hg : (987654321 : Nat) - 987654321 = 0 := rfl; have hr := hg; repeat' (first | refine aw_seq ?_ | (refine aw_skip ?_; try simp only [thenQ, blockQ, if_true, if_false, Nat.reduceEqDiff, reduceCtorEq]) | (refine aw_exit ?_; try simp only [thenQ, blockQ, if_true, if_false, Nat.reduceEqDiff, reduceCtorEq]) | refine aw_ret ?_ | refine aw_block ?_ | refine aw_condT rfl ?_ | refine aw_condF rfl ?_ | ((first | refine aw_region ?_ | refine acall0 (hf) ?_ | refine ago_if (by omega) ?_ | skip); simp (config := {maxSteps := 10000000}) (disch := first | exact okYes (by kernel_rfl) | omega) only [thenQ, List.map, dB, List.length, Nat.zero_add, Nat.reduceMul, envOf, ARun_none, AOpRun, aexec, FSt.ev, AGo_ok, St.app, putO, eput_c, Nat.reduceBEq, eput_n, cond_false, hups, ARun_nil, dropE_c, inL_n, dropE_n, Nat.reduceAdd, St.F, ↓eget_h, eget_c, dI, Int.reduceNeg, isSh, Bool.false_eq_true, ↓reduceIte, Option.map, abin, beq_self_eq_true, cond_true, inL_c])))
    all_goals (refine end_to [] [] (by first | exact .inl rfl | exact .inr rfl) rfl (by kernel_rfl) (by kernel_rfl) (by kernel_rfl) ?_ ?_ <;> repeat' (first | exact trivial | exact vr_val _))
  | some k =>
    have ha : l.any (fun x => x == b) = true := by
      rw [List.findIdx?_eq_some_iff_getElem] at h
      obtain ⟨hk, he, _⟩ := h
      exact List.any_eq_true.2 ⟨l[k], List.getElem_mem hk, he⟩
    rw [h] at hf
    rw [ha]
    have q : decide ((k : Int) ≥ 0) = true := decide_eq_true (by omega)
    (have hg : (987654321 : Nat) - 987654321 = 0 := rfl; have hr := hg; repeat' (first | refine aw_seq ?_ | (refine aw_skip ?_; try simp only [thenQ, blockQ, if_true, if_false, Nat.reduceEqDiff, reduceCtorEq]) | (refine aw_exit ?_; try simp only [thenQ, blockQ, if_true, if_false, Nat.reduceEqDiff, reduceCtorEq]) | refine aw_ret ?_ | refine aw_block ?_ | refine aw_condT rfl ?_ | refine aw_condF rfl ?_ | ((first | refine aw_region ?_ | refine acall0 (hf) ?_ | refine ago_if (by omega) ?_ | skip); simp (config := {maxSteps := 10000000}) (disch := first | exact okYes (by kernel_rfl) | omega) only [thenQ, List.map, dB, List.length, Nat.zero_add, Nat.reduceMul, envOf, ARun_none, AOpRun, aexec, FSt.ev, AGo_ok, St.app, putO, eput_c, Nat.reduceBEq, eput_n, cond_false, hups, ARun_nil, dropE_c, inL_n, dropE_n, Nat.reduceAdd, St.F, ↓eget_h, eget_c, dI, isSh, Bool.false_eq_true, ↓reduceIte, Option.map, abin, Int.natCast_nonneg, decide_true, beq_self_eq_true, cond_true, inL_c])))
    all_goals (refine end_to [] [] (by first | exact .inl rfl | exact .inr rfl) rfl (by kernel_rfl) (by kernel_rfl) (by kernel_rfl) ?_ ?_ <;> repeat' (first | exact trivial | exact vr_val _))
set_option maxRecDepth 100000 in
set_option maxHeartbeats 1000000 in
theorem holds1_ac (hd : List Bool) (hne : (bcl hd).isEmpty = false) (n : Int) (h0 : 0 ≤ n) (h1 : n.toNat < hd.length) : AC Try.prog 120 [dI n, .ptr 16 0] [(16, [.vec 24 hd.length 1]), (24, bcl hd)] [(16, some [.vec 24 hd.length 1]), (24, some (bcl hd))] (dB (hd[n.toNat]?.getD false)) := by
  refine krecord_holds_S1.ac (n0 := 400) (by simp) ⟨.val _, .ptr _ _ (by omega), trivial⟩ ⟨⟨by omega, by intro d hd; simp at hd; subst hd; exact .vec _ _ _ (by omega)⟩, ⟨by omega, fun d h => (bcl_in hd d h).mono fun _ h => h.elim⟩, trivial⟩ (by simp [okUp, hne]) ?_
  unfold crecord_holds_S1
  have g1 := bc_gd hd n.toNat h1
  have g2 : n < (hd.length : Int) := by omega
  have g3 := bcl_len hd
  (have hg : (987654321 : Nat) - 987654321 = 0 := rfl; have hr := hg; repeat' (first | refine aw_seq ?_ | (refine aw_skip ?_; try simp only [thenQ, blockQ, if_true, if_false, Nat.reduceEqDiff, reduceCtorEq]) | (refine aw_exit ?_; try simp only [thenQ, blockQ, if_true, if_false, Nat.reduceEqDiff, reduceCtorEq]) | refine aw_ret ?_ | refine aw_block ?_ | refine aw_condT rfl ?_ | refine aw_condF rfl ?_ | ((first | refine aw_region ?_ | refine ago_if (by omega) ?_ | skip); simp (config := {maxSteps := 10000000}) (disch := first | exact okYes (by kernel_rfl) | omega) only [thenQ, List.map, dB, List.length, Nat.zero_add, Nat.mul_one, Nat.reduceAdd, envOf, dI, ARun_none, AOpRun, aexec, FSt.ev, AGo_ok, St.app, putO, eput_c, Nat.reduceBEq, eput_n, cond_false, hups, ARun_nil, dropE_c, inL_n, dropE_n, Nat.reduceMul, Option.map, run1, St.F, eget_c, ↓eget_h, hget_c, beq_self_eq_true, hget_n, cond_true, Nat.add_zero, List.getElem?_cons_zero, h0, g2, and_self, ↓reduceIte, ↓hget_h, g1, inL_c])))
  all_goals (refine end_to [] [(16, 16), (24, 24)] (by first | exact .inl rfl | exact .inr rfl) rfl (by kernel_rfl) (by kernel_rfl) (by kernel_rfl) ?_ ?_ <;> repeat' (first | exact trivial | exact vr_val _ | exact vr_vec _ _ _ _ rfl | refine And.intro ⟨_, rfl, _, rfl, by decide, ?_⟩ ?_ | apply And.intro))
  all_goals exact vrl_flat _ (bcl_in _)
set_option maxRecDepth 100000 in
set_option maxHeartbeats 2000000 in
theorem pick1_ac (hd : List Bool) (hne : (bcl hd).isEmpty = false) (l : List Int) (hl : l.length ≤ 1000000) (hn : ∀ k, k < l.length → 0 ≤ l[k]?.getD 0 ∧ (l[k]?.getD 0).toNat < hd.length) : AC Try.prog 119 [.list (ints l), .fn 120 [] [.ptr 16 0]] [(16, [.vec 24 hd.length 1]), (24, bcl hd)] [(16, some [.vec 24 hd.length 1]), (24, some (bcl hd)), (96, some (bcl (l.map fun n => hd[n.toNat]?.getD false)))] (.vec 96 l.length 1) := by
  refine krecord_pick.ac (n0 := 400) (by simp) ⟨.list _, .fn _ _ _ (by simp) (by intro d hd; simp at hd; subst hd; exact .ptr _ _ (by omega)), trivial⟩ ⟨⟨by omega, by intro d hd; simp at hd; subst hd; exact .vec _ _ _ (by omega)⟩, ⟨by omega, fun d h => (bcl_in hd d h).mono fun _ h => h.elim⟩, trivial⟩ (by simp [okUp, hne]) ?_
  unfold crecord_pick
  refine aw_seq (aw_region ?_)
  simp (config := {maxSteps := 10000000}) (disch := first | exact okYes (by kernel_rfl) | omega) only [thenQ, List.map, List.length, Nat.zero_add, Nat.reduceMul, Nat.reduceAdd, envOf, ARun_none, AOpRun, aexec, FSt.ev, AGo_ok, St.app, putO, eput_c, Nat.reduceBEq, eput_n, cond_false, hups, ARun_nil, dropE_c, inL_n, dropE_n]
  refine aw_seq (aw_seq (aw_region ?_))
  simp (config := {maxSteps := 10000000}) (disch := first | exact okYes (by kernel_rfl) | omega) only [thenQ, List.length, Nat.zero_add, Nat.reduceAdd, Nat.reduceMul, ARun_none, AOpRun, aexec, FSt.ev, St.F, ↓eget_h, AGo_ok, St.app, putO, eput_c, Nat.reduceBEq, eput_n, cond_false, hups, List.map, eget_c, ints_len, ARun_nil, dropE_c, inL_n, dropE_n]
  refine aw_block ?_
  refine aw_loop (fun k : Nat => ⟨[(1, .fn 120 [] [.ptr 16 0]), (4, .vec 500 k 1), (7, .list (ints l)), (8, dI l.length), (9, dI k)], [(16, [.vec 24 hd.length 1]), (24, bcl hd), (500, bcl ((l.map (fun n => hd[n.toNat]?.getD false)).take k))], 600⟩) (fun k => k ≤ l.length) (fun k => l.length - k) ⟨0, by omega, ?_⟩ ?_
  · simp only [List.take_zero]
    show Wk _ _ ⟨_, [(16, [.vec 24 hd.length 1]), (24, bcl hd), (500, [])], _⟩
    refine wk_to [] [(16, 16), (24, 24), (500, 900)] (by kernel_rfl) (by kernel_rfl) (by kernel_rfl) (by kernel_rfl) (by kernel_rfl) ?_ ?_ <;> repeat' (first | exact trivial | exact vr_val _ | exact vr_list _ | exact vr_vec _ _ _ _ rfl | exact vr_ptr _ _ _ rfl | exact vr_nilv _ _ _ rfl | apply vr_fn | refine And.intro ⟨_, rfl, .inl ⟨_, rfl, by decide, ?_⟩⟩ ?_ | refine And.intro ⟨_, rfl, .inr ⟨rfl, rfl, of_decide_eq_true (by kernel_rfl)⟩⟩ ?_ | apply And.intro)
    all_goals exact vrl_flat _ (bcl_in _)
  intro k hk
  have hml : (l.map (fun n => hd[n.toNat]?.getD false)).length = l.length := List.length_map ..
  by_cases hk2 : k < l.length
  case neg =>
    obtain rfl : k = l.length := by omega
    have e : (l.map (fun n => hd[n.toNat]?.getD false)).take l.length = l.map (fun n => hd[n.toNat]?.getD false) := List.take_of_length_le (by omega)
    rw [e]
    (have hg : (987654321 : Nat) - 987654321 = 0 := rfl; have hr := hg; repeat' (first | refine aw_seq ?_ | (refine aw_skip ?_; try simp only [thenQ, blockQ, if_true, if_false, Nat.reduceEqDiff, reduceCtorEq]) | (refine aw_exit ?_; try simp only [thenQ, blockQ, if_true, if_false, Nat.reduceEqDiff, reduceCtorEq]) | refine aw_ret ?_ | refine aw_block ?_ | refine aw_condT rfl ?_ | refine aw_condF rfl ?_ | (refine aw_cond rfl (fun hg => ?_) (fun hg => ?_) <;> (try (have hq := hg; simp only [Bool.not_eq_true', Bool.not_eq_false', Bool.and_eq_true, Bool.and_eq_false_iff, Bool.or_eq_true, Bool.or_eq_false_iff, decide_eq_true_eq, decide_eq_false_iff_not, bne_iff_ne, beq_iff_eq, beq_eq_false_iff_ne, bne_eq_false_iff_eq, ne_eq, Int.not_lt, Int.not_le, Decidable.not_not] at hq)) <;> (try (have hr := hg; simp only [decide_eq_true_eq, decide_eq_false_iff_not] at hr)) <;> (try (exfalso; omega))) | ((first | refine aw_region ?_ | refine ago_if (by omega) ?_ | skip); simp (config := {maxSteps := 10000000}) (disch := first | exact okYes (by kernel_rfl) | omega) only [thenQ, dI, List.length, Nat.zero_add, Nat.reduceMul, Nat.reduceAdd, ARun_none, AOpRun, aexec, FSt.ev, St.F, eget_c, Nat.reduceBEq, ↓eget_h, cond_false, isSh, Bool.false_eq_true, ↓reduceIte, Option.map, abin, AGo_ok, St.app, putO, eput_c, eput_n, hups, List.map, ARun_nil, dropE_c, inL_n, dropE_n, hr, decide_false, beq_self_eq_true, cond_true, inL_c])))
    refine end_to [] [(16, 16), (24, 24), (96, 500)] (by first | exact .inl rfl | exact .inr rfl) rfl (by kernel_rfl) (by kernel_rfl) (by kernel_rfl) ?_ ?_ <;> repeat' (first | exact trivial | exact vr_vec _ _ _ _ rfl | refine And.intro ⟨_, rfl, _, rfl, by decide, ?_⟩ ?_ | apply And.intro)
    all_goals exact vrl_flat _ (bcl_in _)
  have g1 := ints_gd l k hk2
  have e : (l.map (fun n => hd[n.toNat]?.getD false)).take (k + 1) = (l.map (fun n => hd[n.toNat]?.getD false)).take k ++ [(fun n => hd[n.toNat]?.getD false) (l[k]?.getD 0)] := by
    rw [List.take_add_one]
    simp [hk2]
  have hca := holds1_ac hd hne (l[k]?.getD 0) (hn k hk2).1 (hn k hk2).2
  have hic : (bcl ((l.map (fun n => hd[n.toNat]?.getD false)).take k)).length = k := by rw [bcl_len, List.length_take]; omega
  have hit : (bcl ((l.map (fun n => hd[n.toNat]?.getD false)).take k)).take k = bcl ((l.map (fun n => hd[n.toNat]?.getD false)).take k) := List.take_of_length_le (by omega)
  have hlf := bcl_leaf ((l.map (fun n => hd[n.toNat]?.getD false)).take k)
  have e2 : bcl ((l.map (fun n => hd[n.toNat]?.getD false)).take (k + 1)) = bcl ((l.map (fun n => hd[n.toNat]?.getD false)).take k) ++ [.val (.bool ((fun n => hd[n.toNat]?.getD false) (l[k]?.getD 0)))] := by rw [e, bc_app]
  have hcin : ∀ y ∈ bcl ((l.map (fun n => hd[n.toNat]?.getD false)).take k) ++ [.val (.bool ((fun n => hd[n.toNat]?.getD false) (l[k]?.getD 0)))], In (fun _ => False) y := by rw [bc_app]; exact bcl_in _
  generalize bcl ((l.map (fun n => hd[n.toNat]?.getD false)).take k) = L at *
  simp only at e2 hcin
  (have hg : (987654321 : Nat) - 987654321 = 0 := rfl; have hr := hg; repeat' (first | refine aw_seq ?_ | (refine aw_skip ?_; try simp only [thenQ, blockQ, if_true, if_false, Nat.reduceEqDiff, reduceCtorEq]) | (refine aw_exit ?_; try simp only [thenQ, blockQ, if_true, if_false, Nat.reduceEqDiff, reduceCtorEq]) | refine aw_ret ?_ | refine aw_block ?_ | refine aw_condT rfl ?_ | refine aw_condF rfl ?_ | (refine aw_cond rfl (fun hg => ?_) (fun hg => ?_) <;> (try (have hq := hg; simp only [Bool.not_eq_true', Bool.not_eq_false', Bool.and_eq_true, Bool.and_eq_false_iff, Bool.or_eq_true, Bool.or_eq_false_iff, decide_eq_true_eq, decide_eq_false_iff_not, bne_iff_ne, beq_iff_eq, beq_eq_false_iff_ne, bne_eq_false_iff_eq, ne_eq, Int.not_lt, Int.not_le, Decidable.not_not] at hq)) <;> (try (have hr := hg; simp only [decide_eq_true_eq, decide_eq_false_iff_not] at hr)) <;> (try (exfalso; omega))) | ((first | refine aw_region ?_ | refine acallB (hca) (by repeat' (first | exact trivial | exact rfl | refine And.intro ?_ ?_)) (by kernel_rfl) (by kernel_rfl) (by kernel_rfl) ?_ | refine ago_if (by omega) ?_ | skip); simp (config := {maxSteps := 10000000}) (disch := first | exact okYes (by kernel_rfl) | omega) only [thenQ, dI, List.length, Nat.zero_add, Nat.mul_one, Nat.reduceAdd, ARun_none, AOpRun, aexec, FSt.ev, St.F, eget_c, Nat.reduceBEq, ↓eget_h, cond_false, isSh, Bool.false_eq_true, ↓reduceIte, Option.map, abin, AGo_ok, St.app, putO, eput_c, eput_n, hups, List.map, ARun_nil, dropE_c, inL_n, dropE_n, Nat.reduceMul, hr, decide_true, Int.natCast_nonneg, ints_all, and_self, opt1, Int.toNat_natCast, g1, run1, List.getElem?_cons_zero, inL_c, beq_self_eq_true, cond_true, blockQ, dB, hput_c, hput_n, List.append_nil, Option.isSome, hget_c, hget_n, fillD, D.isBot, D.cells, ne_eq, not_true_eq_false, Nat.reduceGT, or_self, splice, List.take, List.nil_append, List.drop, base, ↓hget_h, hic, Nat.le_refl, hit, elems, List.all, D.leaf, Bool.and_true, and_true, ups, List.cons_append, hdel_c, hdel_n, fits])))
  refine ⟨k + 1, by omega, by omega, ?_⟩
  rw [e2]
  refine wk_to [] [(16, 16), (24, 24), (500, 672)] (by kernel_rfl) (by kernel_rfl) (by kernel_rfl) (by kernel_rfl) (by kernel_rfl) ?_ ?_ <;> repeat' (first | exact trivial | exact vr_val _ | exact vr_list _ | exact vr_vec _ _ _ _ rfl | exact vr_ptr _ _ _ rfl | apply vr_fn | refine And.intro ⟨_, rfl, .inl ⟨_, rfl, by decide, ?_⟩⟩ ?_ | apply And.intro | exact vrl_flat _ (by first | exact icells_in _ | exact rcells_in _ | exact scells_in _ | exact bcells_in _ | assumption) | fail)
  all_goals first | exact vrl_flat _ (bcl_in _) | assumption
set_option maxRecDepth 100000 in
set_option maxHeartbeats 2000000 in
theorem pick2_ac (p : Nat) (hp : p < 4096) (l : List Int) (hl : l.length ≤ 1000000) (hn : ∀ k, k < l.length → 0 ≤ l[k]?.getD 0 ∧ (l[k]?.getD 0) < 12) : AC Try.prog 119 [.list (ints l), .fn 89 [dI p] []] [] [(136, some (bcl (l.map fun n => p.testBit n.toNat)))] (.vec 136 l.length 1) := by
  refine krecord_pick.ac (n0 := 400) (by simp) ⟨.list _, .fn _ _ _ (by intro d hd; simp at hd; subst hd; exact .val _) (by simp), trivial⟩ trivial rfl ?_
  unfold crecord_pick
  refine aw_seq (aw_region ?_)
  simp (config := {maxSteps := 10000000}) (disch := first | exact okYes (by kernel_rfl) | omega) only [thenQ, List.map, List.length, Nat.zero_add, Nat.reduceMul, Nat.reduceAdd, envOf, dI, ARun_none, AOpRun, aexec, FSt.ev, AGo_ok, St.app, putO, eput_c, Nat.reduceBEq, eput_n, cond_false, hups, ARun_nil, dropE_c, inL_n, dropE_n]
  refine aw_seq (aw_seq (aw_region ?_))
  simp (config := {maxSteps := 10000000}) (disch := first | exact okYes (by kernel_rfl) | omega) only [thenQ, List.length, Nat.zero_add, Nat.reduceAdd, Nat.reduceMul, ARun_none, AOpRun, aexec, FSt.ev, St.F, ↓eget_h, AGo_ok, St.app, putO, eput_c, Nat.reduceBEq, eput_n, cond_false, hups, List.map, eget_c, ints_len, ARun_nil, dropE_c, inL_n, dropE_n]
  refine aw_block ?_
  refine aw_loop (fun k : Nat => ⟨[(1, .fn 89 [dI p] []), (4, .vec 500 k 1), (7, .list (ints l)), (8, dI l.length), (9, dI k)], [(500, bcl ((l.map (fun n => p.testBit n.toNat)).take k))], 600⟩) (fun k => k ≤ l.length) (fun k => l.length - k) ⟨0, by omega, ?_⟩ ?_
  · simp only [List.take_zero]
    show Wk _ _ ⟨_, [(500, [])], _⟩
    refine wk_to [] [(500, 900)] (by kernel_rfl) (by kernel_rfl) (by kernel_rfl) (by kernel_rfl) (by kernel_rfl) ?_ ?_ <;> repeat' (first | exact trivial | exact vr_val _ | exact vr_list _ | exact vr_nilv _ _ _ rfl | apply vr_fn | refine And.intro ⟨_, rfl, .inr ⟨rfl, rfl, of_decide_eq_true (by kernel_rfl)⟩⟩ ?_ | apply And.intro)
    all_goals exact vrl_flat _ (bcl_in _)
  intro k hk
  have hml : (l.map (fun n => p.testBit n.toNat)).length = l.length := List.length_map ..
  by_cases hk2 : k < l.length
  case neg =>
    obtain rfl : k = l.length := by omega
    have e : (l.map (fun n => p.testBit n.toNat)).take l.length = l.map (fun n => p.testBit n.toNat) := List.take_of_length_le (by omega)
    rw [e]
    (have hg : (987654321 : Nat) - 987654321 = 0 := rfl; have hr := hg; repeat' (first | refine aw_seq ?_ | (refine aw_skip ?_; try simp only [thenQ, blockQ, if_true, if_false, Nat.reduceEqDiff, reduceCtorEq]) | (refine aw_exit ?_; try simp only [thenQ, blockQ, if_true, if_false, Nat.reduceEqDiff, reduceCtorEq]) | refine aw_ret ?_ | refine aw_block ?_ | refine aw_condT rfl ?_ | refine aw_condF rfl ?_ | (refine aw_cond rfl (fun hg => ?_) (fun hg => ?_) <;> (try (have hq := hg; simp only [Bool.not_eq_true', Bool.not_eq_false', Bool.and_eq_true, Bool.and_eq_false_iff, Bool.or_eq_true, Bool.or_eq_false_iff, decide_eq_true_eq, decide_eq_false_iff_not, bne_iff_ne, beq_iff_eq, beq_eq_false_iff_ne, bne_eq_false_iff_eq, ne_eq, Int.not_lt, Int.not_le, Decidable.not_not] at hq)) <;> (try (have hr := hg; simp only [decide_eq_true_eq, decide_eq_false_iff_not] at hr)) <;> (try (exfalso; omega))) | ((first | refine aw_region ?_ | refine ago_if (by omega) ?_ | skip); simp (config := {maxSteps := 10000000}) (disch := first | exact okYes (by kernel_rfl) | omega) only [thenQ, dI, List.length, Nat.zero_add, Nat.reduceMul, Nat.reduceAdd, ARun_none, AOpRun, aexec, FSt.ev, St.F, eget_c, Nat.reduceBEq, ↓eget_h, cond_false, isSh, Bool.false_eq_true, ↓reduceIte, Option.map, abin, AGo_ok, St.app, putO, eput_c, eput_n, hups, List.map, ARun_nil, dropE_c, inL_n, dropE_n, hr, decide_false, beq_self_eq_true, cond_true, inL_c])))
    refine end_to [] [(136, 500)] (by first | exact .inl rfl | exact .inr rfl) rfl (by kernel_rfl) (by kernel_rfl) (by kernel_rfl) ?_ ?_ <;> repeat' (first | exact trivial | exact vr_vec _ _ _ _ rfl | refine And.intro ⟨_, rfl, _, rfl, by decide, ?_⟩ ?_)
    all_goals exact vrl_flat _ (bcl_in _)
  have g1 := ints_gd l k hk2
  have e : (l.map (fun n => p.testBit n.toNat)).take (k + 1) = (l.map (fun n => p.testBit n.toNat)).take k ++ [(fun n => p.testBit n.toNat) (l[k]?.getD 0)] := by
    rw [List.take_add_one]
    simp [hk2]
  have hca := phas_ac p (l[k]?.getD 0).toNat hp (by have := hn k hk2; omega)
  rw [Int.toNat_of_nonneg (hn k hk2).1] at hca
  have hic : (bcl ((l.map (fun n => p.testBit n.toNat)).take k)).length = k := by rw [bcl_len, List.length_take]; omega
  have hit : (bcl ((l.map (fun n => p.testBit n.toNat)).take k)).take k = bcl ((l.map (fun n => p.testBit n.toNat)).take k) := List.take_of_length_le (by omega)
  have hlf := bcl_leaf ((l.map (fun n => p.testBit n.toNat)).take k)
  have e2 : bcl ((l.map (fun n => p.testBit n.toNat)).take (k + 1)) = bcl ((l.map (fun n => p.testBit n.toNat)).take k) ++ [.val (.bool ((fun n => p.testBit n.toNat) (l[k]?.getD 0)))] := by rw [e, bc_app]
  have hcin : ∀ y ∈ bcl ((l.map (fun n => p.testBit n.toNat)).take k) ++ [.val (.bool ((fun n => p.testBit n.toNat) (l[k]?.getD 0)))], In (fun _ => False) y := by rw [bc_app]; exact bcl_in _
  generalize bcl ((l.map (fun n => p.testBit n.toNat)).take k) = L at *
  simp only at e2 hcin
  (have hg : (987654321 : Nat) - 987654321 = 0 := rfl; have hr := hg; repeat' (first | refine aw_seq ?_ | (refine aw_skip ?_; try simp only [thenQ, blockQ, if_true, if_false, Nat.reduceEqDiff, reduceCtorEq]) | (refine aw_exit ?_; try simp only [thenQ, blockQ, if_true, if_false, Nat.reduceEqDiff, reduceCtorEq]) | refine aw_ret ?_ | refine aw_block ?_ | refine aw_condT rfl ?_ | refine aw_condF rfl ?_ | (refine aw_cond rfl (fun hg => ?_) (fun hg => ?_) <;> (try (have hq := hg; simp only [Bool.not_eq_true', Bool.not_eq_false', Bool.and_eq_true, Bool.and_eq_false_iff, Bool.or_eq_true, Bool.or_eq_false_iff, decide_eq_true_eq, decide_eq_false_iff_not, bne_iff_ne, beq_iff_eq, beq_eq_false_iff_ne, bne_eq_false_iff_eq, ne_eq, Int.not_lt, Int.not_le, Decidable.not_not] at hq)) <;> (try (have hr := hg; simp only [decide_eq_true_eq, decide_eq_false_iff_not] at hr)) <;> (try (exfalso; omega))) | ((first | refine aw_region ?_ | refine acall0 (hca) ?_ | refine ago_if (by omega) ?_ | skip); simp (config := {maxSteps := 10000000}) (disch := first | exact okYes (by kernel_rfl) | omega) only [thenQ, dI, List.length, Nat.zero_add, Nat.mul_one, Nat.reduceAdd, ARun_none, AOpRun, aexec, FSt.ev, St.F, eget_c, Nat.reduceBEq, ↓eget_h, cond_false, isSh, Bool.false_eq_true, ↓reduceIte, Option.map, abin, AGo_ok, St.app, putO, eput_c, eput_n, hups, List.map, ARun_nil, dropE_c, inL_n, dropE_n, Nat.reduceMul, hr, decide_true, Int.natCast_nonneg, ints_all, and_self, opt1, Int.toNat_natCast, g1, run1, List.getElem?_cons_zero, inL_c, beq_self_eq_true, cond_true, blockQ, dB, Option.isSome, hget_c, hget_n, fillD, D.isBot, D.cells, ne_eq, not_true_eq_false, Nat.reduceGT, or_self, splice, List.take, List.nil_append, List.drop, List.append_nil, hput_c, hput_n, base, hic, Nat.le_refl, hit, elems, ↓hget_h, List.all, D.leaf, Bool.and_true, and_true, ups, List.cons_append, hdel_c, hdel_n, fits])))
  refine ⟨k + 1, by omega, by omega, ?_⟩
  rw [e2]
  refine wk_to [] [(500, 672)] (by kernel_rfl) (by kernel_rfl) (by kernel_rfl) (by kernel_rfl) (by kernel_rfl) ?_ ?_ <;> repeat' (first | exact trivial | exact vr_val _ | exact vr_list _ | exact vr_vec _ _ _ _ rfl | apply vr_fn | refine And.intro ⟨_, rfl, .inl ⟨_, rfl, by decide, ?_⟩⟩ ?_ | apply And.intro | exact vrl_flat _ (by first | exact icells_in _ | exact rcells_in _ | exact scells_in _ | exact bcells_in _ | assumption) | fail)
  all_goals assumption
end Go.Proofs.Ytdcodicoclecnaa
/- record: whether a claim holds with proofs. No conditions. -/
set_option linter.unusedSimpArgs false
set_option linter.unusedVariables false
namespace Go.Proofs.Ytdcodicoclecnaa
open Go Go.RowKit Lift

theorem clV_any {x : Clm} {h : List Bool} {cn : Nat → Bool} (ha : x.any = true) : ((x.needs.map fun n => h[n.toNat]?.getD false) ++ x.proofs.map fun n => cn n.toNat).any (fun b => b == true) = clV x h cn := by
  unfold clV
  rw [if_pos ha, List.any_append, List.any_map, List.any_map]
  congr 1 <;> (congr 1; funext n; simp)
theorem clV_all {x : Clm} {h : List Bool} {cn : Nat → Bool} (ha : x.any = false) : (!((x.needs.map fun n => h[n.toNat]?.getD false) ++ x.proofs.map fun n => cn n.toNat).any (fun b => b == false)) = clV x h cn := by
  unfold clV
  rw [ha, if_neg (by simp), List.any_append, List.any_map, List.any_map, Bool.not_or, List.not_any_eq_all_not, List.not_any_eq_all_not]
  congr 1 <;> (congr 1; funext n; simp)
theorem bcl_app (A B : List Bool) : bcl A ++ bcl B = bcl (A ++ B) := by simp [bcl]
theorem asc_short {l : List Int} {b : Int} (h : Asc l b) (hb : b ≤ 20) : l.length ≤ 100 := by
  have key : ∀ i, i < l.length → (i : Int) ≤ l[i]?.getD 0 := fun i => by
    induction i with
    | zero => intro hi; have := (h 0 hi).1; omega
    | succ i ih =>
      intro hi
      have h1 := ih (by omega)
      have h2 := (h (i + 1) hi).2.2 (by omega)
      rw [Nat.add_sub_cancel] at h2
      omega
  rcases Nat.eq_zero_or_pos l.length with h0 | h0
  · omega
  · have h1 := key (l.length - 1) (by omega)
    have h2 := (h (l.length - 1) (by omega)).2.1
    omega
theorem bcl_ne {l : List Bool} (h : 0 < l.length) : (bcl l).isEmpty = false := by cases l with
  | nil => simp at h
  | cons a l => rfl
set_option maxRecDepth 100000 in
set_option maxHeartbeats 8000000 in
theorem holds_ac (c : Cas) (hc : CasOk c) (cl : Nat) (hcl : cl < c.cl.length) (p : Nat) (hp : p < 4096) : AC Try.prog 83 [casD c, dI cl, dI p] [] [] (dB (holdC c cl p.testBit)) := by
  refine krecord_holds.ac (n0 := 0) (by simp) ⟨in_cas _ _, .val _, .val _, trivial⟩ trivial rfl ?_
  unfold crecord_holds casD
  have n1 := hc.n1
  have n2 := hc.n2
  have e0 : ((cl : Int) + 1).toNat = cl + 1 := by omega
  refine aw_seq (aw_region ?_)
  simp (config := {maxSteps := 10000000}) (disch := first | exact okYes (by kernel_rfl) | omega) only [thenQ, List.map, dB, List.length, Nat.zero_add, Nat.reduceAdd, Nat.reduceMul, envOf, dI, ARun_none, AOpRun, aexec, D.isBot, FSt.ev, St.F, ↓eget_h, Bool.false_eq_true, Option.isSome, hget_n, or_self, ↓reduceIte, D.cells, AGo_ok, St.app, putO, eput_c, Nat.reduceBEq, eput_n, cond_false, hups, hput_n, ARun_nil, dropE_c, inL_n, dropE_n]
  refine aw_seq (aw_region ?_)
  have hm1 : (0 : Int) ≤ (cl : Int) + 1 := by omega
  have hm2 : ((cl : Int) + 1) * 1 ≤ 2 ^ 48 := by omega
  have hm3 : (cl : Int) + 1 < 2 ^ 62 := by omega
  have hf0 : hlF c p.testBit (cl + 1) 0 = List.replicate (cl + 1) false := hlF_zero c p.testBit (cl + 1)
  simp (config := {maxSteps := 10000000}) (disch := first | exact okYes (by kernel_rfl) | omega) only [thenQ, List.length, Nat.zero_add, Nat.reduceAdd, Nat.reduceMul, ARun_none, AOpRun, aexec, FSt.ev, St.F, eget_c, Nat.reduceBEq, ↓eget_h, cond_false, AGo_ok, St.app, putO, eput_c, eput_n, hups, List.map, isSh, Bool.false_eq_true, ↓reduceIte, Option.map, abin, fits, hm1, cast_lit, hm2, hm3, Option.isSome, hget_c, hget_n, and_self, e0, rep_bc, ← hf0, hput_c, hput_n, ↓hget_h, D.isBot, D.cells, Nat.reduceLeDiff, List.all, D.leaf, Bool.and_true, splice, List.take, List.nil_append, List.drop, List.append_nil, beq_self_eq_true, cond_true, ARun_nil, dropE_c, inL_c, inL_n, dropE_n]
  refine aw_seq (aw_seq (aw_region ?_))
  have hm4 : (cl : Int) + 1 ≤ (c.cl.length : Int) := by omega
  have e1 : ((cl : Int) + 1 - 0).toNat = cl + 1 := by omega
  have ca := cls_all c.cl
  simp (config := {maxSteps := 10000000}) (disch := first | exact okYes (by kernel_rfl) | omega) only [thenQ, List.length, Nat.zero_add, Nat.reduceAdd, Nat.reduceMul, ARun_none, AOpRun, aexec, FSt.ev, St.F, eget_c, Nat.reduceBEq, ↓eget_h, cond_false, AGo_ok, St.app, putO, eput_c, eput_n, hups, List.map, Option.map, run1, hget_c, beq_self_eq_true, hget_n, cond_true, List.getElem?_cons_zero, isSh, Bool.false_eq_true, ↓reduceIte, abin, fits, asI, cls_len, Int.le_refl, hm1, hm4, ca, and_self, e1, Int.toNat_zero, List.drop, ARun_nil, dropE_c, inL_c, inL_n, dropE_n]
  have hSl : ((cls c.cl).take (cl + 1)).length = cl + 1 := by rw [List.length_take, cls_len]; omega
  have hSa : ((cls c.cl).take (cl + 1)).all (fun x => x.length == 3) = true := List.all_eq_true.2 fun x hx => List.all_eq_true.1 ca x (List.mem_of_mem_take hx)
  have hSg : ∀ k, k < cl + 1 → ((cls c.cl).take (cl + 1))[k]? = some (clC (clAt c k)) := fun k hk => by rw [List.getElem?_take_of_lt hk]; exact cls_gd c.cl k (by omega)
  generalize (cls c.cl).take (cl + 1) = S at *
  simp (config := {maxSteps := 10000000}) (disch := first | exact okYes (by kernel_rfl) | omega) only [hSl]
  refine aw_block ?_
  refine aw_loop (fun k : Nat => ⟨[(1, dI cl), (2, dI p), (7, .ptr 16 0), (18, .list S), (19, dI ((cl : Int) + 1)), (20, dI k)], [(16, [.vec 24 (cl + 1) 1]), (24, bcl (hlF c p.testBit (cl + 1) k))], 400⟩) (fun k => k ≤ cl + 1) (fun k => cl + 1 - k) ⟨0, by omega, ?_⟩ ?_
  · refine wk_to [] [(16, 40), (24, 32)] (by kernel_rfl) (by kernel_rfl) (by kernel_rfl) (by kernel_rfl) (by kernel_rfl) ?_ ?_ <;> repeat' (first | exact trivial | exact vr_val _ | exact vr_list _ | exact vr_vec _ _ _ _ rfl | exact vr_ptr _ _ _ rfl | refine And.intro ⟨_, rfl, .inl ⟨_, rfl, by decide, ?_⟩⟩ ?_ | apply And.intro)
    all_goals exact vrl_flat _ (bcl_in _)
  intro k hk
  by_cases hk2 : k < cl + 1
  case neg =>
    obtain rfl : k = cl + 1 := by omega
    have g1 := bc_gd (hlF c p.testBit (cl + 1) (cl + 1)) cl (by rw [hlF_len]; omega)
    rw [hlF_get c p.testBit (cl + 1) (cl + 1) cl (by omega) (by omega)] at g1
    have g2 := bcl_len (hlF c p.testBit (cl + 1) (cl + 1))
    rw [hlF_len] at g2
    have q : decide (((cl + 1 : Nat) : Int) < (cl : Int) + 1) = false := decide_eq_false (by omega)
    have q2 : (cl : Int) < ((cl + 1 : Nat) : Int) := by omega
    have q3 : (0 : Int) ≤ (cl : Int) := by omega
    show AWb _ _ _ _ _ _ _
    (have hg : (987654321 : Nat) - 987654321 = 0 := rfl; have hr := hg; repeat' (first | refine aw_seq ?_ | (refine aw_skip ?_; try simp only [thenQ, blockQ, if_true, if_false, Nat.reduceEqDiff, reduceCtorEq]) | (refine aw_exit ?_; try simp only [thenQ, blockQ, if_true, if_false, Nat.reduceEqDiff, reduceCtorEq]) | refine aw_ret ?_ | refine aw_block ?_ | refine aw_condT rfl ?_ | refine aw_condF rfl ?_ | ((first | refine aw_region ?_ | refine ago_if (by omega) ?_ | skip); simp (config := {maxSteps := 10000000}) (disch := first | exact okYes (by kernel_rfl) | omega) only [thenQ, dI, List.length, Nat.zero_add, Nat.mul_one, Nat.reduceAdd, ARun_none, AOpRun, aexec, FSt.ev, St.F, eget_c, Nat.reduceBEq, ↓eget_h, cond_false, isSh, Bool.false_eq_true, ↓reduceIte, Option.map, abin, q, AGo_ok, St.app, putO, eput_c, eput_n, hups, List.map, ARun_nil, dropE_c, inL_n, dropE_n, Nat.reduceMul, run1, hget_c, beq_self_eq_true, hget_n, cond_true, Nat.add_zero, List.getElem?_cons_zero, q3, q2, and_self, Int.toNat_natCast, ↓hget_h, g1, inL_c])))
    all_goals (refine end_to [] [] (by first | exact .inl rfl | exact .inr rfl) rfl (by kernel_rfl) (by kernel_rfl) (by kernel_rfl) ?_ ?_ <;> repeat' (first | exact trivial | exact vr_val _))
  have g1 := hSg k hk2
  unfold clC at g1
  obtain ⟨as1, as2⟩ := hc.asc k (by omega)
  have hsu := hlF_succ c p.testBit (cl + 1) k hk2
  have hdl := hlF_len c p.testBit (cl + 1) k
  have eA : (clAt c k).needs.map (fun n => (hlF c p.testBit (cl + 1) k)[n.toNat]?.getD false) = (clAt c k).needs.map (fun n => (hlK c p.testBit k)[n.toNat]?.getD false) := by
    refine List.map_congr_left fun n hn => ?_
    have := asc_lt as1 hn
    exact hlF_get c p.testBit (cl + 1) k n.toNat (by omega) (by omega)
  have va := clV_any (x := clAt c k) (h := hlK c p.testBit k) (cn := p.testBit)
  have vl := clV_all (x := clAt c k) (h := hlK c p.testBit k) (cn := p.testBit)
  have l1 : (clAt c k).needs.length ≤ 100 := asc_short as1 (by omega)
  have l2 : (clAt c k).proofs.length ≤ 100 := asc_short as2 (by omega)
  have pk1 := pick1_ac (hlF c p.testBit (cl + 1) k) (bcl_ne (by omega)) (clAt c k).needs (by omega) (fun j hj => by have := as1 j hj; omega)
  have pk2 := pick2_ac p hp (clAt c k).proofs (by omega) (fun j hj => by have := as2 j hj; omega)
  rw [eA, hdl] at pk1
  have hAl : ((clAt c k).needs.map (fun n => (hlK c p.testBit k)[n.toNat]?.getD false)).length = (clAt c k).needs.length := List.length_map ..
  have hBl : ((clAt c k).proofs.map (fun n => p.testBit n.toNat)).length = (clAt c k).proofs.length := List.length_map ..
  generalize (clAt c k).needs.map (fun n => (hlK c p.testBit k)[n.toNat]?.getD false) = A at *
  generalize (clAt c k).proofs.map (fun n => p.testBit n.toNat) = B at *
  generalize clV (clAt c k) (hlK c p.testBit k) p.testBit = V at *
  generalize clAt c k = x at *
  generalize hlF c p.testBit (cl + 1) k = H at *
  have ki : (k : Int) < (cl : Int) + 1 := by omega
  refine aw_seq (aw_region ?_)
  simp (config := {maxSteps := 10000000}) (disch := first | exact okYes (by kernel_rfl) | omega) only [thenQ, dI, List.length, Nat.zero_add, Nat.reduceMul, Nat.reduceAdd, ARun_none, AOpRun, aexec, FSt.ev, St.F, eget_c, Nat.reduceBEq, ↓eget_h, cond_false, isSh, Bool.false_eq_true, ↓reduceIte, Option.map, abin, ki, decide_true, AGo_ok, St.app, putO, eput_c, eput_n, hups, List.map, ARun_nil, dropE_c, inL_n, dropE_n]
  refine aw_seq (aw_condT rfl (aw_skip ?_))
  refine aw_seq (aw_block (aw_seq (aw_region ?_)))
  simp (config := {maxSteps := 10000000}) (disch := first | exact okYes (by kernel_rfl) | omega) only [thenQ, List.length, Nat.zero_add, Nat.reduceAdd, Nat.reduceMul, ARun_none, AOpRun, aexec, FSt.ev, St.F, eget_c, Nat.reduceBEq, ↓eget_h, cond_false, AGo_ok, St.app, putO, eput_c, eput_n, hups, List.map, Int.natCast_nonneg, hSa, and_self, ↓reduceIte, opt1, Option.map, Int.toNat_natCast, g1, dB, Nat.reduceLeDiff, List.take, Option.isSome, hget_c, hget_n, Bool.false_eq_true, hput_c, hput_n, ↓hget_h, D.isBot, D.cells, List.all, D.leaf, Bool.and_true, splice, List.nil_append, List.drop, List.append_nil, beq_self_eq_true, cond_true, ARun_nil, dropE_c, inL_c, inL_n, dropE_n]
  refine aw_wk (s' := ⟨[(1, dI cl), (2, dI p), (7, .ptr 16 0), (8, dI k), (9, .ptr 40 0), (18, .list S), (19, dI ((cl : Int) + 1)), (20, dI k)], [(16, [.vec 24 (cl + 1) 1]), (24, bcl H), (40, [.list (ints x.needs), .list (ints x.proofs), dB x.any])], 72⟩) ?_ ?_
  · unfold dI dB
    refine wk_to [] [(16, 16), (24, 24), (40, 432)] (by kernel_rfl) (by kernel_rfl) (by kernel_rfl) (by kernel_rfl) (by kernel_rfl) ?_ ?_ <;> repeat' (first | exact trivial | exact vr_val _ | exact vr_list _ | exact vr_vec _ _ _ _ rfl | exact vr_ptr _ _ _ rfl | refine And.intro ⟨_, rfl, .inl ⟨_, rfl, by decide, ?_⟩⟩ ?_ | apply And.intro)
    all_goals exact vrl_flat _ (bcl_in _)
  refine aw_seq (aw_region ?_)
  simp (config := {maxSteps := 10000000}) (disch := first | exact okYes (by kernel_rfl) | omega) only [thenQ, List.length, Nat.zero_add, Nat.reduceAdd, Nat.reduceMul, dI, dB, ARun_none, AOpRun, aexec, FSt.ev, St.F, eget_c, Nat.reduceBEq, ↓eget_h, cond_false, AGo_ok, St.app, putO, eput_c, eput_n, hups, List.map, Option.map, run1, hget_c, ↓hget_h, List.getElem?_cons_zero]
  refine acallB pk1 (by repeat' (first | exact trivial | exact rfl | refine And.intro ?_ ?_)) (by kernel_rfl) (by kernel_rfl) (by kernel_rfl) ?_
  simp (config := {maxSteps := 10000000}) (disch := first | exact okYes (by kernel_rfl) | omega) only [Nat.reduceAdd, St.app, putO, eput_c, Nat.reduceBEq, eput_n, cond_false, hups, hput_c, hput_n, beq_self_eq_true, cond_true, List.map, List.append_nil, ARun_none, AOpRun, aexec, FSt.ev, St.F, eget_c, ↓eget_h, Nat.zero_add, AGo_ok, Option.map, run1, hget_c, ↓hget_h, List.getElem?_cons_succ, List.getElem?_cons_zero]
  refine acallB pk2 (by repeat' (first | exact trivial | exact rfl | refine And.intro ?_ ?_)) (by kernel_rfl) (by kernel_rfl) (by kernel_rfl) ?_
  have hac : (bcl A).length = x.needs.length := by rw [bcl_len]; exact hAl
  have hat : (bcl A).take x.needs.length = bcl A := List.take_of_length_le (by omega)
  have hbc : (bcl B).length = x.proofs.length := by rw [bcl_len]; exact hBl
  have hbt : (bcl B).take x.proofs.length = bcl B := List.take_of_length_le (by omega)
  have hbl := bcl_leaf B
  simp (config := {maxSteps := 10000000}) (disch := first | exact okYes (by kernel_rfl) | omega) only [Nat.reduceAdd, St.app, putO, eput_c, Nat.reduceBEq, eput_n, cond_false, hups, hput_c, hput_n, List.map, List.append_nil, ARun_none, AOpRun, aexec, base, FSt.ev, St.F, eget_c, ↓eget_h, hget_c, ↓hget_h, Nat.mul_one, hac, Nat.le_refl, and_self, ↓reduceIte, hat, elems, hbc, hbt, Option.isSome, Nat.reduceMul, hget_n, hbl, and_true, ups, List.cons_append, List.nil_append]
  refine ago_if (by omega) ?_
  simp (config := {maxSteps := 10000000}) (disch := first | exact okYes (by kernel_rfl) | omega) only [AGo_ok, Nat.reduceAdd, St.app, putO, eput_c, Nat.reduceBEq, eput_n, cond_false, hups, hput_c, hput_n, hdel_c, beq_self_eq_true, hdel_n, cond_true, List.map, ARun_none, AOpRun, aexec, FSt.ev, St.F, eget_c, ↓eget_h, ARun_nil, dropE_c, inL_c, inL_n, dropE_n]
  rw [bcl_app]
  have hL : (A ++ B).length = x.needs.length + x.proofs.length := by simp [hAl, hBl]
  refine aw_wk (s' := ⟨[(1, dI cl), (2, dI p), (7, .ptr 16 0), (8, dI k), (9, .ptr 40 0), (10, .vec 144 (x.needs.length + x.proofs.length) 1), (18, .list S), (19, dI ((cl : Int) + 1)), (20, dI k)], [(16, [.vec 24 (cl + 1) 1]), (24, bcl H), (40, [.list (ints x.needs), .list (ints x.proofs), dB x.any]), (144, bcl (A ++ B))], 200⟩) ?_ ?_
  · unfold dI dB
    refine wk_to [] [(16, 16), (24, 24), (40, 40), (144, 144)] (by kernel_rfl) (by kernel_rfl) (by kernel_rfl) (by kernel_rfl) (by kernel_rfl) ?_ ?_ <;> repeat' (first | exact trivial | exact vr_val _ | exact vr_list _ | exact vr_vec _ _ _ _ rfl | exact vr_ptr _ _ _ rfl | refine And.intro ⟨_, rfl, .inl ⟨_, rfl, by decide, ?_⟩⟩ ?_ | apply And.intro)
    all_goals exact vrl_flat _ (bcl_in _)
  have ct := cbool_ac (A ++ B) true (by omega)
  have cf := cbool_ac (A ++ B) false (by omega)
  generalize A ++ B = L at *
  have hHc : (bcl H).length = cl + 1 := (bcl_len H).trans hdl
  have hHk : k + 1 ≤ cl + 1 := by omega
  have hHb := bc_t H k V (by omega)
  have hcin := bcl_in (H.set k V)
  have k0 : (0 : Int) ≤ (k : Int) := by omega
  have k1 : (k : Int) < ((cl + 1 : Nat) : Int) := by omega
  have hfin : ∀ s : St, Wk [] s ⟨[(1, dI cl), (2, dI p), (7, .ptr 16 0), (18, .list S), (19, dI ((cl : Int) + 1)), (20, dI ((k + 1 : Nat) : Int))], [(16, [.vec 24 (cl + 1) 1]), (24, bcl (H.set k V))], 400⟩ → ∃ j, j ≤ cl + 1 ∧ cl + 1 - j < cl + 1 - k ∧ Wk [] s ⟨[(1, dI cl), (2, dI p), (7, .ptr 16 0), (18, .list S), (19, dI ((cl : Int) + 1)), (20, dI j)], [(16, [.vec 24 (cl + 1) 1]), (24, bcl (hlF c p.testBit (cl + 1) j))], 400⟩ := fun s hs => ⟨k + 1, by omega, by omega, by rw [hsu]; exact hs⟩
  cases ha : x.any with
  | true =>
    rw [va ha] at ct
    refine aw_seq (aw_region ?_)
    simp (config := {maxSteps := 10000000}) (disch := first | exact okYes (by kernel_rfl) | omega) only [thenQ, List.length, Nat.zero_add, Nat.reduceAdd, Nat.reduceMul, dI, dB, ARun_none, AOpRun, aexec, FSt.ev, St.F, eget_c, Nat.reduceBEq, ↓eget_h, cond_false, AGo_ok, St.app, putO, eput_c, eput_n, hups, List.map, Option.map, run1, hget_c, ↓hget_h, List.getElem?_cons_succ, List.getElem?_cons_zero, ARun_nil, dropE_c, inL_c, inL_n, beq_self_eq_true, cond_true, dropE_n]
    refine aw_condT rfl (aw_region ?_)
    simp (config := {maxSteps := 10000000}) (disch := first | exact okYes (by kernel_rfl) | omega) only [blockQ, thenQ, List.length, Nat.zero_add, Nat.reduceAdd, Nat.reduceMul, ARun_none, AOpRun, aexec, Option.map, run1, FSt.ev, St.F, eget_c, Nat.reduceBEq, ↓eget_h, cond_false, hget_c, beq_self_eq_true, hget_n, cond_true, List.getElem?_cons_zero, AGo_ok, St.app, putO, eput_c, eput_n, hups, List.map]
    refine acall ct [144] ⟨vec_bools L (by simp) rfl hL, .refl _, trivial⟩ (.inr (.val _)) (by intro g hg; simp at hg; subst hg; exact ⟨_, rfl⟩) (by kernel_rfl) ?_
    simp (config := {maxSteps := 10000000}) (disch := first | exact okYes (by kernel_rfl) | omega) only [Nat.reduceAdd, St.app, putO, dB, eput_c, Nat.reduceBEq, eput_n, cond_false, hups, ARun_none, AOpRun, aexec, FSt.ev, St.F, eget_c, ↓eget_h, k0, k1, and_self, ↓reduceIte, Int.toNat_natCast, Nat.mul_one, AGo_ok, List.map, hget_c, ↓hget_h, D.isBot, D.cells, List.length, Nat.zero_add, hHc, hHk, List.all, D.leaf, Bool.and_true, splice, hHb, hput_c, beq_self_eq_true, hput_n, cond_true, ARun_nil, dropE_c, inL_c, inL_n, dropE_n]
    refine aw_region ?_
    simp (config := {maxSteps := 10000000}) (disch := first | exact okYes (by kernel_rfl) | omega) only [thenQ, List.length, Nat.zero_add, Nat.reduceAdd, Nat.reduceMul, ARun_none, AOpRun, aexec, FSt.ev, St.F, eget_c, Nat.reduceBEq, ↓eget_h, cond_false, isSh, Bool.false_eq_true, ↓reduceIte, Option.map, abin, fits, AGo_ok, St.app, putO, eput_c, eput_n, hups, List.map, beq_self_eq_true, cond_true, ARun_nil, dropE_c, inL_c, inL_n, dropE_n]
    refine hfin _ ?_
    unfold dI
    refine wk_to [] [(16, 16), (24, 24)] (by kernel_rfl) (by kernel_rfl) (by kernel_rfl) (by kernel_rfl) (by kernel_rfl) ?_ ?_ <;> repeat' (first | exact trivial | exact vr_val _ | exact vr_list _ | exact vr_vec _ _ _ _ rfl | exact vr_ptr _ _ _ rfl | refine And.intro ⟨_, rfl, .inl ⟨_, rfl, by decide, ?_⟩⟩ ?_ | apply And.intro | exact vrl_flat _ (by first | exact icells_in _ | exact rcells_in _ | exact scells_in _ | exact bcells_in _ | assumption) | fail)
    all_goals exact vrl_flat _ hcin
  | false =>
    refine aw_seq (aw_region ?_)
    simp (config := {maxSteps := 10000000}) (disch := first | exact okYes (by kernel_rfl) | omega) only [thenQ, List.length, Nat.zero_add, Nat.reduceAdd, Nat.reduceMul, dI, dB, ARun_none, AOpRun, aexec, FSt.ev, St.F, eget_c, Nat.reduceBEq, ↓eget_h, cond_false, AGo_ok, St.app, putO, eput_c, eput_n, hups, List.map, Option.map, run1, hget_c, ↓hget_h, List.getElem?_cons_succ, List.getElem?_cons_zero, ARun_nil, dropE_c, inL_c, inL_n, beq_self_eq_true, cond_true, dropE_n]
    refine aw_condF rfl (aw_region ?_)
    simp (config := {maxSteps := 10000000}) (disch := first | exact okYes (by kernel_rfl) | omega) only [blockQ, thenQ, List.length, Nat.zero_add, Nat.reduceAdd, Nat.reduceMul, ARun_none, AOpRun, aexec, Option.map, run1, FSt.ev, St.F, eget_c, Nat.reduceBEq, ↓eget_h, cond_false, hget_c, beq_self_eq_true, hget_n, cond_true, List.getElem?_cons_zero, AGo_ok, St.app, putO, eput_c, eput_n, hups, List.map]
    refine acall cf [144] ⟨vec_bools L (by simp) rfl hL, .refl _, trivial⟩ (.inr (.val _)) (by intro g hg; simp at hg; subst hg; exact ⟨_, rfl⟩) (by kernel_rfl) ?_
    have vf := vl ha
    generalize (L.any fun b => b == false) = W at *
    subst vf
    simp (config := {maxSteps := 10000000}) (disch := first | exact okYes (by kernel_rfl) | omega) only [Nat.reduceAdd, St.app, putO, dB, eput_c, Nat.reduceBEq, eput_n, cond_false, hups, ARun_none, AOpRun, aexec, FSt.ev, St.F, eget_c, ↓eget_h, AGo_ok, List.map, k0, k1, and_self, ↓reduceIte, Int.toNat_natCast, Nat.mul_one, hget_c, ↓hget_h, D.isBot, D.cells, List.length, Nat.zero_add, hHc, hHk, List.all, D.leaf, Bool.and_true, splice, hHb, hput_c, beq_self_eq_true, hput_n, cond_true, ARun_nil, dropE_c, inL_c, inL_n, dropE_n]
    refine aw_region ?_
    simp (config := {maxSteps := 10000000}) (disch := first | exact okYes (by kernel_rfl) | omega) only [thenQ, List.length, Nat.zero_add, Nat.reduceAdd, Nat.reduceMul, ARun_none, AOpRun, aexec, FSt.ev, St.F, eget_c, Nat.reduceBEq, ↓eget_h, cond_false, isSh, Bool.false_eq_true, ↓reduceIte, Option.map, abin, fits, AGo_ok, St.app, putO, eput_c, eput_n, hups, List.map, beq_self_eq_true, cond_true, ARun_nil, dropE_c, inL_c, inL_n, dropE_n]
    refine hfin _ ?_
    unfold dI
    refine wk_to [] [(16, 16), (24, 24)] (by kernel_rfl) (by kernel_rfl) (by kernel_rfl) (by kernel_rfl) (by kernel_rfl) ?_ ?_ <;> repeat' (first | exact trivial | exact vr_val _ | exact vr_list _ | exact vr_vec _ _ _ _ rfl | exact vr_ptr _ _ _ rfl | refine And.intro ⟨_, rfl, .inl ⟨_, rfl, by decide, ?_⟩⟩ ?_ | apply And.intro | exact vrl_flat _ (by first | exact icells_in _ | exact rcells_in _ | exact scells_in _ | exact bcells_in _ | assumption) | fail)
    all_goals exact vrl_flat _ hcin
end Go.Proofs.Ytdcodicoclecnaa
/- The document: whether a claim holds with proofs. No conditions. -/
set_option linter.unusedSimpArgs false
set_option linter.unusedVariables false
namespace Go.Proofs.Ytdcodicoclecnaa
open Go Go.RowKit Lift

theorem anyT (l : List Int) (f : Int → Bool) (j : Nat) (h : j < l.length) : (l.take (j + 1)).any f = ((l.take j).any f || f (l[j]?.getD 0)) := by
  rw [List.take_add_one, List.any_append]; simp [h]
end Go.Proofs.Ytdcodicoclecnaa
/- record: until when a claim holds. No conditions. -/
set_option linter.unusedSimpArgs false
set_option linter.unusedVariables false
namespace Go.Proofs.Ytdcodicoclecnaa
open Go Go.RowKit Lift

/-- the first tick from t on in which h fails, at most so many ticks behind -/
def untF (h : Nat → Bool) : Nat → Nat → Nat
  | 0, t => t
  | n + 1, t => if h t = true then untF h n (t + 1) else t
/-- whether a claim holds in a tick -/
def hAtT (c : Cas) (cl : Nat) (t : Nat) : Bool := holdC c cl (cntT c (t : Int))
def untT (c : Cas) (cl tk : Nat) : Nat := untF (hAtT c cl) (2001 - tk) tk
theorem cntN_fun (c : Cas) (tick : Int) : (cntN c tick).testBit = cntT c tick := funext fun j => cntN_test c tick j
theorem cntN_lt {c : Cas} (hc : CasOk c) (tick : Int) : cntN c tick < 4096 := bits_small _ hc.n2 (Nat.le_refl _)
theorem clmE_ok {c : Cas} {claim tick : Int} (h : clmE c claim tick 122 1 = 0) : CasOk c ∧ ∃ cl tk : Nat, claim = cl ∧ tick = tk ∧ cl < c.cl.length ∧ tk ≤ 2000 := by
  unfold clmE at h
  by_cases hc : CasOk c
  · rw [casE_ok hc, if_neg (by simp)] at h
    split at h
    · rename_i h1
      exact ⟨hc, claim.toNat, tick.toNat, by omega, by omega, by omega, by omega⟩
    · omega
  · rw [casE_no hc, if_pos (by omega)] at h; omega
set_option maxRecDepth 100000 in
set_option maxHeartbeats 4000000 in
theorem until_ok (c : Cas) (hi : CasIn c) (cl tk : Nat) (h0 : clmE c cl tk 122 1 = 0) : AC Try.prog 37 [casD c, dI cl, dI tk] [] [] (if untT c cl tk = tk then .tup [dI 0, dI 3] else .tup [dI ((untT c cl tk : Nat) - 1 : Int), dI 0]) := by
  refine krecord_Until.ac (n0 := 0) (by simp) ⟨in_cas _ _, .val _, .val _, trivial⟩ trivial rfl ?_
  obtain ⟨hc, cl', tk', e1, e2, hcl, htk⟩ := clmE_ok h0
  obtain rfl : cl = cl' := by omega
  obtain rfl : tk = tk' := by omega
  have ck := ccheck_ac c hi cl tk
  rw [h0] at ck
  have hh := fun t : Nat => holds_ac c hc cl hcl (cntN c t) (cntN_lt hc t)
  have cc := fun t : Nat => counting_ac c hc.n2 (t : Int)
  unfold crecord_Until
  unfold casD at *
  (have hg : (987654321 : Nat) - 987654321 = 0 := rfl; have hr := hg; repeat' (first | refine aw_seq ?_ | (refine aw_skip ?_; try simp only [thenQ, blockQ, if_true, if_false, Nat.reduceEqDiff, reduceCtorEq]) | (refine aw_exit ?_; try simp only [thenQ, blockQ, if_true, if_false, Nat.reduceEqDiff, reduceCtorEq]) | refine aw_ret ?_ | refine aw_block ?_ | refine aw_condT rfl ?_ | refine aw_condF rfl ?_ | ((first | refine aw_region ?_ | refine acall0 (ck) ?_ | refine ago_if (by omega) ?_ | skip); simp (config := {maxSteps := 10000000}) (disch := first | exact okYes (by kernel_rfl) | omega) only [thenQ, List.map, dI, List.length, Nat.zero_add, Nat.reduceAdd, Nat.reduceMul, envOf, ARun_none, AOpRun, aexec, D.isBot, FSt.ev, St.F, ↓eget_h, Bool.false_eq_true, Option.isSome, hget_n, or_self, ↓reduceIte, D.cells, AGo_ok, St.app, putO, eput_c, Nat.reduceBEq, eput_n, cond_false, hups, hput_n, ARun_nil, dropE_c, inL_n, dropE_n, eget_c, hget_c, beq_self_eq_true, cond_true, Nat.reduceLeDiff, List.drop, List.take, inL_c, isSh, Option.map, abin, bne_self_eq_false])))
  refine aw_loop (fun t : Nat => ⟨[(1, dI cl), (2, dI tk), (3, .ptr 0 0), (9, dI t)], [(0, [.list (cls c.cl), .list (sps c.pf)])], 400⟩) (fun t => tk ≤ t ∧ t ≤ 2001 ∧ untF (hAtT c cl) (2001 - t) t = untT c cl tk) (fun t => 2001 - t) ⟨tk, ⟨by omega, by omega, rfl⟩, ?_⟩ ?_
  · refine wk_to [] [(0, 0)] (by kernel_rfl) (by kernel_rfl) (by kernel_rfl) (by kernel_rfl) (by kernel_rfl) ?_ ?_ <;> repeat' (first | exact trivial | exact vr_val _ | exact vr_list _ | exact vr_ptr _ _ _ rfl | refine And.intro ⟨_, rfl, .inl ⟨_, rfl, by decide, ?_⟩⟩ ?_ | apply And.intro)
  rintro t ⟨ht1, ht2, hu⟩
  have ht := hh t
  rw [cntN_fun] at ht
  have ct := cc t
  generalize cntN c t = p at ht ct
  by_cases hle : t ≤ 2000
  case neg =>
    obtain rfl : t = 2001 := by omega
    have e : untT c cl tk = 2001 := by rw [← hu]; rfl
    rw [e, if_neg (by omega)]
    (have hg : (987654321 : Nat) - 987654321 = 0 := rfl; have hr := hg; repeat' (first | refine aw_seq ?_ | (refine aw_skip ?_; try simp only [thenQ, blockQ, if_true, if_false, Nat.reduceEqDiff, reduceCtorEq]) | (refine aw_exit ?_; try simp only [thenQ, blockQ, if_true, if_false, Nat.reduceEqDiff, reduceCtorEq]) | refine aw_ret ?_ | refine aw_block ?_ | refine aw_condT rfl ?_ | refine aw_condF rfl ?_ | (refine aw_cond rfl (fun hg => ?_) (fun hg => ?_) <;> (try (have hq := hg; simp only [Bool.not_eq_true', Bool.not_eq_false', Bool.and_eq_true, Bool.and_eq_false_iff, Bool.or_eq_true, Bool.or_eq_false_iff, decide_eq_true_eq, decide_eq_false_iff_not, bne_iff_ne, beq_iff_eq, beq_eq_false_iff_ne, bne_eq_false_iff_eq, ne_eq, Int.not_lt, Int.not_le, Decidable.not_not] at hq)) <;> (try (have hr := hg; simp only [decide_eq_true_eq, decide_eq_false_iff_not] at hr)) <;> (try (exfalso; omega))) | ((first | refine aw_region ?_ | refine ago_if (by omega) ?_ | skip); simp (config := {maxSteps := 10000000}) (disch := first | exact okYes (by kernel_rfl) | omega) only [thenQ, hg, dI, cast_lit, Int.reduceSub, List.length, Nat.zero_add, Nat.reduceAdd, Nat.reduceMul, ARun_none, AOpRun, aexec, FSt.ev, St.F, eget_c, Nat.reduceBEq, ↓eget_h, cond_false, AGo_ok, St.app, putO, eput_c, eput_n, hups, List.map, isSh, Bool.false_eq_true, ↓reduceIte, Option.map, abin, Int.reduceLE, decide_false, ARun_some, AG_ft, ARun_nil, dropE_c, inL_c, inL_n, beq_self_eq_true, cond_true, dropE_n, fits])))
    all_goals (refine end_to [] [] (by first | exact .inl rfl | exact .inr rfl) rfl (by kernel_rfl) (by kernel_rfl) (by kernel_rfl) ?_ ?_ <;> repeat' (first | exact trivial | exact vr_val _ | apply vr_tup | apply And.intro))
  have q1 : decide ((t : Int) ≤ 2000) = true := decide_eq_true (by omega)
  cases hv : holdC c cl (cntT c (t : Int)) with
  | false =>
    rw [hv] at ht
    have e : untT c cl tk = t := by
      rw [← hu, show 2001 - t = (2000 - t) + 1 by omega]
      unfold untF
      rw [if_neg (by unfold hAtT; simp [hv])]
    rw [e]
    by_cases hte : t = tk
    · subst hte
      rw [if_pos rfl]
      (have hg : (987654321 : Nat) - 987654321 = 0 := rfl; have hr := hg; repeat' (first | refine aw_seq ?_ | (refine aw_skip ?_; try simp only [thenQ, blockQ, if_true, if_false, Nat.reduceEqDiff, reduceCtorEq]) | (refine aw_exit ?_; try simp only [thenQ, blockQ, if_true, if_false, Nat.reduceEqDiff, reduceCtorEq]) | refine aw_ret ?_ | refine aw_block ?_ | refine aw_condT rfl ?_ | refine aw_condF rfl ?_ | ((first | refine aw_region ?_ | refine acall0 (ct) ?_ | refine acall0 (ht) ?_ | refine ago_if (by omega) ?_ | skip); simp (config := {maxSteps := 10000000}) (disch := first | exact okYes (by kernel_rfl) | omega) only [thenQ, dI, List.length, Nat.zero_add, Nat.reduceAdd, Nat.reduceMul, ARun_none, AOpRun, aexec, FSt.ev, St.F, eget_c, Nat.reduceBEq, ↓eget_h, cond_false, AGo_ok, St.app, putO, eput_c, eput_n, hups, List.map, isSh, Bool.false_eq_true, ↓reduceIte, Option.map, abin, q1, ARun_some, AG_tt, hget_c, beq_self_eq_true, hget_n, cond_true, Nat.reduceLeDiff, List.drop, List.take, dB, ARun_nil, dropE_c, inL_c, inL_n, dropE_n])))
      all_goals (refine end_to [] [] (by first | exact .inl rfl | exact .inr rfl) rfl (by kernel_rfl) (by kernel_rfl) (by kernel_rfl) ?_ ?_ <;> repeat' (first | exact trivial | exact vr_val _ | apply vr_tup | apply And.intro))
    · rw [if_neg hte]
      have q2 : ((t : Int) == (tk : Int)) = false := by simp only [beq_eq_false_iff_ne]; omega
      (have hg : (987654321 : Nat) - 987654321 = 0 := rfl; have hr := hg; repeat' (first | refine aw_seq ?_ | (refine aw_skip ?_; try simp only [thenQ, blockQ, if_true, if_false, Nat.reduceEqDiff, reduceCtorEq]) | (refine aw_exit ?_; try simp only [thenQ, blockQ, if_true, if_false, Nat.reduceEqDiff, reduceCtorEq]) | refine aw_ret ?_ | refine aw_block ?_ | refine aw_condT rfl ?_ | refine aw_condF rfl ?_ | ((first | refine aw_region ?_ | refine acall0 (ct) ?_ | refine acall0 (ht) ?_ | refine ago_if (by omega) ?_ | skip); simp (config := {maxSteps := 10000000}) (disch := first | exact okYes (by kernel_rfl) | omega) only [thenQ, dI, List.length, Nat.zero_add, Nat.reduceAdd, Nat.reduceMul, ARun_none, AOpRun, aexec, FSt.ev, St.F, eget_c, Nat.reduceBEq, ↓eget_h, cond_false, AGo_ok, St.app, putO, eput_c, eput_n, hups, List.map, isSh, Bool.false_eq_true, ↓reduceIte, Option.map, abin, q1, ARun_some, AG_tt, hget_c, beq_self_eq_true, hget_n, cond_true, Nat.reduceLeDiff, List.drop, List.take, dB, ARun_nil, dropE_c, inL_c, inL_n, dropE_n, q2, fits])))
      all_goals (refine end_to [] [] (by first | exact .inl rfl | exact .inr rfl) rfl (by kernel_rfl) (by kernel_rfl) (by kernel_rfl) ?_ ?_ <;> repeat' (first | exact trivial | exact vr_val _ | apply vr_tup | apply And.intro))
  | true =>
    rw [hv] at ht
    have e : untF (hAtT c cl) (2001 - (t + 1)) (t + 1) = untT c cl tk := by
      rw [← hu, show 2001 - t = (2001 - (t + 1)) + 1 by omega]
      conv => rhs; unfold untF
      rw [if_pos (by unfold hAtT; exact hv)]
    (have hg : (987654321 : Nat) - 987654321 = 0 := rfl; have hr := hg; repeat' (first | refine aw_seq ?_ | (refine aw_skip ?_; try simp only [thenQ, blockQ, if_true, if_false, Nat.reduceEqDiff, reduceCtorEq]) | (refine aw_exit ?_; try simp only [thenQ, blockQ, if_true, if_false, Nat.reduceEqDiff, reduceCtorEq]) | refine aw_ret ?_ | refine aw_block ?_ | refine aw_condT rfl ?_ | refine aw_condF rfl ?_ | ((first | refine aw_region ?_ | refine acall0 (ct) ?_ | refine acall0 (ht) ?_ | refine ago_if (by omega) ?_ | skip); simp (config := {maxSteps := 10000000}) (disch := first | exact okYes (by kernel_rfl) | omega) only [thenQ, dI, List.length, Nat.zero_add, Nat.reduceAdd, Nat.reduceMul, ARun_none, AOpRun, aexec, FSt.ev, St.F, eget_c, Nat.reduceBEq, ↓eget_h, cond_false, AGo_ok, St.app, putO, eput_c, eput_n, hups, List.map, isSh, Bool.false_eq_true, ↓reduceIte, Option.map, abin, q1, ARun_some, AG_tt, hget_c, beq_self_eq_true, hget_n, cond_true, Nat.reduceLeDiff, List.drop, List.take, dB, ARun_nil, dropE_c, inL_c, inL_n, dropE_n, blockQ, fits])))
    refine ⟨t + 1, ⟨by omega, by omega, e⟩, by omega, ?_⟩
    refine wk_to [] [(0, 0)] (by kernel_rfl) (by kernel_rfl) (by kernel_rfl) (by kernel_rfl) (by kernel_rfl) ?_ ?_ <;> repeat' (first | exact trivial | exact vr_val _ | exact vr_list _ | exact vr_ptr _ _ _ rfl | refine And.intro ⟨_, rfl, .inl ⟨_, rfl, by decide, ?_⟩⟩ ?_ | apply And.intro)
end Go.Proofs.Ytdcodicoclecnaa
/- The functions' bodies, translated. Written by a program; no conditions. -/
namespace Go.Proofs.Ytdcodicoclecnaa
open Go.RowKit Lift

/-- record_Renew -/
def crecord_Renew : ACode :=
  (.seq
   (.region false [⟨some 3, .box (.tmp 0), none, []⟩,
     ⟨some 4, .box (.tmp 1), none, []⟩,
     ⟨some 6, .mv (.const (.slice none 0 0)), none, []⟩,
     ⟨some 7, .mv (.const (.int .i64 0)), none, []⟩] [])
  (.seq
   (.seq
    (.region false [⟨some 13, .loadN 2 (.tmp 3), none, []⟩,
      ⟨some 14, .load1 (.tmp 4), none, []⟩,
      ⟨some 15, .mv (.tmp 2), none, []⟩,
      ⟨some 16, .call (.func 82) [(.tmp 13), (.tmp 14), (.tmp 15)], none, []⟩,
      ⟨some 8, .mv (.tmp 16), none, []⟩] [13, 14, 15, 16])
   (.seq
    (.region false [⟨some 17, .mv (.tmp 8), none, []⟩,
      ⟨some 18, .bin .neq (.tmp 17) (.const (.int .i64 0)), none, []⟩] [17])
   (.cond (.tmp 18)
     (.seq
      (.region false [⟨some 19, .mv (.tmp 8), none, []⟩,
        ⟨some 6, .mv (.const (.slice none 0 0)), none, []⟩,
        ⟨some 7, .mv (.tmp 19), none, []⟩] [19])
     .ret)
     .skip)))
  (.seq
   (.region false [⟨some 20, .loadN 2 (.tmp 3), none, []⟩,
     ⟨some 21, .mv (.tmp 2), none, []⟩,
     ⟨some 22, .call (.func 84) [(.tmp 20), (.tmp 21)], none, []⟩,
     ⟨some 9, .mem [(.val (.int .i64 0))], none, []⟩,
     ⟨none, .store 1 (.tmp 9) (.tmp 22), none, []⟩] [20, 21, 22])
  (.seq
   (.region false [⟨some 10, .mem [(.val (.slice none 0 0))], none, []⟩] [])
  (.seq
   (.region false [⟨some 11, .mem [(.val (.nilFunc))], none, []⟩] [])
  (.seq
   (.region false [⟨some 23, .mkfn 88 [] [(.tmp 3), (.tmp 4), (.tmp 9), (.tmp 10), (.tmp 11)], none, []⟩,
     ⟨none, .store 1 (.tmp 11) (.tmp 23), none, []⟩] [23])
  (.seq
   (.seq
    (.region false [⟨some 24, .fad 1 (.tmp 3), none, []⟩,
      ⟨some 25, .load1 (.tmp 24), none, []⟩,
      ⟨some 26, .len_ (.tmp 25), none, []⟩,
      ⟨some 27, .bin .add (.tmp 26) (.const (.int .i64 1)), none, []⟩,
      ⟨some 28, .mv (.const (.int .i64 0)), none, []⟩] [24, 25, 26])
   (.block 0
     (.loop
       (.seq
        (.region false [⟨some 29, .bin .lss (.tmp 28) (.tmp 27), none, []⟩] [])
       (.seq
        (.cond (.tmp 29)
          .skip
          (.exit 0))
       (.seq
        (.block 1
          (.seq
           (.region false [⟨some 30, .mv (.tmp 28), none, []⟩,
             ⟨some 12, .mv (.tmp 30), none, []⟩] [30])
          (.seq
           (.region false [⟨some 31, .load1 (.tmp 11), none, []⟩,
             ⟨some 32, .load1 (.tmp 9), none, []⟩,
             ⟨some 33, .mv (.tmp 12), none, []⟩,
             ⟨some 34, .call (.tmp 31) [(.tmp 32), (.const (.int .i64 0)), (.tmp 33)], none, []⟩] [31, 32, 33])
          (.cond (.tmp 34)
            (.seq
             (.region false [⟨some 35, .load1 (.tmp 10), none, []⟩,
               ⟨some 6, .mv (.tmp 35), none, []⟩,
               ⟨some 7, .mv (.const (.int .i64 0)), none, []⟩] [35])
            .ret)
            .skip))))
       (.region false [⟨some 36, .bin .add (.tmp 28) (.const (.int .i64 1)), none, []⟩,
         ⟨some 28, .mv (.tmp 36), none, []⟩] [36])))))))
  (.seq
   (.region false [⟨some 6, .mv (.const (.slice none 0 0)), none, []⟩,
     ⟨some 7, .mv (.const (.int .i64 3)), none, []⟩] [])
  .ret))))))))
set_option maxRecDepth 100000 in
theorem krecord_Renew : IsCode Try.prog 41 37 crecord_Renew [.tmp 6, .tmp 7] :=
  ⟨Try.f41, _, [34, 29, 18, 0, 1, 3, 4, 2, 8, 9, 10, 11, 28, 27, 12, 6, 7], Try.func41, rfl, by decide, rfl, by kernel_rfl, by kernel_rfl⟩
/-- record_Renew_S1 -/
def crecord_Renew_S1 : ACode :=
  (.seq
   (.region false [⟨some 11, .mv (.const (.bool false)), none, []⟩] [])
  (.seq
   (.seq
    (.region false [⟨some 13, .mv (.tmp 2), none, []⟩,
      ⟨some 14, .bin .eql (.tmp 13) (.const (.int .i64 0)), none, []⟩] [13])
   (.cond (.tmp 14)
     (.seq
      (.region false [⟨some 15, .loadN 2 (.tmp 3), none, []⟩,
        ⟨some 16, .load1 (.tmp 4), none, []⟩,
        ⟨some 17, .mv (.tmp 0), none, []⟩,
        ⟨some 18, .call (.func 83) [(.tmp 15), (.tmp 16), (.tmp 17)], none, []⟩,
        ⟨some 11, .mv (.tmp 18), none, []⟩] [15, 16, 17, 18])
     .ret)
     .skip))
  (.seq
   (.seq
    (.region false [⟨some 19, .mv (.tmp 1), none, []⟩,
      ⟨some 12, .mv (.tmp 19), none, []⟩] [19])
   (.block 0
     (.loop
       (.seq
        (.seq
         (.region false [⟨some 20, .mv (.tmp 12), none, []⟩,
           ⟨some 21, .fad 1 (.tmp 3), none, []⟩,
           ⟨some 22, .load1 (.tmp 21), none, []⟩,
           ⟨some 23, .len_ (.tmp 22), none, []⟩,
           ⟨some 24, .bin .lss (.tmp 20) (.tmp 23), none, []⟩] [20, 21, 22, 23])
        (.cond (.tmp 24)
          .skip
          (.exit 0)))
       (.seq
        (.block 1
          (.seq
           (.seq
            (.region false [⟨some 27, .load1 (.tmp 5), none, []⟩,
              ⟨some 28, .mv (.tmp 12), none, []⟩,
              ⟨some 29, .call (.func 89) [(.tmp 27), (.tmp 28)], none, []⟩] [27, 28])
           (.cond (.tmp 29)
             (.exit 1)
             .skip))
          (.seq
           (.region false [⟨some 30, .load1 (.tmp 6), none, []⟩,
             ⟨some 31, .mv (.tmp 12), none, []⟩,
             ⟨some 32, .buildSl 1 1 [(.val (.int .i64 0))] [(0, 1, (.tmp 31))], none, []⟩,
             ⟨some 33, .app 1 8 (.tmp 30) (.tmp 32), none, []⟩,
             ⟨none, .store 1 (.tmp 6) (.tmp 33), none, []⟩] [30, 31, 32, 33])
          (.seq
           (.seq
            (.region true [⟨some 34, .load1 (.tmp 7), none, []⟩,
              ⟨some 35, .mv (.tmp 0), none, []⟩,
              ⟨some 36, .mv (.tmp 12), none, []⟩,
              ⟨some 37, .call (.func 90) [(.tmp 35), (.tmp 36)], none, [1, 2]⟩,
              ⟨some 38, .mv (.tmp 12), none, []⟩,
              ⟨some 39, .bin .add (.tmp 38) (.const (.int .i64 1)), none, [4]⟩,
              ⟨some 40, .mv (.tmp 2), none, []⟩,
              ⟨some 41, .bin .sub (.tmp 40) (.const (.int .i64 1)), none, [6]⟩,
              ⟨some 42, .call (.tmp 34) [(.tmp 37), (.tmp 39), (.tmp 41)], none, [0, 3, 1, 2, 5, 4, 7, 6]⟩] [34, 35, 36, 37, 38, 39, 40, 41])
           (.cond (.tmp 42)
             (.seq
              (.region false [⟨some 11, .mv (.const (.bool true)), none, []⟩] [])
             .ret)
             .skip))
          (.region false [⟨some 43, .load1 (.tmp 6), none, []⟩,
            ⟨some 44, .load1 (.tmp 6), none, []⟩,
            ⟨some 45, .len_ (.tmp 44), none, []⟩,
            ⟨some 46, .bin .sub (.tmp 45) (.const (.int .i64 1)), none, []⟩,
            ⟨some 47, .slS 1 (.tmp 43) none (some (.tmp 46)), none, []⟩,
            ⟨none, .store 1 (.tmp 6) (.tmp 47), none, []⟩] [43, 44, 45, 46, 47])))))
       (.region false [⟨some 25, .mv (.tmp 12), none, []⟩,
         ⟨some 26, .bin .add (.tmp 25) (.const (.int .i64 1)), none, []⟩,
         ⟨some 12, .mv (.tmp 26), none, []⟩] [25, 26]))))))
  (.seq
   (.region false [⟨some 11, .mv (.const (.bool false)), none, []⟩] [])
  .ret))))
set_option maxRecDepth 100000 in
theorem krecord_Renew_S1 : IsCode Try.prog 88 48 crecord_Renew_S1 [.tmp 11] :=
  ⟨Try.f88, _, [42, 29, 24, 14, 2, 3, 4, 0, 1, 12, 5, 6, 7, 11], Try.func88, rfl, by decide, rfl, by kernel_rfl, by kernel_rfl⟩
end Go.Proofs.Ytdcodicoclecnaa
