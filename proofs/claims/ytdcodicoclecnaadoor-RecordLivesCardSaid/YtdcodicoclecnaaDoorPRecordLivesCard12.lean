/- Texts of the law RecordLivesCard, part 12. No conditions. -/
import Derived.Test.YtdcodicoclecnaaDoorPRecordLivesCard11
import Derived.Test.YtdcodicoclecnaaDoorRows
import Derived.FnData
import Derived.ProofKit
import Derived.OpenShut
import Derived.ChangeOld
import Derived.Below
import Derived.Lib.SmallJoins
set_option linter.unusedSimpArgs false
set_option linter.unusedVariables false
/- The law of lives (views last). No conditions. -/
namespace Go.Proofs.YtdcodicoclecnaaDoor
open Go Go.RowKit Lift

set_option maxRecDepth 100000 in
set_option maxHeartbeats 16000000 in
theorem lawLives_ac (l : Lay) (frs : List (List Int)) (r : Reg) (W : List W4) (cs : List Cd) (h m o : Int) (hl : LayIn l) (hf : FrIn frs) (hn : cs.length ≤ maxLen) :
    AC Tryd.prog 3 [tpD l frs, .agg [.list (kds r.ks), .list (p0s r.ps), dI r.ms, .list (ods r.os), .list (wkL W), .list (cds cs), dI h, dI m, dI o]] [] [] (dB true) := by
  refine klaw12_RecordLives.ac (n0 := 0) (by simp) ⟨in_tpD _ _ _, .agg _ (vals_in rfl), trivial⟩ trivial rfl ?_
  unfold claw12_RecordLives
  have fa := far_ac l frs hl.nf hf.n hf.m
  have fe := farE_ac cs h hn
  unfold tpD evD at *
  cases hb : farTp l frs with
  | true =>
    rw [hb] at fa
    (repeat' (first | (with_reducible first | refine thenQ_n ?_ | refine blockQ_n ?_ | refine thenQ_e ?_ | refine blockQ_t ?_ | refine blockQ_f (by decide) ?_) | apply aw_seq | apply aw_skip | apply aw_exit | apply aw_ret | apply aw_block | apply aw_condT rfl | apply aw_condF rfl | ((first | refine aw_hide fun K hK => aw_region ?_ | refine acall0 (fa) ?_ | refine acall0 (works_ac) ?_ | refine ago_if (by omega) ?_ | skip); simp (disch := first | exact okY | omega) only [ZU, Nat.reduceAdd, Nat.reduceMul, dI, AOpRun, aexec, D.isBot, ↓eget_h, or_self, ↓reduceIte, D.cells, Nat.reduceBEq, Nat.reduceLeDiff, List.drop, List.take, dB, ARun_some, AG_tf]) | subst hK))
    all_goals (refine end_q [] [] ?_ ?_ <;> repeat' (first | exact trivial | exact vr_val _))
  | false =>
  rw [hb] at fa
  cases q : decide ((cs.length : Int) > 8) with
  | true =>
    rw [q] at fe
    (repeat' (first | (with_reducible first | refine thenQ_n ?_ | refine blockQ_n ?_ | refine thenQ_e ?_ | refine blockQ_t ?_ | refine blockQ_f (by decide) ?_) | apply aw_seq | apply aw_skip | apply aw_exit | apply aw_ret | apply aw_block | apply aw_condT rfl | apply aw_condF rfl | ((first | refine aw_hide fun K hK => aw_region ?_ | refine acall0 (fa) ?_ | refine acall0 (fe) ?_ | refine acall0 (works_ac) ?_ | refine ago_if (by omega) ?_ | skip); simp (disch := first | exact okY | omega) only [ZU, Nat.reduceAdd, Nat.reduceMul, dI, AOpRun, aexec, D.isBot, ↓eget_h, or_self, ↓reduceIte, D.cells, Nat.reduceBEq, Nat.reduceLeDiff, List.drop, List.take, dB, ARun_some, AG_ff, ↓hget_h, AG_tf]) | subst hK))
    all_goals (refine end_q [] [] ?_ ?_ <;> repeat' (first | exact trivial | exact vr_val _))
  | false =>
  rw [q] at fe
  have n8 := of_decide_eq_false q
  cases qw : decide ((W.length : Int) > 100) with
  | true =>
    (repeat' (first | (with_reducible first | refine thenQ_n ?_ | refine blockQ_n ?_ | refine thenQ_e ?_ | refine blockQ_t ?_ | refine blockQ_f (by decide) ?_) | apply aw_seq | apply aw_skip | apply aw_exit | apply aw_ret | apply aw_block | apply aw_condT rfl | apply aw_condF rfl | ((first | refine aw_hide fun K hK => aw_region ?_ | refine acall0 (fa) ?_ | refine acall0 (fe) ?_ | refine acall0 (works_ac) ?_ | refine ago_if (by omega) ?_ | skip); simp (disch := first | exact okY | omega) only [ZU, Nat.reduceAdd, Nat.reduceMul, dI, AOpRun, aexec, D.isBot, ↓eget_h, or_self, ↓reduceIte, D.cells, Nat.reduceBEq, Nat.reduceLeDiff, List.drop, List.take, dB, ARun_some, AG_ff, ↓hget_h, run1, wkL_len, isSh, abin, qw, AG_tf]) | subst hK))
    all_goals (refine end_q [] [] ?_ ?_ <;> repeat' (first | exact trivial | exact vr_val _))
  | false =>
  cases qk : decide ((r.ks.length : Int) > 12) with
  | true =>
    (repeat' (first | (with_reducible first | refine thenQ_n ?_ | refine blockQ_n ?_ | refine thenQ_e ?_ | refine blockQ_t ?_ | refine blockQ_f (by decide) ?_) | apply aw_seq | apply aw_skip | apply aw_exit | apply aw_ret | apply aw_block | apply aw_condT rfl | apply aw_condF rfl | ((first | refine aw_hide fun K hK => aw_region ?_ | refine acall0 (fa) ?_ | refine acall0 (fe) ?_ | refine acall0 (works_ac) ?_ | refine ago_if (by omega) ?_ | skip); simp (disch := first | exact okY | omega) only [ZU, Nat.reduceAdd, Nat.reduceMul, dI, AOpRun, aexec, D.isBot, ↓eget_h, or_self, ↓reduceIte, D.cells, Nat.reduceBEq, Nat.reduceLeDiff, List.drop, List.take, dB, ARun_some, AG_ff, ↓hget_h, run1, wkL_len, isSh, abin, qw, kds_len, qk, AG_tf]) | subst hK))
    all_goals (refine end_q [] [] ?_ ?_ <;> repeat' (first | exact trivial | exact vr_val _))
  | false =>
  cases qp : decide ((r.ps.length : Int) > 40) with
  | true =>
    (repeat' (first | (with_reducible first | refine thenQ_n ?_ | refine blockQ_n ?_ | refine thenQ_e ?_ | refine blockQ_t ?_ | refine blockQ_f (by decide) ?_) | apply aw_seq | apply aw_skip | apply aw_exit | apply aw_ret | apply aw_block | apply aw_condT rfl | apply aw_condF rfl | ((first | refine aw_hide fun K hK => aw_region ?_ | refine acall0 (fa) ?_ | refine acall0 (fe) ?_ | refine acall0 (works_ac) ?_ | refine ago_if (by omega) ?_ | skip); simp (disch := first | exact okY | omega) only [ZU, Nat.reduceAdd, Nat.reduceMul, dI, AOpRun, aexec, D.isBot, ↓eget_h, or_self, ↓reduceIte, D.cells, Nat.reduceBEq, Nat.reduceLeDiff, List.drop, List.take, dB, ARun_some, AG_ff, ↓hget_h, run1, wkL_len, isSh, abin, qw, kds_len, qk, p0s_len, qp, AG_tf]) | subst hK))
    all_goals (refine end_q [] [] ?_ ?_ <;> repeat' (first | exact trivial | exact vr_val _))
  | false =>
  cases qo : decide ((r.os.length : Int) > 12) with
  | true =>
    (repeat' (first | (with_reducible first | refine thenQ_n ?_ | refine blockQ_n ?_ | refine thenQ_e ?_ | refine blockQ_t ?_ | refine blockQ_f (by decide) ?_) | apply aw_seq | apply aw_skip | apply aw_exit | apply aw_ret | apply aw_block | apply aw_condT rfl | apply aw_condF rfl | ((first | refine aw_hide fun K hK => aw_region ?_ | refine acall0 (fa) ?_ | refine acall0 (fe) ?_ | refine acall0 (works_ac) ?_ | refine ago_if (by omega) ?_ | skip); simp (disch := first | exact okY | omega) only [ZU, Nat.reduceAdd, Nat.reduceMul, dI, AOpRun, aexec, D.isBot, ↓eget_h, or_self, ↓reduceIte, D.cells, Nat.reduceBEq, Nat.reduceLeDiff, List.drop, List.take, dB, ARun_some, AG_ff, ↓hget_h, run1, wkL_len, isSh, abin, qw, kds_len, qk, p0s_len, qp, ods_len, qo]) | subst hK))
    all_goals (refine end_q [] [] ?_ ?_ <;> repeat' (first | exact trivial | exact vr_val _))
  | false =>
  have nW := of_decide_eq_false qw
  obtain ⟨f1, f2, f3⟩ := far_small hb
  have ow := own_ac l frs (by omega) (by omega) (fun k => by have := f3 k; omega)
  have co := copied_ac cs h (by omega)
  have c1 := flights_ac l frs cs h m o hl hf (by omega)
  have hln := flR_len2 l frs cs h m o
  rw [wks_flW] at c1
  generalize flR l frs cs h m o = s at *
  generalize flE l frs cs h m o = E at *
  unfold tpD at ow
  unfold evD at co c1
  unfold layD layC at c1
  cases qE : (E != 0) with
  | true =>
    (repeat' (first | (with_reducible first | refine thenQ_n ?_ | refine blockQ_n ?_ | refine thenQ_e ?_ | refine blockQ_t ?_ | refine blockQ_f (by decide) ?_) | apply aw_seq | apply aw_skip | apply aw_exit | apply aw_ret | apply aw_block | apply aw_condT rfl | apply aw_condF rfl | ((first | refine aw_hide fun K hK => aw_region ?_ | refine acall0 (fa) ?_ | refine acall0 (fe) ?_ | refine acall0 (ow) ?_ | refine acall0 (co) ?_ | refine acall0 (c1) ?_ | refine acall0 (works_ac) ?_ | refine ago_if (by omega) ?_ | skip); simp (disch := first | exact okY | omega) only [ZU, Nat.reduceAdd, Nat.reduceMul, dI, AOpRun, aexec, D.isBot, ↓eget_h, or_self, ↓reduceIte, D.cells, Nat.reduceBEq, Nat.reduceLeDiff, List.drop, List.take, dB, ARun_some, AG_ff, ↓hget_h, run1, wkL_len, isSh, abin, qw, kds_len, qk, p0s_len, qp, ods_len, qo, List.all, D.leaf, splice, opt1, qE]) | subst hK))
    all_goals (refine end_q [] [] ?_ ?_ <;> repeat' (first | exact trivial | exact vr_val _))
  | false =>
  have hAl : (W ++ flW m s).length = W.length + s.length := by rw [List.length_append, flW_len]
  have k1 := pCheck_ac r (W ++ flW m s) (by omega)
  have k2 := pUsed_ac r W (by omega)
  have k3 := pWhere_ac r W (by omega)
  have k4 := pUsed_ac r (W ++ flW m s) (by omega)
  unfold regD regC at k1 k2 k3 k4
  have hlen := flW_len m s
  have ap := wkF_app W (flW m s)
  have hle : W.length * 4 ≤ (wkF W).length := by rw [wkF_len]; omega
  (iterate 22 (try (first | apply aw_seq | ((first | apply aw_skip | apply aw_exit); with_reducible repeat' (first | refine thenQ_n ?_ | refine blockQ_n ?_ | refine thenQ_e ?_ | refine blockQ_t ?_ | refine blockQ_f (by decide) ?_)) | apply aw_ret | apply aw_block | apply aw_condT rfl | apply aw_condF rfl | ((first | refine aw_hide fun K hK => aw_region ?_ | refine acall0 (fa) ?_ | refine acall0 (fe) ?_ | refine acall0 (ow) ?_ | refine acall0 (co) ?_ | refine acall0 (c1) ?_ | refine ago_if (by omega) ?_ | skip); simp (disch := first | exact okY | omega) only [ZU, Nat.reduceAdd, Nat.reduceMul, dI, AOpRun, aexec, D.isBot, ↓eget_h, or_self, ↓reduceIte, D.cells, Nat.reduceBEq, Nat.reduceLeDiff, List.drop, List.take, dB, ARun_some, AG_ff, ↓hget_h, run1, wkL_len, isSh, abin, qw, kds_len, qk, p0s_len, qp, ods_len, qo, List.all, D.leaf, splice, opt1]) | (subst hK; with_reducible repeat' (first | refine thenQ_n ?_ | refine blockQ_n ?_ | refine thenQ_e ?_ | refine blockQ_t ?_ | refine blockQ_f (by decide) ?_)))))
  refine aw_region ?_
  simp (disch := first | exact okY | omega) only [ZU, dB, Nat.reduceAdd, Nat.reduceMul, AOpRun, aexec, Nat.reduceBEq, ↓eget_h, isSh, ↓reduceIte, abin, qE]
  refine aw_condF rfl (aw_skip ?_)
  refine aw_wk (s' := ⟨[(3, .ptr 8 0), (6, .list (wkL (flW m s)))], [(8, [.list (kds r.ks), .list (p0s r.ps), dI r.ms, .list (ods r.os), .list (wkL W), .list (cds cs), dI h, dI m, dI o])], 2000⟩) ?_ ?_
  · unfold dI
    refine wk_q [] [(8, 8)] ?_ ?_ <;> repeat' (first | exact trivial | exact vr_val _ | exact vr_list _ | exact vr_ptr _ _ _ rfl | refine And.intro ⟨_, rfl, .inl ⟨_, rfl, by decide, ?_⟩⟩ ?_ | apply And.intro)
  refine aw_seq (aw_region ?_)
  simp (disch := first | exact okY | omega) only [ZU, Nat.reduceAdd, Nat.reduceMul, dI, AOpRun, aexec, Nat.reduceBEq, ↓reduceIte, fillD, ↓eget_h, run1, base, ↓hget_h, Nat.zero_le, List.take, elems, wkL_all, wkL_len, wkL_flat, wkF_leaf, and_true, ups]
  refine ago_if (by omega) ?_
  simp (disch := first | exact okY | omega) only [ZU, Nat.reduceAdd, Nat.reduceBEq, hdel_c, hdel_n, AOpRun, aexec, ↓eget_h, base, ↓hget_h, hle, ↓reduceIte, wkF_take, elems, wkL_all, wkL_len, hlen, wkL_flat, Nat.reduceMul, wkF_leaf, and_true, ups, ap]
  refine ago_if (by omega) ?_
  simp (disch := first | exact okY | omega) only [ZU, Nat.reduceAdd, Nat.reduceBEq, hdel_c, hdel_n, AOpRun, aexec, ↓eget_h]
  refine aw_wk (s' := ⟨[(3, .ptr 8 0), (6, .list (wkL (flW m s))), (8, .list (wkL (W ++ flW m s)))], [(8, [.list (kds r.ks), .list (p0s r.ps), dI r.ms, .list (ods r.os), .list (wkL W), .list (cds cs), dI h, dI m, dI o])], 2200⟩) ?_ ?_
  · unfold dI
    refine wk_q [2040] [(8, 8)] ?_ ?_ <;> repeat' (first | exact trivial | exact vr_val _ | exact vr_list _ | exact vr_ptr _ _ _ rfl | refine vr_fl _ _ _ _ _ (by decide) rfl ?_ ?_ ?_ ?_ | refine And.intro ⟨_, rfl, .inl ⟨_, rfl, by decide, ?_⟩⟩ ?_ | apply And.intro)
    all_goals first | exact wkL_four _ | (rw [wkL_len, hAl]) | (rw [← hAl, wkF_take]; exact wkL_flat _) | exact wkL_flat _ | exact wkF_in _
  refine aw_seq (aw_region ?_)
  simp (disch := first | exact okY | omega) only [ZU, Nat.reduceAdd, Nat.reduceMul, dI, AOpRun, aexec, ↓eget_h, Nat.reduceBEq, Nat.reduceLeDiff, ↓reduceIte, List.drop, List.take]
  refine acall0 k1 ?_
  simp (disch := first | exact okY | omega) only [ZU, Nat.reduceAdd, dI, Nat.reduceBEq, AOpRun, aexec, ↓eget_h, opt1]
  generalize hEA : oE r (W ++ flW m s) = eA at *
  generalize hEW : oE r W = eW at *
  refine aw_wk (s' := ⟨[(3, .ptr 8 0), (6, .list (wkL (flW m s))), (8, .list (wkL (W ++ flW m s))), (10, dI eA)], [(8, [.list (kds r.ks), .list (p0s r.ps), dI r.ms, .list (ods r.os), .list (wkL W), .list (cds cs), dI h, dI m, dI o])], 3000⟩) ?_ ?_
  · unfold dI
    refine wk_q [] [(8, 8)] ?_ ?_ <;> repeat' (first | exact trivial | exact vr_val _ | exact vr_list _ | exact vr_ptr _ _ _ rfl | refine And.intro ⟨_, rfl, .inl ⟨_, rfl, by decide, ?_⟩⟩ ?_ | apply And.intro)
  refine aw_seq (aw_region_cutD [⟨some 94, .fad 0 (.tmp 3), none, []⟩,
     ⟨some 95, .loadN 4 (.tmp 94), none, [0]⟩,
     ⟨some 96, .buildSl 4 0 [] [], none, []⟩,
     ⟨some 97, .fad 4 (.tmp 3), none, []⟩,
     ⟨some 98, .load1 (.tmp 97), none, [3]⟩,
     ⟨some 99, .app 4 32 (.tmp 96) (.tmp 98), none, [2, 4, 3]⟩] ⟨some 100, .call (.func 11) [(.tmp 95), (.tmp 99)], none, [1, 0, 5, 2, 4, 3]⟩
     [⟨some 93, .mv (.tmp 100), none, [6, 1, 0, 5, 2, 4, 3]⟩,
     ⟨some 101, .ext (.tmp 93) 0, none, [7, 6, 1, 0, 5, 2, 4, 3]⟩,
     ⟨some 102, .ext (.tmp 93) 1, none, [7, 6, 1, 0, 5, 2, 4, 3]⟩,
     ⟨some 11, .mv (.tmp 101), none, [8, 7, 6, 1, 0, 5, 2, 4, 3]⟩,
     ⟨some 12, .mv (.tmp 102), none, [9, 7, 6, 1, 0, 5, 2, 4, 3, 10, 8]⟩] (by decide) (by decide) ?_)
  simp (disch := first | exact okY | omega) only [ZU, Nat.reduceAdd, Nat.reduceMul, AOpRun, dI, aexec, ↓eget_h, Nat.reduceBEq, Nat.reduceLeDiff, ↓reduceIte, List.drop, List.take, fillD, run1, base, ↓hget_h, Nat.zero_le, elems, wkL_all, wkL_len, wkL_flat, wkF_leaf, and_true, ups]
  refine ago_if (by omega) ?_
  simp (disch := first | exact okY | omega) only [ZU, Nat.reduceAdd, Nat.reduceBEq, hdel_c, hdel_n]
  refine ⟨⟨[(3, .ptr 8 0), (6, .list (wkL (flW m s))), (8, .list (wkL (W ++ flW m s))), (10, dI eA), (95, .agg [.list (kds r.ks), .list (p0s r.ps), dI r.ms, .list (ods r.os)]), (99, .list (wkL W))], [(8, [.list (kds r.ks), .list (p0s r.ps), dI r.ms, .list (ods r.os), .list (wkL W), .list (cds cs), dI h, dI m, dI o])], 3200⟩, ?_, (show 48 ≤ 3200 by decide), ?_⟩
  · unfold dI
    refine wk_q [3040] [(8, 8)] ?_ ?_ <;> repeat' (first | exact trivial | exact vr_val _ | exact vr_list _ | exact vr_ptr _ _ _ rfl | apply vr_agg | refine vr_fl _ _ _ _ _ (by decide) rfl ?_ ?_ ?_ ?_ | refine And.intro ⟨_, rfl, .inl ⟨_, rfl, by decide, ?_⟩⟩ ?_ | apply And.intro)
    all_goals first | exact wkL_four _ | exact wkL_len _ | (rw [wkF_take]; exact wkL_flat _) | exact wkL_flat _ | exact wkF_in _
  simp (disch := first | exact okY | omega) only [ZU, Nat.reduceSub, Nat.reduceAdd, dI, Nat.reduceBEq, ↓eget_h]
  refine acall0 k2 ?_
  simp (disch := first | exact okY | omega) only [ZU, Nat.reduceAdd, dI, Nat.reduceBEq, AOpRun, aexec, ↓eget_h, opt1]
  refine aw_wk (s' := ⟨[(3, .ptr 8 0), (6, .list (wkL (flW m s))), (8, .list (wkL (W ++ flW m s))), (10, dI eA), (11, .list (sps (evL (fun p => (p.h, p.c)) r W))), (12, dI eW)], [(8, [.list (kds r.ks), .list (p0s r.ps), dI r.ms, .list (ods r.os), .list (wkL W), .list (cds cs), dI h, dI m, dI o])], 4000⟩) ?_ ?_
  · unfold dI
    refine wk_q [] [(8, 8)] ?_ ?_ <;> repeat' (first | exact trivial | exact vr_val _ | exact vr_list _ | exact vr_ptr _ _ _ rfl | refine And.intro ⟨_, rfl, .inl ⟨_, rfl, by decide, ?_⟩⟩ ?_ | apply And.intro)
  refine aw_seq (aw_region_cutD [⟨some 104, .fad 0 (.tmp 3), none, []⟩,
     ⟨some 105, .loadN 4 (.tmp 104), none, [0]⟩,
     ⟨some 106, .buildSl 4 0 [] [], none, []⟩,
     ⟨some 107, .fad 4 (.tmp 3), none, []⟩,
     ⟨some 108, .load1 (.tmp 107), none, [3]⟩,
     ⟨some 109, .app 4 32 (.tmp 106) (.tmp 108), none, [2, 4, 3]⟩] ⟨some 110, .call (.func 12) [(.tmp 105), (.tmp 109)], none, [1, 0, 5, 2, 4, 3]⟩
     [⟨some 103, .mv (.tmp 110), none, [6, 1, 0, 5, 2, 4, 3]⟩,
     ⟨some 111, .ext (.tmp 103) 0, none, [7, 6, 1, 0, 5, 2, 4, 3]⟩,
     ⟨some 112, .ext (.tmp 103) 1, none, [7, 6, 1, 0, 5, 2, 4, 3]⟩,
     ⟨some 13, .mv (.tmp 111), none, [8, 7, 6, 1, 0, 5, 2, 4, 3]⟩,
     ⟨some 14, .mv (.tmp 112), none, [9, 7, 6, 1, 0, 5, 2, 4, 3, 10, 8]⟩] (by decide) (by decide) ?_)
  simp (disch := first | exact okY | omega) only [ZU, Nat.reduceAdd, Nat.reduceMul, AOpRun, dI, aexec, ↓eget_h, Nat.reduceBEq, Nat.reduceLeDiff, ↓reduceIte, List.drop, List.take, fillD, run1, base, ↓hget_h, Nat.zero_le, elems, wkL_all, wkL_len, wkL_flat, wkF_leaf, and_true, ups]
  refine ago_if (by omega) ?_
  simp (disch := first | exact okY | omega) only [ZU, Nat.reduceAdd, Nat.reduceBEq, hdel_c, hdel_n]
  refine ⟨⟨[(3, .ptr 8 0), (6, .list (wkL (flW m s))), (8, .list (wkL (W ++ flW m s))), (10, dI eA), (11, .list (sps (evL (fun p => (p.h, p.c)) r W))), (12, dI eW), (105, .agg [.list (kds r.ks), .list (p0s r.ps), dI r.ms, .list (ods r.os)]), (109, .list (wkL W))], [(8, [.list (kds r.ks), .list (p0s r.ps), dI r.ms, .list (ods r.os), .list (wkL W), .list (cds cs), dI h, dI m, dI o])], 4200⟩, ?_, (show 48 ≤ 4200 by decide), ?_⟩
  · unfold dI
    refine wk_q [4040] [(8, 8)] ?_ ?_ <;> repeat' (first | exact trivial | exact vr_val _ | exact vr_list _ | exact vr_ptr _ _ _ rfl | apply vr_agg | refine vr_fl _ _ _ _ _ (by decide) rfl ?_ ?_ ?_ ?_ | refine And.intro ⟨_, rfl, .inl ⟨_, rfl, by decide, ?_⟩⟩ ?_ | apply And.intro)
    all_goals first | exact wkL_four _ | exact wkL_len _ | (rw [wkF_take]; exact wkL_flat _) | exact wkL_flat _ | exact wkF_in _
  simp (disch := first | exact okY | omega) only [ZU, Nat.reduceSub, Nat.reduceAdd, dI, Nat.reduceBEq, ↓eget_h]
  refine acall0 k3 ?_
  simp (disch := first | exact okY | omega) only [ZU, Nat.reduceAdd, dI, Nat.reduceBEq, AOpRun, aexec, ↓eget_h, opt1]
  cases qA : (eA != 0)
  case true =>
    (repeat' (first | (with_reducible first | refine thenQ_n ?_ | refine blockQ_n ?_ | refine thenQ_e ?_ | refine blockQ_t ?_ | refine blockQ_f (by decide) ?_) | apply aw_seq | apply aw_skip | apply aw_exit | apply aw_ret | apply aw_block | apply aw_condT rfl | apply aw_condF rfl | ((first | refine aw_hide fun K hK => aw_region ?_ | refine acall0 (works_ac) ?_ | refine ago_if (by omega) ?_ | skip); simp (disch := first | exact okY | omega) only [ZU, Nat.reduceAdd, Nat.reduceMul, AOpRun, aexec, Nat.reduceBEq, ↓eget_h, isSh, ↓reduceIte, abin, qA, ARun_some, AG_tf, dB]) | subst hK))
    all_goals (refine end_q [] [] ?_ ?_ <;> repeat' (first | exact trivial | exact vr_val _))
  cases qW : (eW != 0)
  case true =>
    (repeat' (first | (with_reducible first | refine thenQ_n ?_ | refine blockQ_n ?_ | refine thenQ_e ?_ | refine blockQ_t ?_ | refine blockQ_f (by decide) ?_) | apply aw_seq | apply aw_skip | apply aw_exit | apply aw_ret | apply aw_block | apply aw_condT rfl | apply aw_condF rfl | ((first | refine aw_hide fun K hK => aw_region ?_ | refine acall0 (works_ac) ?_ | refine ago_if (by omega) ?_ | skip); simp (disch := first | exact okY | omega) only [ZU, Nat.reduceAdd, Nat.reduceMul, AOpRun, aexec, Nat.reduceBEq, ↓eget_h, isSh, ↓reduceIte, abin, qA, ARun_some, AG_ff, qW, AG_tf, dB]) | subst hK))
    all_goals (refine end_q [] [] ?_ ?_ <;> repeat' (first | exact trivial | exact vr_val _))
  obtain rfl : eA = 0 := by simpa using qA
  obtain rfl : eW = 0 := by simpa using qW
  obtain ⟨v1, v2, v3⟩ := oE_ok hEA
  have gg := gather r (valid_ok v1) W m s hEA hEW v3
  have l1 := evL_len (fun p => (p.h, p.c)) hEW
  have l2 := evL_len (fun p => (p.m, p.pl)) hEW
  have l3 := evL_len (fun p => (p.h, p.c)) hEA
  generalize evL (fun p => (p.h, p.c)) r W = L1 at *
  generalize evL (fun p => (p.m, p.pl)) r W = L2 at *
  generalize evL (fun p => (p.h, p.c)) r (W ++ flW m s) = L3 at *
  clear hEA hEW v1 v2 v3 k1 k2 k3 c1 co ow fa fe
  have n40 : r.ps.length ≤ 40 := by have := of_decide_eq_false qp; omega
  generalize hnp : r.ps.length = np at *
  (repeat' (first | (with_reducible first | refine thenQ_n ?_ | refine blockQ_n ?_ | refine thenQ_e ?_ | refine blockQ_t ?_ | refine blockQ_f (by decide) ?_) | apply aw_seq | apply aw_skip | apply aw_exit | apply aw_ret | apply aw_block | apply aw_condT rfl | apply aw_condF rfl | ((first | refine aw_hide fun K hK => aw_region ?_ | refine acall0 (k4) ?_ | refine ago_if (by omega) ?_ | skip); simp (disch := first | exact okY | omega) only [ZU, Nat.reduceAdd, Nat.reduceMul, AOpRun, aexec, Nat.reduceBEq, ↓eget_h, isSh, ↓reduceIte, abin, bne_self_eq_false, ARun_some, AG_ff, Nat.reduceLeDiff, List.drop, List.take, dI, opt1, sps_len, l1, run1, p0s_len, hnp, l3, l2]) | subst hK))
  clear k4
  refine aw_loop (fun k : Nat => ⟨[(3, .ptr 8 0), (6, .list (wkL (flW m s))), (11, .list (sps L1)), (13, .list (sps L2)), (15, .list (sps L3)), (17, dI (hsum s k)), (18, dI k)], [(8, [.list (kds r.ks), .list (p0s r.ps), dI r.ms, .list (ods r.os), .list (wkL W), .list (cds cs), dI h, dI m, dI o])], 6000⟩) (fun k => k ≤ s.length) (fun k => s.length - k) ⟨0, by omega, ?_⟩ ?_
  · unfold dI
    refine wk_q [] [(8, 8)] ?_ ?_ <;> repeat' (first | exact trivial | exact vr_val _ | exact vr_list _ | exact vr_ptr _ _ _ rfl | refine And.intro ⟨_, rfl, .inl ⟨_, rfl, by decide, ?_⟩⟩ ?_ | apply And.intro)
  intro k hk
  by_cases hk2 : k < s.length
  case pos =>
    have g1 := wkL_flW_nth m s k hk2
    have ga := wkL_all (flW m s)
    have ki : (k : Int) < (s.length : Int) := by omega
    have es : hsum s (k + 1) = IntKind.i64.wrap (hsum s k + s[k]?.getD 0) := rfl
    unfold dI at g1
    generalize s[k]?.getD 0 = x at *
    generalize hT : hsum s (k + 1) = T at *
    generalize hsum s k = H at *
    (repeat' (first | (with_reducible first | refine thenQ_n ?_ | refine blockQ_n ?_ | refine thenQ_e ?_ | refine blockQ_t ?_ | refine blockQ_f (by decide) ?_) | apply aw_seq | apply aw_skip | apply aw_exit | apply aw_ret | apply aw_block | apply aw_condT rfl | apply aw_condF rfl | ((first | refine aw_hide fun K hK => aw_region ?_ | refine ago_if (by omega) ?_ | skip); simp (disch := first | exact okY | omega) only [ZU, Nat.reduceAdd, Nat.reduceMul, dI, AOpRun, aexec, Nat.reduceBEq, ↓eget_h, wkL_len, hlen, isSh, ↓reduceIte, abin, ki, ga, opt1, g1, List.drop, run1, bne_self_eq_false, ARun_some, AG_ff, ← es, fits]) | subst hK))
    refine ⟨k + 1, by omega, by omega, ?_⟩
    rw [hT]
    refine wk_q [] [(8, 8)] ?_ ?_ <;> repeat' (first | exact trivial | exact vr_val _ | exact vr_list _ | exact vr_ptr _ _ _ rfl | refine And.intro ⟨_, rfl, .inl ⟨_, rfl, by decide, ?_⟩⟩ ?_ | apply And.intro)
  obtain rfl : k = s.length := by omega
  generalize hH : hsum s s.length = H at *
  (repeat' (first | (with_reducible first | refine thenQ_n ?_ | refine blockQ_n ?_ | refine thenQ_e ?_ | refine blockQ_t ?_ | refine blockQ_f (by decide) ?_) | apply aw_seq | apply aw_skip | apply aw_exit | apply aw_ret | apply aw_block | apply aw_condT rfl | apply aw_condF rfl | ((first | refine aw_hide fun K hK => aw_region ?_ | refine ago_if (by omega) ?_ | skip); simp (disch := first | exact okY | omega) only [ZU, Nat.reduceAdd, Nat.reduceMul, dI, AOpRun, aexec, Nat.reduceBEq, ↓eget_h, wkL_len, hlen, isSh, ↓reduceIte, abin, Int.lt_irrefl, decide_false]) | subst hK))
  clear hk hk2
  refine aw_loop (fun i : Nat => ⟨[(3, .ptr 8 0), (6, .list (wkL (flW m s))), (11, .list (sps L1)), (13, .list (sps L2)), (15, .list (sps L3)), (17, dI H), (19, dI i)], [(8, [.list (kds r.ks), .list (p0s r.ps), dI r.ms, .list (ods r.os), .list (wkL W), .list (cds cs), dI h, dI m, dI o])], 8000⟩) (fun i => i ≤ np) (fun i => np - i) ⟨0, by omega, ?_⟩ ?_
  · unfold dI
    refine wk_q [] [(8, 8)] ?_ ?_ <;> repeat' (first | exact trivial | exact vr_val _ | exact vr_list _ | exact vr_ptr _ _ _ rfl | refine And.intro ⟨_, rfl, .inl ⟨_, rfl, by decide, ?_⟩⟩ ?_ | apply And.intro)
  intro i hi
  by_cases hi2 : i < np
  case neg =>
    obtain rfl : i = np := by omega
    (repeat' (first | (with_reducible first | refine thenQ_n ?_ | refine blockQ_n ?_ | refine thenQ_e ?_ | refine blockQ_t ?_ | refine blockQ_f (by decide) ?_) | apply aw_seq | apply aw_skip | apply aw_exit | apply aw_ret | apply aw_block | apply aw_condT rfl | apply aw_condF rfl | ((first | refine aw_hide fun K hK => aw_region ?_ | refine acall0 (works_ac) ?_ | refine ago_if (by omega) ?_ | skip); simp (disch := first | exact okY | omega) only [ZU, Nat.reduceAdd, Nat.reduceMul, dI, AOpRun, aexec, Nat.reduceBEq, ↓eget_h, sps_len, l1, isSh, ↓reduceIte, abin, Int.lt_irrefl, decide_false, dB]) | subst hK))
    all_goals (refine end_q [] [] ?_ ?_ <;> repeat' (first | exact trivial | exact vr_val _))
  obtain ⟨p, qq, hF, g1, g2, g3⟩ := gg i hi2
  have s1 := sps_all L1
  have s2 := sps_all L2
  have s3 := sps_all L3
  have ii : (i : Int) < (np : Int) := by omega
  have bn1 : (true != true) = false := rfl
  have hq1 := hF.h
  have hq2 := hF.c
  rw [hH] at hq1
  clear hF gg
  generalize p.h = ph at *
  generalize p.c = pc at *
  generalize p.m = pm at *
  generalize p.pl = pp at *
  generalize qq.h = qh at *
  generalize qq.c = qc at *
  unfold dI at g1 g2 g3
  cases hm : (pm == m)
  case false =>
    have hm' : ¬ pm = m := by simpa using hm
    rw [if_neg hm'] at hq1 hq2
    subst hq1; subst hq2
    (repeat' (first | (with_reducible first | refine thenQ_n ?_ | refine blockQ_n ?_ | refine thenQ_e ?_ | refine blockQ_t ?_ | refine blockQ_f (by decide) ?_) | apply aw_seq | apply aw_skip | apply aw_exit | apply aw_ret | apply aw_block | apply aw_condT rfl | apply aw_condF rfl | ((first | refine aw_hide fun K hK => aw_region ?_ | refine ago_if (by omega) ?_ | skip); simp (disch := first | exact okY | omega) only [ZU, Nat.reduceAdd, Nat.reduceMul, dI, AOpRun, aexec, Nat.reduceBEq, ↓eget_h, sps_len, l1, isSh, ↓reduceIte, abin, ii, s1, opt1, g1, Nat.reduceLeDiff, List.take, ↓hget_h, D.isBot, D.cells, List.all, D.leaf, splice, List.drop, s2, g2, Int.le_refl, cast_lit, Int.reduceLT, Int.toNat_zero, Nat.mul_one, run1, Nat.add_zero, hm, s3, g3, D.isAgg, isB, eqCells, scalarEq, bne_self_eq_false, fits]) | subst hK))
    refine ⟨i + 1, by omega, by omega, ?_⟩
    refine wk_q [] [(8, 8)] ?_ ?_ <;> repeat' (first | exact trivial | exact vr_val _ | exact vr_list _ | exact vr_ptr _ _ _ rfl | refine And.intro ⟨_, rfl, .inl ⟨_, rfl, by decide, ?_⟩⟩ ?_ | apply And.intro)
  have hm' : pm = m := by simpa using hm
  rw [if_pos hm'] at hq1 hq2
  unfold w64 at hq1 hq2
  subst hq1; subst hq2
  (repeat' (first | (with_reducible first | refine thenQ_n ?_ | refine blockQ_n ?_ | refine thenQ_e ?_ | refine blockQ_t ?_ | refine blockQ_f (by decide) ?_) | apply aw_seq | apply aw_skip | apply aw_exit | apply aw_ret | apply aw_block | apply aw_condT rfl | apply aw_condF rfl | ((first | refine aw_hide fun K hK => aw_region ?_ | refine ago_if (by omega) ?_ | skip); simp (disch := first | exact okY | omega) only [ZU, Nat.reduceAdd, Nat.reduceMul, dI, AOpRun, aexec, Nat.reduceBEq, ↓eget_h, sps_len, l1, isSh, ↓reduceIte, abin, ii, s1, opt1, g1, Nat.reduceLeDiff, List.take, ↓hget_h, D.isBot, D.cells, List.all, D.leaf, splice, List.drop, s2, g2, Int.le_refl, cast_lit, Int.reduceLT, Int.toNat_zero, Nat.mul_one, run1, Nat.add_zero, hm, Int.reduceLE, Int.reduceToNat, wkL_len, hlen, s3, g3, D.isAgg, isB, eqCells, scalarEq, bne_self_eq_false, fits]) | subst hK))
  refine ⟨i + 1, by omega, by omega, ?_⟩
  refine wk_q [] [(8, 8)] ?_ ?_ <;> repeat' (first | exact trivial | exact vr_val _ | exact vr_list _ | exact vr_ptr _ _ _ rfl | refine And.intro ⟨_, rfl, .inl ⟨_, rfl, by decide, ?_⟩⟩ ?_ | apply And.intro)
end Go.Proofs.YtdcodicoclecnaaDoor
/- What the package variables hold, out of the row's condition. No conditions. -/
namespace Go.Proofs.YtdcodicoclecnaaDoor
open Go Go.RowKit Lift

section
variable {P : Program} {w : World} {b : Nat} {sp : Nat → Bool} {hd : Bool}
theorem int_trod {H : Type} {enc : TypeId × Value → H} {fuel : Nat} {e : TypeId} {l : List Value} {x : Int} {p : List MemPlace} (he : P.underlying e = some (.int .i64)) (h : DataW.trod enc P w b sp hd fuel e l = some (.lit (.int .i64 x), p)) : l = [.int .i64 x] := by
  cases fuel with
  | zero => simp [DataW.trod] at h
  | succ n =>
    unfold DataW.trod at h
    rw [he] at h
    rcases l with _ | ⟨v, _ | ⟨v2, r⟩⟩
    · simp at h
    · cases v <;> simp at h
      obtain ⟨⟨rfl, _⟩, h1, _⟩ := h
      subst h1; rfl
    · simp at h
theorem spot_trod {H : Type} {enc : TypeId × Value → H} {fuel : Nat} {t e : TypeId} {l : List Value} {x y : Int} {p : List MemPlace} (ht : P.underlying t = some (.array 2 e)) (he : P.underlying e = some (.int .i64)) (hc : P.cellsOf e = 1) (hct : P.cellsOf t = 2)
    (h : DataW.trod enc P w b sp hd fuel t l = some (.agg [.lit (.int .i64 x), .lit (.int .i64 y)], p)) : l = [.int .i64 x, .int .i64 y] := by
  cases fuel with
  | zero => simp [DataW.trod] at h
  | succ n =>
    unfold DataW.trod at h
    rw [ht] at h
    simp only [hct, hc] at h
    split at h
    · rename_i hl
      rcases l with _ | ⟨v, _ | ⟨v2, _ | ⟨v3, r⟩⟩⟩
      · simp at hl
      · simp at hl
      · have e2 : List.range 2 = [0, 1] := rfl
        rw [e2] at h
        simp only [List.mapM_cons, List.mapM_nil, Nat.zero_mul, Nat.one_mul, List.drop_zero, List.drop_succ_cons, List.take_succ_cons, List.take_zero, Option.pure_def, Option.bind_eq_bind] at h
        cases h1 : DataW.trod enc P w b sp hd n e [v] with
        | none => rw [h1] at h; simp at h
        | some a =>
          cases h2 : DataW.trod enc P w b sp hd n e [v2] with
          | none => rw [h1, h2] at h; simp at h
          | some c =>
            rw [h1, h2] at h
            simp at h
            obtain ⟨⟨q1, q2⟩, _⟩ := h
            obtain ⟨a1, a2⟩ := a
            obtain ⟨c1, c2⟩ := c
            simp only at q1 q2
            subst q1; subst q2
            rw [List.cons.inj (int_trod he h1) |>.1, List.cons.inj (int_trod he h2) |>.1]
      · simp at hl
    · cases h
end
theorem spot_cells {P : Program} {w : World} {n : String} {g : Nat} {t e : TypeId} {x y : Int} {r : List (String × DataW Unit)} {ps : List MemPlace} (hn : P.globalNamed n = some g) (ht0 : (P.globals[g]?).map (·.type) = some t) (ht : P.underlying t = some (.array 2 e)) (he : P.underlying e = some (.int .i64)) (hc : P.cellsOf e = 1) (hct : P.cellsOf t = 2)
    (h : DataW.LaidVars P w ((n, .agg [.lit (.int .i64 x), .lit (.int .i64 y)]) :: r) ps) : (w.cell? ⟨g, 0, none⟩ = some (.int .i64 x) ∧ w.cell? ⟨g, 1, none⟩ = some (.int .i64 y)) ∧ ∃ q, DataW.LaidVars P w r q := by
  obtain ⟨g', t', cs, fuel, p, q, h1, h2, h3, h4, h5, _⟩ := h
  obtain rfl := Option.some.inj (hn.symm.trans h1)
  obtain rfl := Option.some.inj (ht0.symm.trans h2)
  have hl := spot_trod ht he hc hct h4
  refine ⟨⟨?_, ?_⟩, q, h5⟩
  · rw [World.var?_cell hn h3 0]
    have : cs[0]? = cs.toList[0]? := by simp
    rw [this, hl]; rfl
  · rw [World.var?_cell hn h3 1]
    have : cs[1]? = cs.toList[1]? := by simp
    rw [this, hl]; rfl
theorem gl_of {w : World} (h0 : w.cell? ⟨0, 0, none⟩ = some (.int .i64 (-1)) ∧ w.cell? ⟨0, 1, none⟩ = some (.int .i64 (-1))) (h1 : w.cell? ⟨1, 0, none⟩ = some (.int .i64 (-2)) ∧ w.cell? ⟨1, 1, none⟩ = some (.int .i64 (-2))) : ∀ g, Rep w (fun _ => none) (fun _ => False) (.pointer (some ⟨g, 0, none⟩)) (GL g) := by
  have lt : ∀ {b : Nat} {v : Value}, w.cell? ⟨b, 0, none⟩ = some v → b < w.heap.size := fun {b v} h => by
    rcases Nat.lt_or_ge b w.heap.size with h2 | h2
    · exact h2
    · simp [World.cell?, Array.getElem?_eq_none h2] at h
  intro g
  match g with
  | 0 =>
    refine .at_ 0 0 _ (fun _ => .int .i64 (-1)) (fun h => h) (lt h0.1) (fun j hj => ?_) (fun j hj => ?_)
    · simp at hj
      rcases (by omega : j = 0 ∨ j = 1) with rfl | rfl
      · exact h0.1
      · exact h0.2
    · simp at hj
      rcases (by omega : j = 0 ∨ j = 1) with rfl | rfl <;> exact .val _
  | 1 =>
    refine .at_ 1 0 _ (fun _ => .int .i64 (-2)) (fun h => h) (lt h1.1) (fun j hj => ?_) (fun j hj => ?_)
    · simp at hj
      rcases (by omega : j = 0 ∨ j = 1) with rfl | rfl
      · exact h1.1
      · exact h1.2
    · simp at hj
      rcases (by omega : j = 0 ∨ j = 1) with rfl | rfl <;> exact .val _
  | g + 2 => exact .val _
end Go.Proofs.YtdcodicoclecnaaDoor
/- Arguments that came in: what their cells are. No conditions. -/
namespace Go.Proofs.YtdcodicoclecnaaDoor
open Go.RowKit Lift

theorem in_ints {l : List (List D)} (h : ∀ x ∈ l, CfL [.int] x) : ∃ xs, l = ints xs ∧ ∀ x ∈ xs, -9223372036854775808 ≤ x ∧ x ≤ 9223372036854775807 := by
  induction l with
  | nil => exact ⟨[], rfl, by simp⟩
  | cons x l ih =>
    obtain ⟨xs, rfl, hx⟩ := ih fun y hy => h y (List.mem_cons_of_mem _ hy)
    have h0 := h x (List.mem_cons_self ..)
    cases h0 with
    | int n ss ds h1 h2 h3 =>
      cases h3
      exact ⟨n :: xs, rfl, fun y hy => by
        rcases List.mem_cons.1 hy with rfl | hy
        · exact ⟨h1, h2⟩
        · exact hx y hy⟩
theorem in_rows {l : List (List D)} (h : ∀ x ∈ l, CfL [.sl [.int]] x) : ∃ vs, l = rows vs ∧ ∀ r ∈ vs, r.length ≤ maxLen := by
  induction l with
  | nil => exact ⟨[], rfl, by simp⟩
  | cons x l ih =>
    obtain ⟨vs, rfl, hx⟩ := ih fun y hy => h y (List.mem_cons_of_mem _ hy)
    have h0 := h x (List.mem_cons_self ..)
    cases h0 with
    | sl e k ss ds h1 h2 h3 =>
      cases h3
      obtain ⟨xs, rfl, _⟩ := in_ints h2
      exact ⟨xs :: vs, rfl, fun y hy => by
        rcases List.mem_cons.1 hy with rfl | hy
        · simpa [ints] using h1
        · exact hx y hy⟩
end Go.Proofs.YtdcodicoclecnaaDoor
/- Arguments that came in: layouts, frames, cases. No conditions. -/
namespace Go.Proofs.YtdcodicoclecnaaDoor
open Go.RowKit Lift

theorem inc_int {ss : List Sh} {ds : List D} (h : CfL (.int :: ss) ds) : ∃ (a : Int) (r : List D), ds = dI a :: r ∧ CfL ss r ∧ -9223372036854775808 ≤ a ∧ a ≤ 9223372036854775807 := by
  cases h with
  | int a ss ds h1 h2 h3 => exact ⟨a, ds, rfl, h3, h1, h2⟩
theorem inc_bool {ss : List Sh} {ds : List D} (h : CfL (.bool :: ss) ds) : ∃ (a : Bool) (r : List D), ds = dB a :: r ∧ CfL ss r := by
  cases h with
  | bool a ss ds h3 => exact ⟨a, ds, rfl, h3⟩
theorem inc_sl {e ss : List Sh} {ds : List D} (h : CfL (.sl e :: ss) ds) : ∃ (l : List (List D)) (r : List D), ds = .list l :: r ∧ CfL ss r ∧ l.length ≤ maxLen ∧ ∀ x ∈ l, CfL e x := by
  cases h with
  | sl e l ss ds h1 h2 h3 => exact ⟨l, ds, rfl, h3, h1, h2⟩
theorem inc_nil {ds : List D} (h : CfL [] ds) : ds = [] := by cases h; rfl
theorem in_fls {l : List (List D)} (h : ∀ x ∈ l, CfL [.int, .int, .int, .bool, .int, .int, .int, .int, .int] x) : ∃ fs : List Fl, l = fls fs ∧ ∀ f ∈ fs, f.size ≤ 9223372036854775807 := by
  induction l with
  | nil => exact ⟨[], rfl, by simp⟩
  | cons x l ih =>
    obtain ⟨fs, rfl, hx⟩ := ih fun y hy => h y (List.mem_cons_of_mem _ hy)
    obtain ⟨a1, _, rfl, e1, _, _⟩ := inc_int (h x (List.mem_cons_self ..))
    obtain ⟨a2, _, rfl, e2, _, _⟩ := inc_int e1
    obtain ⟨a3, _, rfl, e3, _, b3⟩ := inc_int e2
    obtain ⟨a4, _, rfl, e4⟩ := inc_bool e3
    obtain ⟨a5, _, rfl, e5, _, _⟩ := inc_int e4
    obtain ⟨a6, _, rfl, e6, _, _⟩ := inc_int e5
    obtain ⟨a7, _, rfl, e7, _, _⟩ := inc_int e6
    obtain ⟨a8, _, rfl, e8, _, _⟩ := inc_int e7
    obtain ⟨a9, _, rfl, e9, _, _⟩ := inc_int e8
    obtain rfl := inc_nil e9
    exact ⟨⟨a1, a2, a3, a4, a5, a6, a7, a8, a9⟩ :: fs, rfl, fun y hy => by
      rcases List.mem_cons.1 hy with rfl | hy
      · exact b3
      · exact hx y hy⟩
theorem in_lay {ss : List Sh} {ds : List D} (h : CfL (.int :: .int :: .int :: .int :: .int :: .sl [.int, .int, .int, .bool, .int, .int, .int, .int, .int] :: ss) ds) : ∃ (l : Lay) (r : List D), ds = dI l.words :: dI l.s0 :: dI l.s1 :: dI l.s2 :: dI l.s3 :: .list (fls l.fl) :: r ∧ CfL ss r ∧ LayIn l := by
  obtain ⟨w, _, rfl, e1, _, _⟩ := inc_int h
  obtain ⟨s0, _, rfl, e2, _, _⟩ := inc_int e1
  obtain ⟨s1, _, rfl, e3, _, _⟩ := inc_int e2
  obtain ⟨s2, _, rfl, e4, _, _⟩ := inc_int e3
  obtain ⟨s3, _, rfl, e5, _, _⟩ := inc_int e4
  obtain ⟨l, r, rfl, e6, h1, h2⟩ := inc_sl e5
  obtain ⟨fs, rfl, h3⟩ := in_fls h2
  refine ⟨⟨w, s0, s1, s2, s3, fs⟩, r, rfl, e6, ⟨by simpa [fls] using h1, fun k hk => ?_⟩⟩
  have hk' : k < fs.length := hk
  show (fs[k]?.getD fl0).size ≤ _
  rw [List.getElem?_eq_getElem hk']
  exact h3 _ (List.getElem_mem hk')
theorem in_frames {ss : List Sh} {ds : List D} (h : CfL (.sl [.sl [.int]] :: ss) ds) : ∃ (frs : List (List Int)) (r : List D), ds = .list (rows frs) :: r ∧ CfL ss r ∧ FrIn frs := by
  obtain ⟨l, r, rfl, e1, h1, h2⟩ := inc_sl h
  obtain ⟨frs, rfl, h3⟩ := in_rows h2
  refine ⟨frs, r, rfl, e1, ⟨by simpa [rows] using h1, fun k => ?_⟩⟩
  unfold frm
  by_cases hk : k < frs.length
  · rw [List.getElem?_eq_getElem hk]; exact h3 _ (List.getElem_mem hk)
  · rw [List.getElem?_eq_none (by omega)]; simp
theorem in_tape {ds : List D} (h : CfL [.int, .int, .int, .int, .int, .sl [.int, .int, .int, .bool, .int, .int, .int, .int, .int], .sl [.sl [.int]]] ds) : ∃ (l : Lay) (frs : List (List Int)), ds = [dI l.words, dI l.s0, dI l.s1, dI l.s2, dI l.s3, .list (fls l.fl), .list (rows frs)] ∧ LayIn l ∧ FrIn frs := by
  obtain ⟨l, _, rfl, e1, hl⟩ := in_lay h
  obtain ⟨frs, _, rfl, e2, hf⟩ := in_frames e1
  obtain rfl := inc_nil e2
  exact ⟨l, frs, rfl, hl, hf⟩
end Go.Proofs.YtdcodicoclecnaaDoor
/- Arguments that came in: registers and works. No conditions. -/
namespace Go.Proofs.YtdcodicoclecnaaDoor
open Go.RowKit Lift

theorem in_map {α : Type} (f : α → List D) (ss : List Sh) (hf : ∀ x, CfL ss x → ∃ a, x = f a) {l : List (List D)} (h : ∀ x ∈ l, CfL ss x) : ∃ k : List α, l = k.map f := by
  induction l with
  | nil => exact ⟨[], rfl⟩
  | cons x l ih =>
    obtain ⟨k, rfl⟩ := ih fun y hy => h y (List.mem_cons_of_mem _ hy)
    obtain ⟨a, rfl⟩ := hf x (h x (List.mem_cons_self ..))
    exact ⟨a :: k, rfl⟩
theorem in_kd {x : List D} (h : CfL [.int, .int, .int] x) : ∃ a, x = kdC a := by
  obtain ⟨a1, _, rfl, e1, _, _⟩ := inc_int h
  obtain ⟨a2, _, rfl, e2, _, _⟩ := inc_int e1
  obtain ⟨a3, _, rfl, e3, _, _⟩ := inc_int e2
  obtain rfl := inc_nil e3
  exact ⟨⟨a1, a2, a3⟩, rfl⟩
theorem in_p0 {x : List D} (h : CfL [.int, .int, .int, .bool] x) : ∃ a, x = p0C a := by
  obtain ⟨a1, _, rfl, e1, _, _⟩ := inc_int h
  obtain ⟨a2, _, rfl, e2, _, _⟩ := inc_int e1
  obtain ⟨a3, _, rfl, e3, _, _⟩ := inc_int e2
  obtain ⟨a4, _, rfl, e4⟩ := inc_bool e3
  obtain rfl := inc_nil e4
  exact ⟨⟨a1, a2, a3, a4⟩, rfl⟩
theorem in_od {x : List D} (h : CfL [.int, .int] x) : ∃ a, x = odC a := by
  obtain ⟨a1, _, rfl, e1, _, _⟩ := inc_int h
  obtain ⟨a2, _, rfl, e2, _, _⟩ := inc_int e1
  obtain rfl := inc_nil e2
  exact ⟨(a1, a2), rfl⟩
theorem in_w4 {x : List D} (h : CfL [.int, .int, .int, .int] x) : ∃ a, x = w4C a := by
  obtain ⟨a1, _, rfl, e1, _, _⟩ := inc_int h
  obtain ⟨a2, _, rfl, e2, _, _⟩ := inc_int e1
  obtain ⟨a3, _, rfl, e3, _, _⟩ := inc_int e2
  obtain ⟨a4, _, rfl, e4, _, _⟩ := inc_int e3
  obtain rfl := inc_nil e4
  exact ⟨⟨a1, a2, a3, a4⟩, rfl⟩
theorem in_reg {ss : List Sh} {ds : List D} (h : CfL (.sl [.int, .int, .int] :: .sl [.int, .int, .int, .bool] :: .int :: .sl [.int, .int] :: .sl [.int, .int, .int, .int] :: ss) ds) : ∃ (r : Reg) (W : List W4) (t : List D), ds = .list (kds r.ks) :: .list (p0s r.ps) :: dI r.ms :: .list (ods r.os) :: .list (wkL W) :: t ∧ CfL ss t := by
  obtain ⟨l1, _, rfl, e1, _, h1⟩ := inc_sl h
  obtain ⟨l2, _, rfl, e2, _, h2⟩ := inc_sl e1
  obtain ⟨ms, _, rfl, e3, _, _⟩ := inc_int e2
  obtain ⟨l4, _, rfl, e4, _, h4⟩ := inc_sl e3
  obtain ⟨l5, t, rfl, e5, _, h5⟩ := inc_sl e4
  obtain ⟨ks, rfl⟩ := in_map kdC _ (fun x => in_kd) h1
  obtain ⟨ps, rfl⟩ := in_map p0C _ (fun x => in_p0) h2
  obtain ⟨os, rfl⟩ := in_map odC _ (fun x => in_od) h4
  obtain ⟨W, rfl⟩ := in_map w4C _ (fun x => in_w4) h5
  exact ⟨⟨ks, ps, ms, os⟩, W, t, rfl, e5⟩
end Go.Proofs.YtdcodicoclecnaaDoor
/- Arguments that came in: events. No conditions. -/
namespace Go.Proofs.YtdcodicoclecnaaDoor
open Go.RowKit Lift

theorem in_cds {l : List (List D)} (h : ∀ x ∈ l, CfL [.int, .int, .bool] x) : ∃ cs : List Cd, l = cds cs := by
  induction l with
  | nil => exact ⟨[], rfl⟩
  | cons x l ih =>
    obtain ⟨cs, rfl⟩ := ih fun y hy => h y (List.mem_cons_of_mem _ hy)
    obtain ⟨a1, _, rfl, e1, _, _⟩ := inc_int (h x (List.mem_cons_self ..))
    obtain ⟨a2, _, rfl, e2, _, _⟩ := inc_int e1
    obtain ⟨a3, _, rfl, e3⟩ := inc_bool e2
    obtain rfl := inc_nil e3
    exact ⟨⟨a1, a2, a3⟩ :: cs, rfl⟩
theorem in_evt {ss : List Sh} {ds : List D} (h : CfL (.sl [.int, .int, .bool] :: .int :: ss) ds) : ∃ (cs : List Cd) (n : Int) (r : List D), ds = .list (cds cs) :: dI n :: r ∧ CfL ss r ∧ cs.length ≤ maxLen := by
  obtain ⟨l, _, rfl, e1, h1, h2⟩ := inc_sl h
  obtain ⟨cs, rfl⟩ := in_cds h2
  obtain ⟨n, r, rfl, e2, _, _⟩ := inc_int e1
  exact ⟨cs, n, r, rfl, e2, by simpa [cds] using h1⟩
theorem in_flight {ds : List D} (h : CfL [.sl [.int, .int, .bool], .int, .int, .int] ds) : ∃ (cs : List Cd) (n m o : Int), ds = [.list (cds cs), dI n, dI m, dI o] ∧ cs.length ≤ maxLen ∧ (-9223372036854775808 ≤ m ∧ m ≤ 9223372036854775807) ∧ -9223372036854775808 ≤ o ∧ o ≤ 9223372036854775807 := by
  obtain ⟨cs, n, _, rfl, e, hn⟩ := in_evt h
  obtain ⟨m, _, rfl, e1, m1, m2⟩ := inc_int e
  obtain ⟨o, _, rfl, e2, o1, o2⟩ := inc_int e1
  obtain rfl := inc_nil e2
  exact ⟨cs, n, m, o, rfl, hn, ⟨m1, m2⟩, o1, o2⟩
end Go.Proofs.YtdcodicoclecnaaDoor
/- Arguments that came in: lives. No conditions. -/
namespace Go.Proofs.YtdcodicoclecnaaDoor
open Go.RowKit Lift

theorem in_lives {ds : List D} (h : CfL [.sl [.int, .int, .int], .sl [.int, .int, .int, .bool], .int, .sl [.int, .int], .sl [.int, .int, .int, .int], .sl [.int, .int, .bool], .int, .int, .int] ds) : ∃ (r : Reg) (W : List W4) (cs : List Cd) (n m o : Int), ds = [.list (kds r.ks), .list (p0s r.ps), dI r.ms, .list (ods r.os), .list (wkL W), .list (cds cs), dI n, dI m, dI o] ∧ cs.length ≤ maxLen := by
  obtain ⟨r, W, t, rfl, h1⟩ := in_reg h
  obtain ⟨cs, n, m, o, rfl, hn, _, _⟩ := in_flight h1
  exact ⟨r, W, cs, n, m, o, rfl, hn⟩
end Go.Proofs.YtdcodicoclecnaaDoor
/- Arguments opened: what a row needs. No conditions. -/
namespace Go.Proofs.YtdcodicoclecnaaDoor
open Go.ChangeShapes Go.WideShapes Go.ChangeAt Go.RowKit Go.Joins

theorem Tryd.own : ownKnob Tryd.prog.godebug = none := by kernel_rfl
theorem Tryd.laidOut : laidOutB Tryd.prog = true := by kernel_rfl
theorem agg_struct {P : Program} {w : World} {r : Reach} {b0 : Nat} {v : Value} {t : TypeId} {fs : Array Field} (ht : P.underlying t = some (.struct fs)) (hv : Value.okWide P w r b0 t v) : ∃ cs, v = .agg cs := by
  cases v <;> first | exact ⟨_, rfl⟩ | (simp [Value.okWide, Cell.okWide, Cell.ok, ht] at hv)
end Go.Proofs.YtdcodicoclecnaaDoor
