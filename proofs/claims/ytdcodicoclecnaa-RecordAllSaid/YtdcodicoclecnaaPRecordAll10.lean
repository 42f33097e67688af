/- Texts of the law RecordAll, part 10. No conditions. -/
import Derived.Test.YtdcodicoclecnaaPRecordAll09
set_option linter.unusedSimpArgs false
set_option linter.unusedVariables false
/- Sorting: in blocks, that are merged; the sort (views last). No conditions. -/
namespace Go.Proofs.Ytdcodicoclecnaa
open Go.RowKit Lift

set_option maxRecDepth 100000 in
set_option maxHeartbeats 16000000 in
theorem stable_ac (L : List Fd) (N : Nat) (hN : N = L.length) (hN2 : N ≤ 100000) (hN0 : 0 < N) :
    AC Try.prog 142 [.vec 0 N 3, dI N, .fn 108 [] []] [(0, fcells L)] [(0, some (fcells (isrt L)))] (.tup []) := by
  refine kslices_stableCmpFunc_Lapi_Found_J.ac (n0 := 8) (by simp) ⟨.vec _ _ _ (by omega), .val _, .fn _ _ _ (by simp) (by simp), trivial⟩ ⟨⟨by omega, fcells_in _ _⟩, trivial⟩ (okUp_f (by omega)) ?_
  unfold cslices_stableCmpFunc_Lapi_Found_J
  refine aw_seq (aw_region ?_)
  simp (disch := first | exact okY | omega) only [thenQ, List.map, List.length, Nat.zero_add, Nat.reduceMul, Nat.reduceAdd, envOf, dI, ARun_none, AOpRun, aexec, FSt.ev, AGo_ok, St.app, putO, eput_c, Nat.reduceBEq, eput_n, cond_false, hups, ARun_nil, dropE_c, inL_n, dropE_n]
  refine aw_seq (aw_region ?_)
  simp (disch := first | exact okY | omega) only [thenQ, List.length, Nat.zero_add, Nat.reduceAdd, Nat.reduceMul, ARun_none, AOpRun, aexec, FSt.ev, St.F, eget_c, Nat.reduceBEq, ↓eget_h, cond_false, AGo_ok, St.app, putO, eput_c, eput_n, hups, List.map, ARun_nil, dropE_c, inL_c, inL_n, beq_self_eq_true, cond_true, dropE_n]
  refine aw_seq (aw_block (aw_loop (fun q : List Fd × List Fd => ⟨[(0, .vec 0 N 3), (1, dI N), (2, .fn 108 [] []), (6, dI 20), (7, dI q.1.length), (8, dI (q.1.length + 20))], [(0, fcells (q.1 ++ q.2))], 200⟩) (fun q => q.1.length + q.2.length = N ∧ lev 20 L = q.1 ++ lev 20 q.2) (fun q => q.2.length) ⟨([], L), ⟨by simp; omega, rfl⟩, ?_⟩ ?_))
  · unfold dI
    simp only [List.nil_append, List.length_nil]
    refine wk_q [] [(0, 0)] ?_ ?_ <;> repeat' (first | exact trivial | exact vr_val _ | exact vr_vec _ _ _ _ rfl | apply vr_fn | refine And.intro ⟨_, rfl, .inl ⟨_, rfl, by decide, ?_⟩⟩ ?_ | apply And.intro)
    all_goals exact vrl_flat _ (fcells_in _ _)
  rintro ⟨E, R⟩ ⟨h1, h2⟩
  simp only at h1 h2
  try simp only
  obtain ⟨a, ha⟩ : ∃ a : Int, a = E.length := ⟨_, rfl⟩
  rw [← ha]
  have hab : 0 ≤ a ∧ a ≤ 1000000 := by omega
  by_cases hle : a + 20 ≤ (N : Int)
  · have q1 : decide (a + 20 ≤ (N : Int)) = true := decide_eq_true hle
    have lt : (R.take 20).length = 20 := by simp; omega
    have ld : (R.drop 20).length = R.length - 20 := by simp
    have c := insort_ac E (R.take 20) (R.drop 20) N a (a + 20) (by omega) (by omega) hN0 ha (by omega)
    rw [List.take_append_drop] at c
    have hl := lev_cut (s := 20) (by omega) (L := R) (by omega)
    have il := isrt_len _ (R.take 20) rfl
    (repeat' (first | (with_reducible first | refine thenQ_n ?_ | refine blockQ_n ?_ | refine thenQ_e ?_ | refine blockQ_t ?_ | refine blockQ_f (by decide) ?_) | apply aw_seq | apply aw_skip | apply aw_exit | apply aw_ret | apply aw_block | apply aw_condT rfl | apply aw_condF rfl | ((first | refine aw_hide fun K hK => aw_region ?_ | refine acallB (c) (by repeat' (first | exact trivial | exact rfl | refine And.intro ?_ ?_)) (by kernel_rfl) (by kernel_rfl) (by kernel_rfl) ?_ | refine ago_if (by omega) ?_ | skip); simp (disch := first | exact okY | omega) only [List.length, Nat.zero_add, Nat.reduceAdd, Nat.reduceMul, dI, ARun_none, AOpRun, aexec, FSt.ev, St.F, eget_c, Nat.reduceBEq, ↓eget_h, cond_false, AGo_ok, St.app, putO, eput_c, eput_n, hups, List.map, isSh, Bool.false_eq_true, ↓reduceIte, Option.map, abin, q1, ARun_nil, dropE_c, inL_c, inL_n, beq_self_eq_true, cond_true, dropE_n, hput_c, hput_n, List.append_nil, fits]) | subst hK))
    refine ⟨(E ++ isrt (R.take 20), R.drop 20), ⟨by simp only [List.length_append]; omega, by simp only [List.append_assoc]; rw [h2, hl]⟩, by simp only; omega, ?_⟩
    have e1 : ((E ++ isrt (R.take 20)).length : Int) = a + 20 := by rw [List.length_append]; omega
    simp only [e1, List.append_assoc]
    refine wk_q [] [(0, 0)] ?_ ?_ <;> repeat' (first | exact trivial | exact vr_val _ | exact vr_vec _ _ _ _ rfl | apply vr_fn | refine And.intro ⟨_, rfl, .inl ⟨_, rfl, by decide, ?_⟩⟩ ?_ | apply And.intro)
    all_goals exact vrl_flat _ (fcells_in _ _)
  have q1 : decide (a + 20 ≤ (N : Int)) = false := decide_eq_false hle
  have c := insort_ac E R [] N a N (by simp; omega) (by omega) hN0 ha (by omega)
  simp only [List.append_nil] at c
  have hs := lev_small (s := 20) (L := R) (by omega)
  rw [← hs, ← h2] at c
  clear h2 hs
  (repeat' (first | (with_reducible first | refine thenQ_n ?_ | refine blockQ_n ?_ | refine thenQ_e ?_ | refine blockQ_t ?_ | refine blockQ_f (by decide) ?_) | apply aw_seq | apply aw_skip | apply aw_exit | apply aw_ret | apply aw_block | apply aw_condT rfl | apply aw_condF rfl | ((first | refine aw_hide fun K hK => aw_region ?_ | refine acallB (c) (by repeat' (first | exact trivial | exact rfl | refine And.intro ?_ ?_)) (by kernel_rfl) (by kernel_rfl) (by kernel_rfl) ?_ | refine ago_if (by omega) ?_ | skip); simp (disch := first | exact okY | omega) only [List.length, Nat.zero_add, Nat.reduceAdd, Nat.reduceMul, dI, ARun_none, AOpRun, aexec, FSt.ev, St.F, eget_c, Nat.reduceBEq, ↓eget_h, cond_false, AGo_ok, St.app, putO, eput_c, eput_n, hups, List.map, isSh, Bool.false_eq_true, ↓reduceIte, Option.map, abin, q1, ARun_nil, dropE_c, inL_c, inL_n, beq_self_eq_true, cond_true, dropE_n, hput_c, hput_n, List.append_nil]) | subst hK))
  clear c h1 ha hab hle q1
  refine aw_loop (fun s : Nat => ⟨[(0, .vec 0 N 3), (1, dI N), (2, .fn 108 [] []), (6, dI s)], [(0, fcells (lev s L))], 1000⟩) (fun s => 20 ≤ s ∧ s ≤ 200000) (fun s => 400000 - s) ⟨20, by omega, ?_⟩ ?_
  · unfold dI
    refine wk_q [] [(0, 0)] ?_ ?_ <;> repeat' (first | exact trivial | exact vr_val _ | exact vr_vec _ _ _ _ rfl | apply vr_fn | refine And.intro ⟨_, rfl, .inl ⟨_, rfl, by decide, ?_⟩⟩ ?_ | apply And.intro)
    all_goals exact vrl_flat _ (fcells_in _ _)
  intro s ⟨hs1, hs2⟩
  by_cases hsN : s < N
  case neg =>
    have q1 : decide ((s : Int) < (N : Int)) = false := decide_eq_false (by omega)
    try simp only
    rw [lev_small (s := s) (L := L) (by omega)]
    (repeat' (first | (with_reducible first | refine thenQ_n ?_ | refine blockQ_n ?_ | refine thenQ_e ?_ | refine blockQ_t ?_ | refine blockQ_f (by decide) ?_) | apply aw_seq | apply aw_skip | apply aw_exit | apply aw_ret | apply aw_block | apply aw_condT rfl | apply aw_condF rfl | ((first | refine aw_hide fun K hK => aw_region ?_ | refine ago_if (by omega) ?_ | skip); simp (disch := first | exact okY | omega) only [List.length, Nat.zero_add, Nat.reduceAdd, Nat.reduceMul, dI, ARun_none, AOpRun, aexec, FSt.ev, St.F, eget_c, Nat.reduceBEq, ↓eget_h, cond_false, AGo_ok, St.app, putO, eput_c, eput_n, hups, List.map, isSh, Bool.false_eq_true, ↓reduceIte, Option.map, abin, q1, ARun_nil, dropE_c, inL_c, inL_n, beq_self_eq_true, cond_true, dropE_n]) | subst hK))
    all_goals (refine end_q [] [(0, 0)] ?_ ?_ <;> repeat' (first | exact trivial | apply vr_tup | refine And.intro ⟨_, rfl, _, rfl, by decide, ?_⟩ ?_))
    all_goals exact vrl_flat _ (fcells_in _ _)
  have q1 : decide ((s : Int) < (N : Int)) = true := decide_eq_true (by omega)
  try simp only
  (repeat' (first | (with_reducible first | refine thenQ_n ?_ | refine blockQ_n ?_ | refine thenQ_e ?_ | refine blockQ_t ?_ | refine blockQ_f (by decide) ?_) | apply aw_seq | apply aw_skip | apply aw_exit | apply aw_ret | apply aw_block | apply aw_condT rfl | apply aw_condF rfl | ((first | refine aw_hide fun K hK => aw_region ?_ | refine ago_if (by omega) ?_ | skip); simp (disch := first | exact okY | omega) only [List.length, Nat.zero_add, Nat.reduceAdd, Nat.reduceMul, dI, ARun_none, AOpRun, aexec, FSt.ev, St.F, eget_c, Nat.reduceBEq, ↓eget_h, cond_false, AGo_ok, St.app, putO, eput_c, eput_n, hups, List.map, isSh, Bool.false_eq_true, ↓reduceIte, Option.map, abin, q1, ARun_nil, dropE_c, inL_c, inL_n, beq_self_eq_true, cond_true, dropE_n, fits]) | subst hK))
  refine aw_loop (fun q : List Fd × List Fd => ⟨[(0, .vec 0 N 3), (1, dI N), (2, .fn 108 [] []), (6, dI s), (7, dI q.1.length), (8, dI (q.1.length + 2 * s))], [(0, fcells (q.1 ++ lev s q.2))], 2000⟩) (fun q => q.1.length + q.2.length = N ∧ lev (2 * s) L = q.1 ++ lev (2 * s) q.2) (fun q => q.2.length) ⟨([], L), ⟨by simp; omega, rfl⟩, ?_⟩ ?_
  · unfold dI
    simp only [List.nil_append, List.length_nil, show (((0 : Nat) : Int) + 2 * (s : Int)) = 2 * (s : Int) by omega]
    refine wk_q [] [(0, 0)] ?_ ?_ <;> repeat' (first | exact trivial | exact vr_val _ | exact vr_vec _ _ _ _ rfl | apply vr_fn | refine And.intro ⟨_, rfl, .inl ⟨_, rfl, by decide, ?_⟩⟩ ?_ | apply And.intro)
    all_goals exact vrl_flat _ (fcells_in _ _)
  rintro ⟨E, R⟩ ⟨h1, h2⟩
  simp only at h1 h2
  try simp only
  obtain ⟨a, ha⟩ : ∃ a : Int, a = E.length := ⟨_, rfl⟩
  rw [← ha]
  have hab : 0 ≤ a ∧ a ≤ 1000000 := by omega
  by_cases hle : a + 2 * (s : Int) ≤ (N : Int)
  · have q2 : decide (a + 2 * (s : Int) ≤ (N : Int)) = true := decide_eq_true hle
    obtain ⟨l1, l2⟩ := lev_two (s := s) (by omega) (R := R) (by omega)
    have t1 := isrt_len _ (R.take s) rfl
    have t2 := isrt_len _ ((R.drop s).take s) rfl
    have t3 := lev_len s (by omega) _ (R.drop (2 * s)) rfl
    have t4 : (R.take s).length = s := by simp; omega
    have t5 : ((R.drop s).take s).length = s := by simp; omega
    have t6 : (R.drop (2 * s)).length = R.length - 2 * s := by simp
    have u1 := isrt_srt _ (R.take s) rfl
    have u2 := isrt_srt _ ((R.drop s).take s) rfl
    rw [l1]
    rw [l2] at h2
    generalize isrt (R.take s) = A at *
    generalize isrt ((R.drop s).take s) = B at *
    have c := symm_ac N (by omega) _ E A B (lev s (R.drop (2 * s))) a (a + s) (a + 2 * s) rfl (by omega) (by omega) (by omega) u1 u2 ha (by omega) (by omega)
    have lm := mrg_len _ A B rfl
    clear l1 l2
    (repeat' (first | (with_reducible first | refine thenQ_n ?_ | refine blockQ_n ?_ | refine thenQ_e ?_ | refine blockQ_t ?_ | refine blockQ_f (by decide) ?_) | apply aw_seq | apply aw_skip | apply aw_exit | apply aw_ret | apply aw_block | apply aw_condT rfl | apply aw_condF rfl | ((first | refine aw_hide fun K hK => aw_region ?_ | refine acallB (c) (by repeat' (first | exact trivial | exact rfl | refine And.intro ?_ ?_)) (by kernel_rfl) (by kernel_rfl) (by kernel_rfl) ?_ | refine ago_if (by omega) ?_ | skip); simp (disch := first | exact okY | omega) only [List.length, Nat.zero_add, Nat.reduceAdd, Nat.reduceMul, dI, ARun_none, AOpRun, aexec, FSt.ev, St.F, eget_c, Nat.reduceBEq, ↓eget_h, cond_false, AGo_ok, St.app, putO, eput_c, eput_n, hups, List.map, isSh, Bool.false_eq_true, ↓reduceIte, Option.map, abin, q2, ARun_nil, dropE_c, inL_c, inL_n, beq_self_eq_true, cond_true, dropE_n, fits, hput_c, hput_n, List.append_nil]) | subst hK))
    refine ⟨(E ++ mrg A B, R.drop (2 * s)), ⟨by simp only [List.length_append]; omega, by simp only [List.append_assoc]; exact h2⟩, by simp only; omega, ?_⟩
    have e1 : ((E ++ mrg A B).length : Int) = a + 2 * (s : Int) := by rw [List.length_append]; omega
    simp only [e1, List.append_assoc]
    refine wk_q [] [(0, 0)] ?_ ?_ <;> repeat' (first | exact trivial | exact vr_val _ | exact vr_vec _ _ _ _ rfl | apply vr_fn | refine And.intro ⟨_, rfl, .inl ⟨_, rfl, by decide, ?_⟩⟩ ?_ | apply And.intro)
    all_goals exact vrl_flat _ (fcells_in _ _)
  have q2 : decide (a + 2 * (s : Int) ≤ (N : Int)) = false := decide_eq_false hle
  by_cases hlt : a + (s : Int) < (N : Int)
  · have q3 : decide (a + (s : Int) < (N : Int)) = true := decide_eq_true hlt
    obtain ⟨l1, l2⟩ := lev_last (s := s) (by omega) (R := R) (by omega) (by omega)
    have t1 := isrt_len _ (R.take s) rfl
    have t2 := isrt_len _ (R.drop s) rfl
    have t4 : (R.take s).length = s := by simp; omega
    have t5 : (R.drop s).length = R.length - s := by simp
    have u1 := isrt_srt _ (R.take s) rfl
    have u2 := isrt_srt _ (R.drop s) rfl
    rw [l1]
    rw [l2] at h2
    generalize isrt (R.take s) = A at *
    generalize isrt (R.drop s) = B at *
    have c := symm_ac N (by omega) _ E A B [] a (a + s) N rfl (by simp; omega) (by omega) (by omega) u1 u2 ha (by omega) (by omega)
    simp only [List.append_nil] at c
    rw [← h2] at c
    clear l1 l2
    (repeat' (first | (with_reducible first | refine thenQ_n ?_ | refine blockQ_n ?_ | refine thenQ_e ?_ | refine blockQ_t ?_ | refine blockQ_f (by decide) ?_) | apply aw_seq | apply aw_skip | apply aw_exit | apply aw_ret | apply aw_block | apply aw_condT rfl | apply aw_condF rfl | ((first | refine aw_hide fun K hK => aw_region ?_ | refine acallB (c) (by repeat' (first | exact trivial | exact rfl | refine And.intro ?_ ?_)) (by kernel_rfl) (by kernel_rfl) (by kernel_rfl) ?_ | refine ago_if (by omega) ?_ | skip); simp (disch := first | exact okY | omega) only [List.length, Nat.zero_add, Nat.reduceAdd, Nat.reduceMul, dI, ARun_none, AOpRun, aexec, FSt.ev, St.F, eget_c, Nat.reduceBEq, ↓eget_h, cond_false, AGo_ok, St.app, putO, eput_c, eput_n, hups, List.map, isSh, Bool.false_eq_true, ↓reduceIte, Option.map, abin, q2, ARun_nil, dropE_c, inL_c, inL_n, beq_self_eq_true, cond_true, dropE_n, fits, q3, hput_c, hput_n, List.append_nil]) | subst hK))
    refine ⟨2 * s, by omega, by omega, ?_⟩
    simp only [show ((2 * s : Nat) : Int) = (s : Int) * 2 by omega]
    refine wk_q [] [(0, 0)] ?_ ?_ <;> repeat' (first | exact trivial | exact vr_val _ | exact vr_vec _ _ _ _ rfl | apply vr_fn | refine And.intro ⟨_, rfl, .inl ⟨_, rfl, by decide, ?_⟩⟩ ?_ | apply And.intro)
    all_goals exact vrl_flat _ (fcells_in _ _)
  have q3 : decide (a + (s : Int) < (N : Int)) = false := decide_eq_false hlt
  rw [lev_small (s := 2 * s) (L := R) (by omega)] at h2
  rw [lev_small (s := s) (L := R) (by omega), ← h2]
  (repeat' (first | (with_reducible first | refine thenQ_n ?_ | refine blockQ_n ?_ | refine thenQ_e ?_ | refine blockQ_t ?_ | refine blockQ_f (by decide) ?_) | apply aw_seq | apply aw_skip | apply aw_exit | apply aw_ret | apply aw_block | apply aw_condT rfl | apply aw_condF rfl | ((first | refine aw_hide fun K hK => aw_region ?_ | refine ago_if (by omega) ?_ | skip); simp (disch := first | exact okY | omega) only [List.length, Nat.zero_add, Nat.reduceAdd, Nat.reduceMul, dI, ARun_none, AOpRun, aexec, FSt.ev, St.F, eget_c, Nat.reduceBEq, ↓eget_h, cond_false, AGo_ok, St.app, putO, eput_c, eput_n, hups, List.map, isSh, Bool.false_eq_true, ↓reduceIte, Option.map, abin, q2, ARun_nil, dropE_c, inL_c, inL_n, beq_self_eq_true, cond_true, dropE_n, fits, q3]) | subst hK))
  refine ⟨2 * s, by omega, by omega, ?_⟩
  simp only [show ((2 * s : Nat) : Int) = (s : Int) * 2 by omega]
  refine wk_q [] [(0, 0)] ?_ ?_ <;> repeat' (first | exact trivial | exact vr_val _ | exact vr_vec _ _ _ _ rfl | apply vr_fn | refine And.intro ⟨_, rfl, .inl ⟨_, rfl, by decide, ?_⟩⟩ ?_ | apply And.intro)
  all_goals exact vrl_flat _ (fcells_in _ _)
set_option maxRecDepth 100000 in
set_option maxHeartbeats 1000000 in
theorem sort_ac (L : List Fd) (N : Nat) (hN : N = L.length) (hN2 : N ≤ 100000) (hN0 : 0 < N) :
    AC Try.prog 107 [.vec 0 N 3, .fn 108 [] []] [(0, fcells L)] [(0, some (fcells (isrt L)))] (.tup []) := by
  refine kslices_SortStableFunc_L_L_Japi_Found_Kapi_Found_J.ac (n0 := 8) (by simp) ⟨.vec _ _ _ (by omega), .fn _ _ _ (by simp) (by simp), trivial⟩ ⟨⟨by omega, fcells_in _ _⟩, trivial⟩ (okUp_f (by omega)) ?_
  unfold cslices_SortStableFunc_L_L_Japi_Found_Kapi_Found_J
  have c := stable_ac L N hN hN2 hN0
  (repeat' (first | (with_reducible first | refine thenQ_n ?_ | refine blockQ_n ?_ | refine thenQ_e ?_ | refine blockQ_t ?_ | refine blockQ_f (by decide) ?_) | apply aw_seq | apply aw_skip | apply aw_exit | apply aw_ret | apply aw_block | apply aw_condT rfl | apply aw_condF rfl | ((first | refine aw_hide fun K hK => aw_region ?_ | refine acallB (c) (by repeat' (first | exact trivial | exact rfl | refine And.intro ?_ ?_)) (by kernel_rfl) (by kernel_rfl) (by kernel_rfl) ?_ | refine ago_if (by omega) ?_ | skip); simp (disch := first | exact okY | omega) only [List.length, Nat.zero_add, Nat.reduceAdd, Nat.reduceMul, envOf, ARun_none, AOpRun, aexec, FSt.ev, St.F, ↓eget_h, AGo_ok, St.app, putO, eput_c, Nat.reduceBEq, eput_n, cond_false, hups, List.map, eget_c, hput_c, beq_self_eq_true, hput_n, cond_true, List.append_nil, ARun_nil, dropE_c, inL_c, inL_n, dropE_n]) | subst hK))
  all_goals (refine end_q [] [(0, 0)] ?_ ?_ <;> repeat' (first | exact trivial | apply vr_tup | refine And.intro ⟨_, rfl, _, rfl, by decide, ?_⟩ ?_))
  all_goals exact vrl_flat _ (fcells_in _ _)
set_option maxRecDepth 100000 in
set_option maxHeartbeats 1000000 in
theorem insort0_ac : AC Try.prog 156 [.list [], dI 0, dI 0, .fn 108 [] []] [] [] (.tup []) := by
  refine kslices_insertionSortCmpFunc_Lapi_Found_J.ac (n0 := 0) (by simp) ⟨.list _, .val _, .val _, .fn _ _ _ (by simp) (by simp), trivial⟩ trivial rfl ?_
  unfold cslices_insertionSortCmpFunc_Lapi_Found_J
  refine aw_seq (aw_region ?_)
  simp (disch := first | exact okY | omega) only [thenQ, List.map, List.length, Nat.zero_add, Nat.reduceAdd, Nat.reduceMul, envOf, dI, ARun_none, AOpRun, aexec, FSt.ev, St.F, eget_c, Nat.reduceBEq, ↓eget_h, cond_false, AGo_ok, St.app, putO, eput_c, eput_n, hups, isSh, Bool.false_eq_true, ↓reduceIte, Option.map, abin, Int.reduceAdd, fits, ARun_nil, dropE_c, inL_c, inL_n, beq_self_eq_true, cond_true, dropE_n]
  refine aw_block (aw_loop (fun _ : Unit => ⟨[(0, .list []), (1, dI 0), (2, dI 0), (3, .fn 108 [] []), (8, dI 1)], [], 100⟩) (fun _ => True) (fun _ => 0) ⟨(), trivial, ?_⟩ ?_)
  · unfold dI
    refine wk_q [] [] ?_ ?_ <;> repeat' (first | exact trivial | exact vr_val _ | exact vr_list _ | apply vr_fn | apply And.intro)
  intro _ _
  (repeat' (first | (with_reducible first | refine thenQ_n ?_ | refine blockQ_n ?_ | refine thenQ_e ?_ | refine blockQ_t ?_ | refine blockQ_f (by decide) ?_) | apply aw_seq | apply aw_skip | apply aw_exit | apply aw_ret | apply aw_block | apply aw_condT rfl | apply aw_condF rfl | ((first | refine aw_hide fun K hK => aw_region ?_ | refine ago_if (by omega) ?_ | skip); simp (disch := first | exact okY | omega) only [List.length, Nat.zero_add, Nat.reduceAdd, Nat.reduceMul, dI, ARun_none, AOpRun, aexec, FSt.ev, St.F, eget_c, Nat.reduceBEq, ↓eget_h, cond_false, AGo_ok, St.app, putO, eput_c, eput_n, hups, List.map, isSh, Bool.false_eq_true, ↓reduceIte, Option.map, abin, Int.reduceLT, decide_false, ARun_nil, dropE_c, inL_c, inL_n, beq_self_eq_true, cond_true, dropE_n]) | subst hK))
  all_goals (refine end_q [] [] ?_ ?_ <;> repeat' (first | exact trivial | apply vr_tup))
set_option maxRecDepth 100000 in
set_option maxHeartbeats 1000000 in
theorem stable0_ac : AC Try.prog 142 [.list [], dI 0, .fn 108 [] []] [] [] (.tup []) := by
  refine kslices_stableCmpFunc_Lapi_Found_J.ac (n0 := 0) (by simp) ⟨.list _, .val _, .fn _ _ _ (by simp) (by simp), trivial⟩ trivial rfl ?_
  unfold cslices_stableCmpFunc_Lapi_Found_J
  have c := insort0_ac
  (repeat' (first | (with_reducible first | refine thenQ_n ?_ | refine blockQ_n ?_ | refine thenQ_e ?_ | refine blockQ_t ?_ | refine blockQ_f (by decide) ?_) | apply aw_seq | apply aw_skip | apply aw_exit | apply aw_ret | apply aw_block | apply aw_condT rfl | apply aw_condF rfl | ((first | refine aw_hide fun K hK => aw_region ?_ | refine ago_if (by omega) ?_ | skip); simp (disch := first | exact okY | omega) only [List.length, Nat.zero_add, Nat.reduceMul, envOf, dI, Nat.reduceAdd, ARun_none, AOpRun, aexec, FSt.ev, AGo_ok, St.app, putO, eput_c, Nat.reduceBEq, eput_n, cond_false, hups, List.map, ARun_nil, dropE_c, inL_n, dropE_n, St.F, eget_c, ↓eget_h, inL_c, beq_self_eq_true, cond_true]) | subst hK))
  refine aw_loop (fun _ : Unit => ⟨[(0, .list []), (1, dI 0), (2, .fn 108 [] []), (6, dI 20), (7, dI 0), (8, dI 20)], [], 100⟩) (fun _ => True) (fun _ => 0) ⟨(), trivial, ?_⟩ ?_
  · unfold dI
    refine wk_q [] [] ?_ ?_ <;> repeat' (first | exact trivial | exact vr_val _ | exact vr_list _ | apply vr_fn | apply And.intro)
  intro _ _
  (repeat' (first | (with_reducible first | refine thenQ_n ?_ | refine blockQ_n ?_ | refine thenQ_e ?_ | refine blockQ_t ?_ | refine blockQ_f (by decide) ?_) | apply aw_seq | apply aw_skip | apply aw_exit | apply aw_ret | apply aw_block | apply aw_condT rfl | apply aw_condF rfl | ((first | refine aw_hide fun K hK => aw_region ?_ | refine acall0 (c) ?_ | refine ago_if (by omega) ?_ | skip); simp (disch := first | exact okY | omega) only [List.length, Nat.zero_add, Nat.reduceAdd, Nat.reduceMul, dI, ARun_none, AOpRun, aexec, FSt.ev, St.F, eget_c, Nat.reduceBEq, ↓eget_h, cond_false, AGo_ok, St.app, putO, eput_c, eput_n, hups, List.map, isSh, Bool.false_eq_true, ↓reduceIte, Option.map, abin, Int.reduceLE, decide_false, ARun_nil, dropE_c, inL_c, inL_n, beq_self_eq_true, cond_true, dropE_n]) | subst hK))
  refine aw_loop (fun _ : Unit => ⟨[(0, .list []), (1, dI 0), (2, .fn 108 [] []), (6, dI 20), (7, dI 0), (8, dI 20)], [], 400⟩) (fun _ => True) (fun _ => 0) ⟨(), trivial, ?_⟩ ?_
  · unfold dI
    refine wk_q [] [] ?_ ?_ <;> repeat' (first | exact trivial | exact vr_val _ | exact vr_list _ | apply vr_fn | apply And.intro)
  intro _ _
  (repeat' (first | (with_reducible first | refine thenQ_n ?_ | refine blockQ_n ?_ | refine thenQ_e ?_ | refine blockQ_t ?_ | refine blockQ_f (by decide) ?_) | apply aw_seq | apply aw_skip | apply aw_exit | apply aw_ret | apply aw_block | apply aw_condT rfl | apply aw_condF rfl | ((first | refine aw_hide fun K hK => aw_region ?_ | refine ago_if (by omega) ?_ | skip); simp (disch := first | exact okY | omega) only [List.length, Nat.zero_add, Nat.reduceAdd, Nat.reduceMul, dI, ARun_none, AOpRun, aexec, FSt.ev, St.F, eget_c, Nat.reduceBEq, ↓eget_h, cond_false, AGo_ok, St.app, putO, eput_c, eput_n, hups, List.map, isSh, Bool.false_eq_true, ↓reduceIte, Option.map, abin, Int.reduceLT, decide_false, ARun_nil, dropE_c, inL_c, inL_n, beq_self_eq_true, cond_true, dropE_n]) | subst hK))
  all_goals (refine end_q [] [] ?_ ?_ <;> repeat' (first | exact trivial | apply vr_tup))
set_option maxRecDepth 100000 in
set_option maxHeartbeats 1000000 in
theorem sort0_ac : AC Try.prog 107 [.list [], .fn 108 [] []] [] [] (.tup []) := by
  refine kslices_SortStableFunc_L_L_Japi_Found_Kapi_Found_J.ac (n0 := 0) (by simp) ⟨.list _, .fn _ _ _ (by simp) (by simp), trivial⟩ trivial rfl ?_
  unfold cslices_SortStableFunc_L_L_Japi_Found_Kapi_Found_J
  have c := stable0_ac
  (repeat' (first | (with_reducible first | refine thenQ_n ?_ | refine blockQ_n ?_ | refine thenQ_e ?_ | refine blockQ_t ?_ | refine blockQ_f (by decide) ?_) | apply aw_seq | apply aw_skip | apply aw_exit | apply aw_ret | apply aw_block | apply aw_condT rfl | apply aw_condF rfl | ((first | refine aw_hide fun K hK => aw_region ?_ | refine acall0 (c) ?_ | refine ago_if (by omega) ?_ | skip); simp (disch := first | exact okY | omega) only [List.length, Nat.zero_add, Nat.reduceAdd, Nat.reduceMul, envOf, ARun_none, AOpRun, aexec, FSt.ev, St.F, ↓eget_h, AGo_ok, St.app, putO, eput_c, Nat.reduceBEq, eput_n, cond_false, hups, List.map, eget_c, cast_lit, ARun_nil, dropE_c, inL_c, inL_n, beq_self_eq_true, cond_true, dropE_n]) | subst hK))
  all_goals (refine end_q [] [] ?_ ?_ <;> repeat' (first | exact trivial | apply vr_tup))
end Go.Proofs.Ytdcodicoclecnaa
/- record: all events, sorted (views last). No conditions. -/
namespace Go.Proofs.Ytdcodicoclecnaa
open Go Go.RowKit Lift

def evS (l : Lay) (frs : List (List Int)) (e : Evt) : List (Int × Int) := (evK (isJ l frs e.1) e.2 (frs.length + 1)).2
def fnd (i : Nat) (S : List (Int × Int)) : List Fd := S.map fun s => ((i : Int), s.1, s.2)
def allL (S : Nat → List (Int × Int)) : Nat → List Fd
  | 0 => []
  | n + 1 => allL S n ++ fnd n (S n)
theorem fnd_len (i : Nat) (S : List (Int × Int)) : (fnd i S).length = S.length := by simp [fnd]
theorem fnd_take (i : Nat) (S : List (Int × Int)) (k : Nat) (h : k < S.length) : fnd i (S.take (k + 1)) = fnd i (S.take k) ++ [((i : Int), lo S k, hi S k)] := by
  rw [show S.take (k + 1) = S.take k ++ [S[k]] from (List.take_append_getElem h).symm]
  show List.map _ (S.take k ++ [S[k]]) = _
  rw [List.map_append]
  congr 1
  simp [lo, hi, h]
theorem allL_len {S : Nat → List (Int × Int)} (h : ∀ i, (S i).length ≤ 201) : ∀ n, (allL S n).length ≤ 201 * n
  | 0 => by simp [allL]
  | n + 1 => by
    have := allL_len h n
    have := h n
    show (allL S n ++ fnd n (S n)).length ≤ _
    rw [List.length_append, fnd_len]; omega
def fdL (L : List Fd) : List (List D) := L.map fc
theorem fdL_three (L : List Fd) : ∀ e ∈ fdL L, e.length = 3 := fun e he => by
  obtain ⟨q, _, rfl⟩ := List.mem_map.1 he
  rfl
theorem fdL_len (L : List Fd) : (fdL L).length = L.length := by simp [fdL]
theorem fdL_flat (L : List Fd) : (fdL L).flatten = fcells L := rfl
theorem fcells_snoc (L : List Fd) (a b c : Int) : fcells (L ++ [(a, b, c)]) = fcells L ++ [.val (.int .i64 a), .val (.int .i64 b), .val (.int .i64 c)] := by simp [fcells, fc, dI]
noncomputable def alE (l : Lay) (frs : List (List Int)) (x : List Evt) : Int := if tpE l frs = 0 then (if x.length > 8 then 2 else if x.all (eB l) = true then 0 else 121) else tpE l frs
noncomputable def alR (l : Lay) (frs : List (List Int)) (x : List Evt) : List Fd := if alE l frs x = 0 then isrt (allL (fun k => evS l frs (evAt x k)) x.length) else []
set_option maxRecDepth 100000 in
set_option maxHeartbeats 16000000 in
theorem recAll_ac (l : Lay) (frs : List (List Int)) (x : List Evt) (hl : LayIn l) (hf : FrIn frs) (hx : x.length ≤ 1000) (hc : ∀ k, (evAt x k).1.length ≤ 1000000) : AC Try.prog 62 [layD l, .list (rows frs), .list (evls x)] [] [] (.tup [.list (fdL (alR l frs x)), dI (alE l frs x)]) := by
  refine krecord_All.ac (n0 := 0) (by simp) ⟨in_layD _ _, .list _, .list _, trivial⟩ trivial rfl ?_
  unfold crecord_All
  have ll := evls_len x
  rcases tpE_cases l frs with ⟨h0, h1, h2⟩ | ⟨h0, hb⟩
  case inr =>
    have e : alE l frs x = tpE l frs := if_neg h0
    have er : alR l frs x = [] := if_neg (by rw [e]; exact h0)
    rw [er, e]
    have nt := newTape_err l frs hl (fun h => h0 (tpE_ok h.1 h.2)) hf
    unfold layD layC at *
    generalize tpE l frs = E at *
    (repeat' (first | (with_reducible first | refine thenQ_n ?_ | refine blockQ_n ?_ | refine thenQ_e ?_ | refine blockQ_t ?_ | refine blockQ_f (by decide) ?_) | apply aw_seq | apply aw_skip | apply aw_exit | apply aw_ret | apply aw_block | apply aw_condT rfl | apply aw_condF rfl | ((first | refine aw_hide fun K hK => aw_region ?_ | refine acall0 (nt) ?_ | refine ago_if (by omega) ?_ | skip); simp (disch := first | exact okY | omega) only [List.length, Nat.zero_add, Nat.reduceAdd, Nat.reduceMul, envOf, dI, ARun_none, AOpRun, aexec, D.isBot, FSt.ev, St.F, ↓eget_h, Bool.false_eq_true, Option.isSome, hget_n, or_self, ↓reduceIte, D.cells, AGo_ok, St.app, putO, eput_c, Nat.reduceBEq, eput_n, cond_false, hups, hput_n, List.map, ARun_nil, dropE_c, inL_n, dropE_n, eget_c, hget_c, beq_self_eq_true, cond_true, Nat.reduceLeDiff, List.drop, List.take, opt1, Option.map, List.getElem?_cons_zero, List.getElem?_cons_succ, hput_c, ↓hget_h, List.all, D.leaf, Bool.and_true, and_self, splice, List.nil_append, List.append_nil, inL_c, isSh, abin, hb, thenQ]) | subst hK))
    (refine end_q [] [] ?_ ?_ <;> repeat' (first | exact trivial | exact vr_val _ | exact vr_nil | apply vr_tup | apply And.intro))
  have nt := newTape_ok l frs hl h1 h2 hf
  have e : alE l frs x = if x.length > 8 then 2 else if x.all (eB l) = true then 0 else 121 := if_pos h0
  unfold layD layC at *
  refine aw_seq (aw_region ?_)
  simp (disch := first | exact okY | omega) only [thenQ, List.map, dI, List.length, Nat.zero_add, Nat.reduceAdd, Nat.reduceMul, envOf, ARun_none, AOpRun, aexec, D.isBot, FSt.ev, St.F, ↓eget_h, Bool.false_eq_true, Option.isSome, hget_n, or_self, ↓reduceIte, D.cells, AGo_ok, St.app, putO, eput_c, Nat.reduceBEq, eput_n, cond_false, hups, hput_n, ARun_nil, dropE_c, inL_n, dropE_n]
  refine aw_wk (s' := ⟨[(1, .list (rows frs)), (2, .list (evls x)), (3, .ptr 0 0), (6, .val (.slice none 0 0))], [(0, [dI l.words, dI l.s0, dI l.s1, dI l.s2, dI l.s3, .list (fls l.fl)])], 80⟩) ?_ ?_
  · unfold dI
    refine wk_q [] [(0, 0)] ?_ ?_ <;> repeat' (first | exact trivial | exact vr_val _ | exact vr_list _ | exact vr_ptr _ _ _ rfl | refine And.intro ⟨_, rfl, .inl ⟨_, rfl, by decide, ?_⟩⟩ ?_ | apply And.intro)
  refine aw_seq (aw_region ?_)
  simp (disch := first | exact okY | omega) only [thenQ, List.length, Nat.zero_add, Nat.reduceAdd, Nat.reduceMul, dI, ARun_none, AOpRun, aexec, FSt.ev, St.F, eget_c, Nat.reduceBEq, ↓eget_h, cond_false, hget_c, beq_self_eq_true, hget_n, cond_true, Nat.reduceLeDiff, ↓reduceIte, List.drop, List.take, AGo_ok, St.app, putO, eput_c, eput_n, hups, List.map]
  refine acallB nt (by repeat' (first | exact trivial | exact rfl | refine And.intro ?_ ?_)) (by kernel_rfl) (by kernel_rfl) (by kernel_rfl) ?_
  simp (disch := first | exact okY | omega) only [Nat.reduceAdd, St.app, putO, dI, eput_c, Nat.reduceBEq, eput_n, cond_false, hups, hput_c, hput_n, List.map, List.append_nil, ARun_none, AOpRun, aexec, FSt.ev, St.F, eget_c, ↓eget_h, AGo_ok, opt1, Option.map, List.getElem?_cons_zero, List.getElem?_cons_succ, Option.isSome, Nat.reduceMul, hget_c, hget_n, Bool.false_eq_true, ↓reduceIte, ↓hget_h, D.isBot, D.cells, List.length, Nat.zero_add, Nat.reduceLeDiff, List.all, D.leaf, Bool.and_true, and_self, splice, List.take, List.nil_append, List.drop, beq_self_eq_true, cond_true, ARun_nil, dropE_c, inL_c, inL_n, dropE_n]
  refine aw_wk (s' := ⟨[(2, .list (evls x)), (6, .val (.slice none 0 0)), (7, dI 0), (8, .ptr 152 0)], [(96, tpC l frs), (152, [.ptr 96 0])], 600⟩) ?_ ?_
  · unfold dI
    refine wk_q [] [(96, 96), (152, 128)] ?_ ?_ <;> repeat' (first | exact trivial | exact vr_val _ | exact vr_list _ | exact vr_ptr _ _ _ rfl | refine And.intro ⟨_, rfl, .inl ⟨_, rfl, by decide, ?_⟩⟩ ?_ | apply And.intro)
    all_goals exact tpC_in _ _ _
  by_cases x8 : x.length > 8
  case pos =>
    rw [if_pos x8] at e
    have er : alR l frs x = [] := if_neg (by rw [e]; decide)
    rw [er, e]
    have q : decide ((x.length : Int) > 8) = true := decide_eq_true (by omega)
    generalize evls x = XX at *
    (repeat' (first | (with_reducible first | refine thenQ_n ?_ | refine blockQ_n ?_ | refine thenQ_e ?_ | refine blockQ_t ?_ | refine blockQ_f (by decide) ?_) | apply aw_seq | apply aw_skip | apply aw_exit | apply aw_ret | apply aw_block | apply aw_condT rfl | apply aw_condF rfl | ((first | refine aw_hide fun K hK => aw_region ?_ | refine ago_if (by omega) ?_ | skip); simp (disch := first | exact okY | omega) only [List.length, Nat.zero_add, Nat.reduceAdd, Nat.reduceMul, dI, ARun_none, AOpRun, aexec, FSt.ev, St.F, eget_c, Nat.reduceBEq, ↓eget_h, cond_false, AGo_ok, St.app, putO, eput_c, eput_n, hups, List.map, isSh, Bool.false_eq_true, ↓reduceIte, Option.map, abin, bne_self_eq_false, ARun_nil, dropE_c, inL_c, inL_n, beq_self_eq_true, cond_true, dropE_n, ll, q, thenQ]) | subst hK))
    (refine end_q [] [] ?_ ?_ <;> repeat' (first | exact trivial | exact vr_val _ | exact vr_nil | apply vr_tup | apply And.intro))
  rw [if_neg x8] at e
  have q : decide ((x.length : Int) > 8) = false := decide_eq_false (by omega)
  have ac := acont_ac l frs x hx hc (by have := h1.nf; omega)
  cases ha : x.all (eB l) with
  | false =>
    rw [ha, if_neg (by simp)] at e
    have er : alR l frs x = [] := if_neg (by rw [e]; decide)
    rw [er, e]
    rw [ha] at ac
    generalize evls x = XX at *
    (repeat' (first | (with_reducible first | refine thenQ_n ?_ | refine blockQ_n ?_ | refine thenQ_e ?_ | refine blockQ_t ?_ | refine blockQ_f (by decide) ?_) | apply aw_seq | apply aw_skip | apply aw_exit | apply aw_ret | apply aw_block | apply aw_condT rfl | apply aw_condF rfl | ((first | refine aw_hide fun K hK => aw_region ?_ | refine acallB (ac) (by repeat' (first | exact trivial | exact rfl | refine And.intro ?_ ?_)) (by kernel_rfl) (by kernel_rfl) (by kernel_rfl) ?_ | refine ago_if (by omega) ?_ | skip); simp (disch := first | exact okY | omega) only [List.length, Nat.zero_add, Nat.reduceAdd, Nat.reduceMul, dI, ARun_none, AOpRun, aexec, FSt.ev, St.F, eget_c, Nat.reduceBEq, ↓eget_h, cond_false, AGo_ok, St.app, putO, eput_c, eput_n, hups, List.map, isSh, Bool.false_eq_true, ↓reduceIte, Option.map, abin, bne_self_eq_false, ARun_nil, dropE_c, inL_c, inL_n, beq_self_eq_true, cond_true, dropE_n, ll, q, dB, Bool.not_false, hput_c, hput_n, List.append_nil, thenQ]) | subst hK))
    (refine end_q [] [] ?_ ?_ <;> repeat' (first | exact trivial | exact vr_val _ | exact vr_nil | apply vr_tup | apply And.intro))
  | true =>
  rw [ha, if_pos rfl] at e
  have er : alR l frs x = isrt (allL (fun k => evS l frs (evAt x k)) x.length) := if_pos e
  rw [er, e]
  rw [ha] at ac
  have et : ∀ k, k < x.length → AC Try.prog 94 [.ptr 96 0, evD (evAt x k).1 (evAt x k).2] [(96, tpC l frs)] [(96, some (tpC l frs))] (.list (sps (evS l frs (evAt x k)))) := fun k hk =>
    eventsT_ac l frs _ _ h1 h2 hf (by
      have := List.all_eq_true.1 ha x[k] (List.getElem_mem hk)
      simpa [eB, evAt, hk] using this)
  have hSl : ∀ k, (evS l frs (evAt x k)).length ≤ 201 := fun k => by
    have hb := (evK_bd (isJ l frs (evAt x k).1) (evAt x k).2 (frs.length + 1))
    unfold evS
    omega
  obtain ⟨S, hS⟩ : ∃ S : Nat → List (Int × Int), S = fun k => evS l frs (evAt x k) := ⟨_, rfl⟩
  have et : ∀ k, k < x.length → AC Try.prog 94 [.ptr 96 0, evD (evAt x k).1 (evAt x k).2] [(96, tpC l frs)] [(96, some (tpC l frs))] (.list (sps (S k))) := fun k hk => by rw [hS]; exact et k hk
  have hSl : ∀ k, (S k).length ≤ 201 := fun k => by rw [hS]; exact hSl k
  rw [← hS]
  have hAl := allL_len hSl
  have gd := evls_gd x
  have la := evls_all x
  clear e er nt hS h0
  generalize evls x = XX at *
  (repeat' (first | (with_reducible first | refine thenQ_n ?_ | refine blockQ_n ?_ | refine thenQ_e ?_ | refine blockQ_t ?_ | refine blockQ_f (by decide) ?_) | apply aw_seq | apply aw_skip | apply aw_exit | apply aw_ret | apply aw_block | apply aw_condT rfl | apply aw_condF rfl | ((first | refine aw_hide fun K hK => aw_region ?_ | refine acallB (ac) (by repeat' (first | exact trivial | exact rfl | refine And.intro ?_ ?_)) (by kernel_rfl) (by kernel_rfl) (by kernel_rfl) ?_ | refine ago_if (by omega) ?_ | skip); simp (disch := first | exact okY | omega) only [List.length, Nat.zero_add, Nat.reduceAdd, Nat.reduceMul, dI, ARun_none, AOpRun, aexec, FSt.ev, St.F, eget_c, Nat.reduceBEq, ↓eget_h, cond_false, AGo_ok, St.app, putO, eput_c, eput_n, hups, List.map, isSh, Bool.false_eq_true, ↓reduceIte, Option.map, abin, bne_self_eq_false, ARun_nil, dropE_c, inL_c, inL_n, beq_self_eq_true, cond_true, dropE_n, ll, q, dB, Bool.not_true, hput_c, hput_n, List.append_nil]) | subst hK))
  refine aw_loop (fun i : Nat => ⟨[(6, .vec 40 (allL S i).length 3), (8, .ptr 152 0), (28, .list XX), (29, dI x.length), (30, dI i)], [(40, fcells (allL S i)), (96, tpC l frs), (152, [.ptr 96 0])], 1600⟩) (fun i => i ≤ x.length) (fun i => x.length - i) ⟨0, by omega, ?_⟩ ?_
  · show Wk _ _ ⟨[(6, .vec 40 0 3), _, _, _, _], [(40, []), _, _], _⟩
    unfold dI
    refine wk_q [] [(40, 1500), (96, 96), (152, 152)] ?_ ?_ <;> repeat' (first | exact trivial | exact vr_val _ | exact vr_list _ | exact vr_ptr _ _ _ rfl | exact vr_nilv _ _ _ rfl | refine And.intro ⟨_, rfl, .inl ⟨_, rfl, by decide, ?_⟩⟩ ?_ | refine And.intro ⟨_, rfl, .inr ⟨rfl, rfl, of_decide_eq_true (by kernel_rfl)⟩⟩ ?_ | apply And.intro)
    all_goals exact tpC_in _ _ _
  intro i hi
  have hA := hAl i
  by_cases hi2 : i < x.length
  case neg =>
    obtain rfl : i = x.length := by omega
    clear et hSl gd la hAl
    generalize hL : allL S x.length = L at *
    have c := sort_ac L L.length rfl (by omega)
    have c0 := sort0_ac
    refine aw_wk (s' := ⟨[(6, .vec 0 L.length 3), (8, .ptr 152 0), (28, .list XX), (29, dI x.length), (30, dI x.length)], [(0, fcells L), (96, tpC l frs), (152, [.ptr 96 0])], 2400⟩) ?_ ?_
    · unfold dI
      refine wk_q [] [(0, 40), (96, 96), (152, 152)] ?_ ?_ <;> repeat' (first | exact trivial | exact vr_val _ | exact vr_list _ | exact vr_vec _ _ _ _ rfl | exact vr_ptr _ _ _ rfl | refine And.intro ⟨_, rfl, .inl ⟨_, rfl, by decide, ?_⟩⟩ ?_ | apply And.intro)
      all_goals first | exact vrl_flat _ (fcells_in _ _) | exact tpC_in _ _ _
    have d0 : decide ((x.length : Int) < (x.length : Int)) = false := decide_eq_false (by omega)
    by_cases hz : L.length = 0
    · obtain rfl : L = [] := List.length_eq_zero_iff.1 hz
      have vv : ∀ H : Heap, H 0 = some [] → Vw H [0] (.vec 0 0 3) (.list []) := fun H h => .vec 0 0 3 [] [] (by simp) h (by simp) (by simp) rfl rfl (by simp)
      (repeat' (first | (with_reducible first | refine thenQ_n ?_ | refine blockQ_n ?_ | refine thenQ_e ?_ | refine blockQ_t ?_ | refine blockQ_f (by decide) ?_) | apply aw_seq | apply aw_skip | apply aw_exit | apply aw_ret | apply aw_block | apply aw_condT rfl | apply aw_condF rfl | ((first | refine aw_hide fun K hK => aw_region ?_ | refine acall (c0) [0] ⟨vv _ rfl, .refl _, trivial⟩ (.inr (.tup _ (by simp))) (by simp only [List.mem_cons, List.not_mem_nil, or_false, forall_eq_or_imp, forall_eq]; first | exact ⟨_, rfl⟩ | exact ⟨⟨_, rfl⟩, ⟨_, rfl⟩⟩) (by kernel_rfl) ?_ | refine ago_if (by omega) ?_ | skip); simp (disch := first | exact okY | omega) only [List.length, Nat.zero_add, Nat.reduceMul, Nat.reduceAdd, dI, ARun_none, AOpRun, aexec, FSt.ev, St.F, eget_c, Nat.reduceBEq, ↓eget_h, cond_false, isSh, Bool.false_eq_true, ↓reduceIte, Option.map, abin, d0, AGo_ok, St.app, putO, eput_c, eput_n, hups, List.map, ARun_nil, dropE_c, inL_n, dropE_n, inL_c, beq_self_eq_true, cond_true]) | subst hK))
      refine end_q [0] [] ?_ ?_ <;> repeat' (first | exact trivial | exact vr_val _ | apply vr_tup | refine vr_fl _ _ _ _ _ (by decide) rfl ?_ ?_ ?_ ?_ | apply And.intro)
      all_goals first | exact fdL_three _ | exact fdL_len _ | exact fdL_flat _ | exact fcells_in _ _
    have c := c (by omega)
    have il := isrt_len _ L rfl
    (repeat' (first | (with_reducible first | refine thenQ_n ?_ | refine blockQ_n ?_ | refine thenQ_e ?_ | refine blockQ_t ?_ | refine blockQ_f (by decide) ?_) | apply aw_seq | apply aw_skip | apply aw_exit | apply aw_ret | apply aw_block | apply aw_condT rfl | apply aw_condF rfl | ((first | refine aw_hide fun K hK => aw_region ?_ | refine acallB (c) (by repeat' (first | exact trivial | exact rfl | refine And.intro ?_ ?_)) (by kernel_rfl) (by kernel_rfl) (by kernel_rfl) ?_ | refine ago_if (by omega) ?_ | skip); simp (disch := first | exact okY | omega) only [List.length, Nat.zero_add, Nat.reduceMul, Nat.reduceAdd, dI, ARun_none, AOpRun, aexec, FSt.ev, St.F, eget_c, Nat.reduceBEq, ↓eget_h, cond_false, isSh, Bool.false_eq_true, ↓reduceIte, Option.map, abin, d0, AGo_ok, St.app, putO, eput_c, eput_n, hups, List.map, ARun_nil, dropE_c, inL_n, dropE_n, hput_c, beq_self_eq_true, hput_n, cond_true, List.append_nil, inL_c]) | subst hK))
    refine end_q [0] [] ?_ ?_ <;> repeat' (first | exact trivial | exact vr_val _ | apply vr_tup | refine vr_fl _ _ _ _ _ (by decide) rfl ?_ ?_ ?_ ?_ | apply And.intro)
    all_goals first | exact fdL_three _ | exact (fdL_len _).trans il | (rw [List.take_of_length_le (by rw [fcells_len]; omega)]; exact fdL_flat _) | exact fdL_flat _ | exact fcells_in _ _
  have d0 : decide ((i : Int) < (x.length : Int)) = true := decide_eq_true (by omega)
  have ki : (i : Int) < (x.length : Int) := by omega
  have et := et i hi2
  have hS1 := hSl i
  have gd := gd i hi2
  have hA2 := hAl (i + 1)
  have nx : ∃ i', i' ≤ x.length ∧ x.length - i' < x.length - i ∧ i' = i + 1 := ⟨i + 1, by omega, by omega, rfl⟩
  obtain ⟨i', n1, n2, rfl⟩ := nx
  have eA : allL S (i + 1) = allL S i ++ fnd i (S i) := rfl
  unfold evD at et
  clear hSl hAl
  generalize hB : allL S (i + 1) = B at *
  generalize allL S i = A at *
  generalize evAt x i = ee at *
  have sl := sps_len (S i)
  have sa := sps_all (S i)
  have sg := fun k hk => sps_gd (S i) k hk
  have fk1 := fun k hk => fnd_take i (S i) k hk
  have fl1 := fun k => fnd_len i ((S i).take k)
  generalize S i = T at *
  (repeat' (first | (with_reducible first | refine thenQ_n ?_ | refine blockQ_n ?_ | refine thenQ_e ?_ | refine blockQ_t ?_ | refine blockQ_f (by decide) ?_) | apply aw_seq | apply aw_skip | apply aw_exit | apply aw_ret | apply aw_block | apply aw_condT rfl | apply aw_condF rfl | ((first | refine aw_hide fun K hK => aw_region ?_ | refine acallB (et) (by repeat' (first | exact trivial | exact rfl | refine And.intro ?_ ?_)) (by kernel_rfl) (by kernel_rfl) (by kernel_rfl) ?_ | refine ago_if (by omega) ?_ | skip); simp (disch := first | exact okY | omega) only [List.length, Nat.zero_add, Nat.reduceMul, Nat.reduceAdd, dI, ARun_none, AOpRun, aexec, FSt.ev, St.F, eget_c, Nat.reduceBEq, ↓eget_h, cond_false, isSh, Bool.false_eq_true, ↓reduceIte, Option.map, abin, ki, decide_true, AGo_ok, St.app, putO, eput_c, eput_n, hups, List.map, ARun_nil, dropE_c, inL_n, dropE_n, Int.natCast_nonneg, la, and_self, opt1, Int.toNat_natCast, gd, Nat.reduceLeDiff, List.take, Option.isSome, hget_c, hget_n, hput_c, hput_n, ↓hget_h, D.isBot, D.cells, List.all, D.leaf, Bool.and_true, splice, List.nil_append, List.drop, List.append_nil, beq_self_eq_true, cond_true, inL_c, run1, List.getElem?_cons_zero, sl]) | subst hK))
  refine aw_loop (fun k : Nat => ⟨[(6, .vec 40 (A ++ fnd i (T.take k)).length 3), (8, .ptr 152 0), (28, .list XX), (29, dI x.length), (30, dI i), (9, dI i), (37, .list (sps T)), (38, dI T.length), (39, dI k)], [(40, fcells (A ++ fnd i (T.take k))), (96, tpC l frs), (152, [.ptr 96 0])], 2400⟩) (fun k => k ≤ T.length) (fun k => T.length - k) ⟨0, by omega, ?_⟩ ?_
  · simp only [List.take_zero, show fnd i [] = [] from rfl, List.append_nil]
    unfold dI
    refine wk_q [] [(40, 40), (96, 96), (152, 152)] ?_ ?_ <;> repeat' (first | exact trivial | exact vr_val _ | exact vr_list _ | exact vr_vec _ _ _ _ rfl | exact vr_ptr _ _ _ rfl | refine And.intro ⟨_, rfl, .inl ⟨_, rfl, by decide, ?_⟩⟩ ?_ | apply And.intro)
    all_goals first | exact vrl_flat _ (fcells_in _ _) | exact tpC_in _ _ _
  intro k hk
  by_cases hk2 : k < T.length
  case neg =>
    obtain rfl : k = T.length := by omega
    have d1 : decide ((T.length : Int) < (T.length : Int)) = false := decide_eq_false (by omega)
    simp only [List.take_length]
    rw [← eA]
    (repeat' (first | (with_reducible first | refine thenQ_n ?_ | refine blockQ_n ?_ | refine thenQ_e ?_ | refine blockQ_t ?_ | refine blockQ_f (by decide) ?_) | apply aw_seq | apply aw_skip | apply aw_exit | apply aw_ret | apply aw_block | apply aw_condT rfl | apply aw_condF rfl | ((first | refine aw_hide fun K hK => aw_region ?_ | refine ago_if (by omega) ?_ | skip); simp (disch := first | exact okY | omega) only [List.length, Nat.zero_add, Nat.reduceMul, Nat.reduceAdd, dI, ARun_none, AOpRun, aexec, FSt.ev, St.F, eget_c, Nat.reduceBEq, ↓eget_h, cond_false, isSh, Bool.false_eq_true, ↓reduceIte, Option.map, abin, d1, AGo_ok, St.app, putO, eput_c, eput_n, hups, List.map, ARun_nil, dropE_c, inL_n, dropE_n, fits, beq_self_eq_true, cond_true, inL_c]) | subst hK))
    refine ⟨i + 1, n1, n2, ?_⟩
    simp only [hB]
    refine wk_q [] [(40, 40), (96, 96), (152, 152)] ?_ ?_ <;> repeat' (first | exact trivial | exact vr_val _ | exact vr_list _ | exact vr_vec _ _ _ _ rfl | exact vr_ptr _ _ _ rfl | refine And.intro ⟨_, rfl, .inl ⟨_, rfl, by decide, ?_⟩⟩ ?_ | apply And.intro)
    all_goals first | exact vrl_flat _ (fcells_in _ _) | exact tpC_in _ _ _
  have d1 : decide ((k : Int) < (T.length : Int)) = true := decide_eq_true (by omega)
  have kj : (k : Int) < (T.length : Int) := by omega
  have sg := sg k hk2
  have fk1 := fk1 k hk2
  have fl1 := fl1 k
  have hn : (A ++ fnd i (T.take k)).length ≤ 2000 := by rw [List.length_append, fl1]; simp; omega
  have e2 : A ++ fnd i (T.take (k + 1)) = (A ++ fnd i (T.take k)) ++ [((i : Int), lo T k, Go.Proofs.Ytdcodicoclecnaa.hi T k)] := by rw [fk1, List.append_assoc]
  have nx : ∃ k', k' ≤ T.length ∧ T.length - k' < T.length - k ∧ k' = k + 1 := ⟨k + 1, by omega, by omega, rfl⟩
  obtain ⟨k', m1, m2, rfl⟩ := nx
  have fcl := fcells_len (A ++ fnd i (T.take k))
  have fct : (fcells (A ++ fnd i (T.take k))).take ((A ++ fnd i (T.take k)).length * 3) = fcells (A ++ fnd i (T.take k)) := List.take_of_length_le (by omega)
  have fs := fcells_snoc (A ++ fnd i (T.take k)) i (lo T k) (Go.Proofs.Ytdcodicoclecnaa.hi T k)
  have fsl : ((A ++ fnd i (T.take k)) ++ [((i : Int), lo T k, Go.Proofs.Ytdcodicoclecnaa.hi T k)]).length = (A ++ fnd i (T.take k)).length + 1 := by rw [List.length_append]; rfl
  rw [← e2] at fs fsl
  have hin := fcells_in (A ++ fnd i (T.take (k + 1))) (fun _ => False)
  rw [fs] at hin
  clear fk1 fl1 e2 eA gd et
  generalize A ++ fnd i (T.take k) = W at *
  generalize lo T k = u at *
  generalize Go.Proofs.Ytdcodicoclecnaa.hi T k = v at *
  (repeat' (first | (with_reducible first | refine thenQ_n ?_ | refine blockQ_n ?_ | refine thenQ_e ?_ | refine blockQ_t ?_ | refine blockQ_f (by decide) ?_) | apply aw_seq | apply aw_skip | apply aw_exit | apply aw_ret | apply aw_block | apply aw_condT rfl | apply aw_condF rfl | ((first | refine aw_hide fun K hK => aw_region ?_ | refine ago_if (by omega) ?_ | skip); simp (disch := first | exact okY | omega) only [List.length, Nat.zero_add, Nat.reduceMul, Nat.reduceAdd, dI, ARun_none, AOpRun, aexec, FSt.ev, St.F, eget_c, Nat.reduceBEq, ↓eget_h, cond_false, isSh, Bool.false_eq_true, ↓reduceIte, Option.map, abin, kj, decide_true, AGo_ok, St.app, putO, eput_c, eput_n, hups, List.map, ARun_nil, dropE_c, inL_n, dropE_n, Int.natCast_nonneg, sa, and_self, opt1, Int.toNat_natCast, sg, Nat.le_refl, List.take, Option.isSome, hget_c, hget_n, hput_c, hput_n, ↓hget_h, D.isBot, D.cells, List.all, D.leaf, Bool.and_true, splice, List.nil_append, List.drop, List.append_nil, beq_self_eq_true, cond_true, inL_c, fillD, ne_eq, not_true_eq_false, Nat.reduceGT, or_self, List.cons_append, base, fcl, fct, elems, and_true, ups, hdel_c, hdel_n, fits]) | subst hK))
  refine ⟨k + 1, m1, m2, ?_⟩
  simp only [fs, fsl]
  refine wk_q [] [(40, 2480), (96, 96), (152, 152)] ?_ ?_ <;> repeat' (first | exact trivial | exact vr_val _ | exact vr_list _ | exact vr_vec _ _ _ _ rfl | exact vr_ptr _ _ _ rfl | refine And.intro ⟨_, rfl, .inl ⟨_, rfl, by decide, ?_⟩⟩ ?_ | apply And.intro | exact vrl_flat _ (by first | exact icells_in _ | exact rcells_in _ | exact scells_in _ | exact bcells_in _ | assumption) | fail)
  all_goals first | exact vrl_flat _ hin | exact tpC_in _ _ _
end Go.Proofs.Ytdcodicoclecnaa
/- The document of record: events (views last). No conditions. -/
namespace Go.Proofs.Ytdcodicoclecnaa
open Go Go.RowKit Lift

theorem lookR_step {l : Lay} {frs : List (List Int)} {c : Cd} {f : Fl} {j k : Nat} (h : ¬ (k : Int) ≤ j - f.every) : lookR l frs c f j (k + 1) = match smp l f (frm frs k) with
    | some v => cndV c f v
    | none => lookR l frs c f j k := by
  rw [lookR, if_neg h]
  cases smp l f (frm frs k) <;> rfl
set_option maxRecDepth 100000 in
set_option maxHeartbeats 8000000 in
theorem holding_ac (l : Lay) (frs : List (List Int)) (c : Cd) (j : Nat) (h1 : LayOk l) (h2 : frs.length ≤ 200) (hf : FrIn frs) (hc : cdB l c = true) (hj : j < frs.length) : AC Try.prog 50 [layD l, .list (rows frs), .agg (cdC c), dI j] [] [] (dB (holdJ l frs c (fOf l c) j)) := by
  refine kref12_Holding.ac (n0 := 0) (by simp) ⟨in_layD _ _, .list _, in_cd _ _, .val _, trivial⟩ trivial rfl ?_
  unfold cref12_Holding
  unfold cdB at hc
  rw [Bool.and_eq_true] at hc
  have c1 := wI_t hc.1
  have c2 := wI_t hc.2
  have nf := h1.nf
  obtain ⟨k, hk⟩ : ∃ k : Nat, c.field = k := ⟨c.field.toNat, by omega⟩
  have hkn : k < l.fl.length := by omega
  have hfo : fOf l c = fAt l k := by unfold fOf fAt; rw [hk, Int.toNat_natCast]
  rw [hfo]
  have g1 : (fls l.fl)[k]? = some (flC (fAt l k)) := fls_gd l.fl k hkn
  have ki : (k : Int) < (l.fl.length : Int) := by omega
  have fa := fls_all l.fl
  have fl := fls_len l.fl
  have hF := fAt_ok h1 hkn
  have rs := fun i => rsample_ac l (fAt l k) (frm frs i) h1.w1 hF (hf.m i)
  generalize fAt l k = f at *
  have ev : f.every = 1 ∨ f.every = 2 ∨ f.every = 4 := hF.ev
  have mb := mulB (a := c.lim) (b := f.den) (A := 1000000) (B := 1000) (by omega) (by omega) (by have := hF.d1; omega) hF.d2
  have e1 : IntKind.i64.wrap (c.lim * f.den) = c.lim * f.den := wrap_in (by omega) (by omega)
  have e2 : IntKind.i64.wrap ((j : Int) - f.every) = (j : Int) - f.every := wrap_in (by omega) (by omega)
  unfold layD layC flD flC cdC at *
  rw [hk]
  refine aw_seq (aw_region ?_)
  simp (disch := first | exact okY | omega) only [thenQ, List.map, dB, List.length, Nat.zero_add, Nat.reduceAdd, Nat.reduceMul, envOf, dI, ARun_none, AOpRun, aexec, D.isBot, FSt.ev, St.F, ↓eget_h, Bool.false_eq_true, Option.isSome, hget_n, or_self, ↓reduceIte, D.cells, AGo_ok, St.app, putO, eput_c, Nat.reduceBEq, eput_n, cond_false, hups, hput_n, eget_c, hget_c, hput_c, ARun_nil, dropE_c, inL_n, dropE_n]
  refine aw_seq (aw_region ?_)
  simp (disch := first | exact okY | omega) only [thenQ, List.length, Nat.zero_add, Nat.reduceAdd, Nat.reduceMul, ARun_none, AOpRun, aexec, FSt.ev, St.F, eget_c, Nat.reduceBEq, ↓eget_h, cond_false, AGo_ok, St.app, putO, eput_c, eput_n, hups, List.map, Option.map, run1, hget_c, beq_self_eq_true, hget_n, cond_true, List.getElem?_cons_succ, List.getElem?_cons_zero, ↓hget_h, Int.natCast_nonneg, fa, and_self, ↓reduceIte, opt1, Int.toNat_natCast, g1, dI, dB, Nat.reduceLeDiff, List.take, Option.isSome, Bool.false_eq_true, hput_c, hput_n, D.isBot, D.cells, List.all, D.leaf, Bool.and_true, splice, List.nil_append, List.drop, List.append_nil, ARun_nil, dropE_c, inL_c, inL_n, dropE_n]
  refine aw_seq (aw_seq (aw_region ?_))
  simp (disch := first | exact okY | omega) only [thenQ, List.length, Nat.zero_add, Nat.reduceAdd, Nat.reduceMul, ARun_none, AOpRun, aexec, FSt.ev, St.F, eget_c, Nat.reduceBEq, ↓eget_h, cond_false, AGo_ok, St.app, putO, eput_c, eput_n, hups, List.map, ARun_nil, dropE_c, inL_c, inL_n, beq_self_eq_true, cond_true, dropE_n]
  refine aw_block (aw_loop (fun i : Nat => ⟨[(1, .list (rows frs)), (3, dI j), (4, .ptr 0 0), (6, .ptr 8 0), (9, .ptr 16 0), (10, dI ((i : Int) - 1))], [(0, [dI l.words, dI l.s0, dI l.s1, dI l.s2, dI l.s3, .list (fls l.fl)]), (8, [dI k, dI c.lim, dB c.above]), (16, [dI f.word, dI f.bit, dI f.size, dB f.sgn, dI f.num, dI f.den, dI f.add, dI f.every, dI f.phase])], 400⟩) (fun i => i ≤ j + 1 ∧ lookR l frs c f j i = holdJ l frs c f j) (fun i => i) ⟨j + 1, ⟨by omega, rfl⟩, ?_⟩ ?_)
  · have e : ((j + 1 : Nat) : Int) - 1 = (j : Int) := by omega
    rw [e]
    unfold dI dB
    refine wk_q [] [(0, 0), (8, 8), (16, 72)] ?_ ?_ <;> repeat' (first | exact trivial | exact vr_val _ | exact vr_list _ | exact vr_ptr _ _ _ rfl | refine And.intro ⟨_, rfl, .inl ⟨_, rfl, by decide, ?_⟩⟩ ?_ | apply And.intro)
  rintro i ⟨hi, hlk⟩
  rw [← hlk]
  cases i with
  | zero =>
    have e : ((0 : Nat) : Int) - 1 = -1 := rfl
    rw [e]
    have q : decide ((-1 : Int) ≥ 0) = false := rfl
    show AWb _ _ _ _ _ _ _
    (repeat' (first | (with_reducible first | refine thenQ_n ?_ | refine blockQ_n ?_ | refine thenQ_e ?_ | refine blockQ_t ?_ | refine blockQ_f (by decide) ?_) | apply aw_seq | apply aw_skip | apply aw_exit | apply aw_ret | apply aw_block | apply aw_condT rfl | apply aw_condF rfl | ((first | refine aw_hide fun K hK => aw_region ?_ | refine ago_if (by omega) ?_ | skip); simp (disch := first | exact okY | omega) only [List.length, Nat.zero_add, Nat.reduceAdd, Nat.reduceMul, dI, Int.reduceNeg, dB, ARun_none, AOpRun, aexec, FSt.ev, St.F, eget_c, Nat.reduceBEq, ↓eget_h, cond_false, AGo_ok, St.app, putO, eput_c, eput_n, hups, List.map, isSh, Bool.false_eq_true, ↓reduceIte, Option.map, abin, q, ARun_some, AG_ft, ARun_nil, dropE_c, inL_c, inL_n, beq_self_eq_true, cond_true, dropE_n]) | subst hK))
    all_goals (refine end_q [] [] ?_ ?_ <;> repeat' (first | exact trivial | exact vr_val _))
  | succ i =>
  have e : ((i + 1 : Nat) : Int) - 1 = (i : Int) := by omega
  rw [e]
  by_cases hfar : (i : Int) ≤ j - f.every
  · have q : decide ((i : Int) > (j : Int) - f.every) = false := decide_eq_false (by omega)
    have q0 : decide ((i : Int) ≥ 0) = true := decide_eq_true (by omega)
    have ef : lookR l frs c f j (i + 1) = false := by rw [lookR, if_pos hfar]
    rw [ef]
    (repeat' (first | (with_reducible first | refine thenQ_n ?_ | refine blockQ_n ?_ | refine thenQ_e ?_ | refine blockQ_t ?_ | refine blockQ_f (by decide) ?_) | apply aw_seq | apply aw_skip | apply aw_exit | apply aw_ret | apply aw_block | apply aw_condT rfl | apply aw_condF rfl | ((first | refine aw_hide fun K hK => aw_region ?_ | refine ago_if (by omega) ?_ | skip); simp (disch := first | exact okY | omega) only [List.length, Nat.zero_add, Nat.reduceAdd, Nat.reduceMul, dI, dB, ARun_none, AOpRun, aexec, FSt.ev, St.F, eget_c, Nat.reduceBEq, ↓eget_h, cond_false, AGo_ok, St.app, putO, eput_c, eput_n, hups, List.map, isSh, Bool.false_eq_true, ↓reduceIte, Option.map, abin, Int.natCast_nonneg, decide_true, ARun_some, AG_tt, run1, hget_c, ↓hget_h, List.getElem?_cons_succ, List.getElem?_cons_zero, e2, q, ARun_nil, dropE_c, inL_c, inL_n, beq_self_eq_true, cond_true, dropE_n]) | subst hK))
    all_goals (refine end_q [] [] ?_ ?_ <;> repeat' (first | exact trivial | exact vr_val _))
  · have q : decide ((i : Int) > (j : Int) - f.every) = true := decide_eq_true (by omega)
    have q0 : decide ((i : Int) ≥ 0) = true := decide_eq_true (by omega)
    have g2 := rows_gd frs i (by omega)
    rw [show frs[i]?.getD [] = frm frs i from rfl] at g2
    have ii : (i : Int) < (frs.length : Int) := by omega
    have sf := rs i
    have hst := lookR_step (l := l) (frs := frs) (c := c) hfar
    cases hs : smp l f (frm frs i) with
    | some v =>
      rw [hs] at sf hst
      simp only [Option.getD_some, Option.isSome_some] at sf hst
      rw [hst]
      unfold cndV
      cases ha : c.above with
      | true =>
        rw [if_pos rfl]
        cases q3 : decide (v ≥ c.lim * f.den)
        all_goals
          (repeat' (first | (with_reducible first | refine thenQ_n ?_ | refine blockQ_n ?_ | refine thenQ_e ?_ | refine blockQ_t ?_ | refine blockQ_f (by decide) ?_) | apply aw_seq | apply aw_skip | apply aw_exit | apply aw_ret | apply aw_block | apply aw_condT rfl | apply aw_condF rfl | ((first | refine aw_hide fun K hK => aw_region ?_ | refine acall0 (sf) ?_ | refine ago_if (by omega) ?_ | skip); simp (disch := first | exact okY | omega) only [List.length, Nat.zero_add, Nat.reduceAdd, Nat.reduceMul, dI, dB, ARun_none, AOpRun, aexec, FSt.ev, St.F, eget_c, Nat.reduceBEq, ↓eget_h, cond_false, AGo_ok, St.app, putO, eput_c, eput_n, hups, List.map, isSh, Bool.false_eq_true, ↓reduceIte, Option.map, abin, Int.natCast_nonneg, decide_true, ARun_some, AG_tt, run1, hget_c, ↓hget_h, List.getElem?_cons_succ, List.getElem?_cons_zero, e2, q, ARun_nil, dropE_c, inL_c, inL_n, beq_self_eq_true, cond_true, dropE_n, hget_n, Nat.reduceLeDiff, List.drop, List.take, rows_all, and_self, opt1, Int.toNat_natCast, g2, e1, q3, AG_ff, Bool.not_true, AG_ft, blockQ, thenQ, AG_tf, AG_un]) | subst hK))
          all_goals (refine end_q [] [] ?_ ?_ <;> repeat' (first | exact trivial | exact vr_val _))
      | false =>
        rw [if_neg (by simp)]
        cases q3 : decide (v ≤ c.lim * f.den)
        all_goals
          (repeat' (first | (with_reducible first | refine thenQ_n ?_ | refine blockQ_n ?_ | refine thenQ_e ?_ | refine blockQ_t ?_ | refine blockQ_f (by decide) ?_) | apply aw_seq | apply aw_skip | apply aw_exit | apply aw_ret | apply aw_block | apply aw_condT rfl | apply aw_condF rfl | ((first | refine aw_hide fun K hK => aw_region ?_ | refine acall0 (sf) ?_ | refine ago_if (by omega) ?_ | skip); simp (disch := first | exact okY | omega) only [List.length, Nat.zero_add, Nat.reduceAdd, Nat.reduceMul, dI, dB, ARun_none, AOpRun, aexec, FSt.ev, St.F, eget_c, Nat.reduceBEq, ↓eget_h, cond_false, AGo_ok, St.app, putO, eput_c, eput_n, hups, List.map, isSh, Bool.false_eq_true, ↓reduceIte, Option.map, abin, Int.natCast_nonneg, decide_true, ARun_some, AG_tt, run1, hget_c, ↓hget_h, List.getElem?_cons_succ, List.getElem?_cons_zero, e2, q, ARun_nil, dropE_c, inL_c, inL_n, beq_self_eq_true, cond_true, dropE_n, hget_n, Nat.reduceLeDiff, List.drop, List.take, rows_all, and_self, opt1, Int.toNat_natCast, g2, AG_ft, AG_ff, Bool.not_false, e1, q3, blockQ, thenQ]) | subst hK))
          all_goals (refine end_q [] [] ?_ ?_ <;> repeat' (first | exact trivial | exact vr_val _))
    | none =>
      rw [hs] at sf hst
      simp only [Option.getD_none, Option.isSome_none] at sf hst
      (repeat' (first | (with_reducible first | refine thenQ_n ?_ | refine blockQ_n ?_ | refine thenQ_e ?_ | refine blockQ_t ?_ | refine blockQ_f (by decide) ?_) | apply aw_seq | apply aw_skip | apply aw_exit | apply aw_ret | apply aw_block | apply aw_condT rfl | apply aw_condF rfl | ((first | refine aw_hide fun K hK => aw_region ?_ | refine acall0 (sf) ?_ | refine ago_if (by omega) ?_ | skip); simp (disch := first | exact okY | omega) only [List.length, Nat.zero_add, Nat.reduceAdd, Nat.reduceMul, dI, dB, ARun_none, AOpRun, aexec, FSt.ev, St.F, eget_c, Nat.reduceBEq, ↓eget_h, cond_false, AGo_ok, St.app, putO, eput_c, eput_n, hups, List.map, isSh, Bool.false_eq_true, ↓reduceIte, Option.map, abin, Int.natCast_nonneg, decide_true, ARun_some, AG_tt, run1, hget_c, ↓hget_h, List.getElem?_cons_succ, List.getElem?_cons_zero, e2, q, ARun_nil, dropE_c, inL_c, inL_n, beq_self_eq_true, cond_true, dropE_n, hget_n, Nat.reduceLeDiff, List.drop, List.take, rows_all, and_self, opt1, Int.toNat_natCast, g2, fits]) | subst hK))
      refine ⟨i, ⟨by omega, by rw [← hst, hlk]⟩, by omega, ?_⟩
      refine wk_q [] [(0, 0), (8, 8), (16, 16)] ?_ ?_ <;> repeat' (first | exact trivial | exact vr_val _ | exact vr_list _ | exact vr_ptr _ _ _ rfl | refine And.intro ⟨_, rfl, .inl ⟨_, rfl, by decide, ?_⟩⟩ ?_ | apply And.intro)
end Go.Proofs.Ytdcodicoclecnaa
/- The document of record: all events (views last). No conditions. -/
namespace Go.Proofs.Ytdcodicoclecnaa
open Go Go.RowKit Lift

theorem bg_bd (is : Nat → Bool) (H : Int) (i : Nat) : -1 ≤ bgK is H i ∧ bgK is H i ≤ i := by
  have := evK_bd is H i
  unfold bgK
  split <;> omega
theorem isJ_all {l : Lay} {frs : List (List Int)} {cs : List Cd} {j : Nat} (h : j < frs.length) : isJ l frs cs j = allK l frs cs cs.length j := by
  rw [← aF_end]; unfold aF; rw [decide_eq_true h, Bool.true_and]
set_option maxRecDepth 100000 in
set_option maxHeartbeats 16000000 in
theorem revents_ac (l : Lay) (frs : List (List Int)) (cs : List Cd) (h : Int) (h1 : LayOk l) (h2 : frs.length ≤ 200) (hf : FrIn frs) (hc : evB l cs h = true) : AC Try.prog 95 [layD l, .list (rows frs), evD cs h] [] [] (.list (sps (evK (isJ l frs cs) h (frs.length + 1)).2)) := by
  refine kref12_events.ac (n0 := 0) (by simp) ⟨in_layD _ _, .list _, in_ev _ _ _, trivial⟩ trivial rfl ?_
  unfold evB at hc
  rw [Bool.and_eq_true, Bool.and_eq_true] at hc
  obtain ⟨⟨hc1, hc2⟩, hc3⟩ := hc
  have hcl := wI_t hc1
  have hh := wI_t hc3
  have hho : ∀ c j, cdB l c = true → j < frs.length → _ := fun c j hcb hj => holding_ac l frs c j h1 h2 hf hcb hj
  have hend := isJ_end l frs cs
  have hall : ∀ j, j < frs.length → isJ l frs cs j = allK l frs cs cs.length j := fun j hj => isJ_all hj
  unfold cref12_events
  unfold layD layC evD at *
  refine aw_seq (aw_region ?_)
  simp (disch := first | exact okY | omega) only [thenQ, List.map, Int.reduceNeg, List.length, Nat.zero_add, Nat.reduceAdd, Nat.reduceMul, envOf, dI, ARun_none, AOpRun, aexec, D.isBot, FSt.ev, St.F, ↓eget_h, Bool.false_eq_true, Option.isSome, hget_n, or_self, ↓reduceIte, D.cells, AGo_ok, St.app, putO, eput_c, Nat.reduceBEq, eput_n, cond_false, hups, hput_n, eget_c, hget_c, hput_c, ARun_nil, dropE_c, inL_n, dropE_n]
  refine aw_seq (aw_region ?_)
  simp (disch := first | exact okY | omega) only [thenQ, Int.reduceNeg, List.length, Nat.zero_add, Nat.reduceMul, Nat.reduceAdd, ARun_none, AOpRun, aexec, FSt.ev, AGo_ok, St.app, putO, eput_c, Nat.reduceBEq, eput_n, cond_false, hups, List.map, ARun_nil, dropE_c, inL_n, dropE_n]
  refine aw_seq (aw_region ?_)
  simp (disch := first | exact okY | omega) only [thenQ, Int.reduceNeg, List.length, Nat.zero_add, Nat.reduceMul, Nat.reduceAdd, ARun_none, AOpRun, aexec, FSt.ev, AGo_ok, St.app, putO, eput_c, Nat.reduceBEq, eput_n, cond_false, hups, List.map, ARun_nil, dropE_c, inL_n, dropE_n]
  refine aw_seq (aw_seq (aw_region ?_))
  simp (disch := first | exact okY | omega) only [thenQ, Int.reduceNeg, List.length, Nat.zero_add, Nat.reduceMul, Nat.reduceAdd, ARun_none, AOpRun, aexec, FSt.ev, AGo_ok, St.app, putO, eput_c, Nat.reduceBEq, eput_n, cond_false, hups, List.map, ARun_nil, dropE_c, inL_n, dropE_n]
  have hbd := evK_bd (isJ l frs cs) h
  have hbg := bg_bd (isJ l frs cs) h
  refine aw_block (aw_loop (fun i : Nat => ⟨[(1, .list (rows frs)), (3, .ptr 0 0), (5, .ptr 8 0), (7, .vec 24 (evK (isJ l frs cs) h i).2.length 2), (8, dI (bgK (isJ l frs cs) h i)), (9, dI i)], [(0, [dI l.words, dI l.s0, dI l.s1, dI l.s2, dI l.s3, .list (fls l.fl)]), (8, [.list (cds cs), dI h]), (24, scells (evK (isJ l frs cs) h i).2)], 400⟩) (fun i => i ≤ frs.length + 1) (fun i => frs.length + 1 - i) ⟨0, by omega, ?_⟩ ?_)
  · show Wk _ _ ⟨[_, _, _, (7, .vec 24 0 2), (8, dI (-1)), _], [_, _, (24, [])], _⟩
    unfold dI
    refine wk_q [] [(0, 0), (8, 8), (24, 900)] ?_ ?_ <;> repeat' (first | exact trivial | exact vr_val _ | exact vr_list _ | exact vr_ptr _ _ _ rfl | exact vr_nilv _ _ _ rfl | refine And.intro ⟨_, rfl, .inl ⟨_, rfl, by decide, ?_⟩⟩ ?_ | refine And.intro ⟨_, rfl, .inr ⟨rfl, rfl, of_decide_eq_true (by kernel_rfl)⟩⟩ ?_ | apply And.intro)
  intro i hi
  have hb := hbd i
  by_cases hi2 : i ≤ frs.length
  case neg =>
    obtain rfl : i = frs.length + 1 := by omega
    have q : decide (((frs.length + 1 : Nat) : Int) ≤ (frs.length : Int)) = false := decide_eq_false (by omega)
    generalize (evK (isJ l frs cs) h (frs.length + 1)).2 = L at *
    (repeat' (first | (with_reducible first | refine thenQ_n ?_ | refine blockQ_n ?_ | refine thenQ_e ?_ | refine blockQ_t ?_ | refine blockQ_f (by decide) ?_) | apply aw_seq | apply aw_skip | apply aw_exit | apply aw_ret | apply aw_block | apply aw_condT rfl | apply aw_condF rfl | ((first | refine aw_hide fun K hK => aw_region ?_ | refine ago_if (by omega) ?_ | skip); simp (disch := first | exact okY | omega) only [List.length, Nat.zero_add, Nat.reduceAdd, Nat.reduceMul, dI, ARun_none, AOpRun, aexec, FSt.ev, St.F, eget_c, Nat.reduceBEq, ↓eget_h, cond_false, AGo_ok, St.app, putO, eput_c, eput_n, hups, List.map, rows_len, isSh, Bool.false_eq_true, ↓reduceIte, Option.map, abin, q, ARun_nil, dropE_c, inL_c, inL_n, beq_self_eq_true, cond_true, dropE_n]) | subst hK))
    refine end_q [24] [] ?_ ?_ <;> repeat' (first | exact trivial | refine vr_fl _ _ _ _ _ (by decide) rfl ?_ ?_ ?_ ?_)
    all_goals first | exact sps_two _ | exact sps_len _ | exact sps_flat _ | exact scells_in _
  have q : decide ((i : Int) ≤ (frs.length : Int)) = true := decide_eq_true (by omega)
  refine aw_seq (aw_seq (aw_region ?_))
  simp (disch := first | exact okY | omega) only [thenQ, Int.reduceNeg, dI, List.length, Nat.zero_add, Nat.reduceAdd, Nat.reduceMul, ARun_none, AOpRun, aexec, FSt.ev, St.F, eget_c, Nat.reduceBEq, ↓eget_h, cond_false, AGo_ok, St.app, putO, eput_c, eput_n, hups, List.map, rows_len, isSh, Bool.false_eq_true, ↓reduceIte, Option.map, abin, q, ARun_nil, dropE_c, inL_c, inL_n, beq_self_eq_true, cond_true, dropE_n]
  refine aw_condT rfl (aw_skip ?_)
  refine aw_seq (aw_block ?_)
  -- whether all conditions hold
  refine aw_cut ⟨[(1, .list (rows frs)), (3, .ptr 0 0), (5, .ptr 8 0), (7, .vec 24 (evK (isJ l frs cs) h i).2.length 2), (8, dI (bgK (isJ l frs cs) h i)), (9, dI i), (10, dB (decide (i < frs.length)))], [(0, [dI l.words, dI l.s0, dI l.s1, dI l.s2, dI l.s3, .list (fls l.fl)]), (8, [.list (cds cs), dI h]), (24, scells (evK (isJ l frs cs) h i).2)], 600⟩ ?_ ?_
  · have q2 : decide ((i : Int) < (frs.length : Int)) = decide (i < frs.length) := decide_eq_decide.2 (by omega)
    refine aw_region ?_
    simp (disch := first | exact okY | omega) only [thenQ, List.length, Nat.zero_add, Nat.reduceAdd, Nat.reduceMul, dI, dB, ARun_none, AOpRun, aexec, FSt.ev, St.F, eget_c, Nat.reduceBEq, ↓eget_h, cond_false, AGo_ok, St.app, putO, eput_c, eput_n, hups, List.map, rows_len, isSh, Bool.false_eq_true, ↓reduceIte, Option.map, abin, q2, ARun_nil, dropE_c, inL_c, inL_n, beq_self_eq_true, cond_true, dropE_n]
    refine wk_q [] [(0, 0), (8, 8), (24, 24)] ?_ ?_ <;> repeat' (first | exact trivial | exact vr_val _ | exact vr_list _ | exact vr_vec _ _ _ _ rfl | exact vr_ptr _ _ _ rfl | refine And.intro ⟨_, rfl, .inl ⟨_, rfl, by decide, ?_⟩⟩ ?_ | apply And.intro | exact vrl_flat _ (by first | exact icells_in _ | exact rcells_in _ | exact scells_in _ | exact bcells_in _ | assumption) | fail)
  refine aw_cut ⟨[(1, .list (rows frs)), (3, .ptr 0 0), (5, .ptr 8 0), (7, .vec 24 (evK (isJ l frs cs) h i).2.length 2), (8, dI (bgK (isJ l frs cs) h i)), (9, dI i), (10, dB (isJ l frs cs i))], [(0, [dI l.words, dI l.s0, dI l.s1, dI l.s2, dI l.s3, .list (fls l.fl)]), (8, [.list (cds cs), dI h]), (24, scells (evK (isJ l frs cs) h i).2)], 1000⟩ ?_ ?_
  · by_cases hin : i < frs.length
    case neg =>
      obtain rfl : i = frs.length := by omega
      rw [hend, decide_eq_false (Nat.lt_irrefl _)]
      generalize evK (isJ l frs cs) h frs.length = P at *
      refine aw_seq (aw_region ?_)
      simp (disch := first | exact okY | omega) only [thenQ, dI, dB, List.length, Nat.zero_add, Nat.reduceMul, Nat.reduceAdd, ARun_none, AOpRun, aexec, FSt.ev, AGo_ok, St.app, putO, eput_c, Nat.reduceBEq, eput_n, cond_false, hups, List.map, ARun_nil, dropE_c, inL_n, dropE_n]
      refine aw_block (aw_loop (fun _ : Unit => ⟨[(1, .list (rows frs)), (3, .ptr 0 0), (5, .ptr 8 0), (7, .vec 24 P.2.length 2), (8, dI (bgK (isJ l frs cs) h frs.length)), (9, dI frs.length), (10, dB false), (11, dI 0)], [(0, [dI l.words, dI l.s0, dI l.s1, dI l.s2, dI l.s3, .list (fls l.fl)]), (8, [.list (cds cs), dI h]), (24, scells P.2)], 700⟩) (fun _ => True) (fun _ => 0) ⟨(), trivial, ?_⟩ ?_)
      · unfold dI dB
        refine wk_q [] [(0, 0), (8, 8), (24, 24)] ?_ ?_ <;> repeat' (first | exact trivial | exact vr_val _ | exact vr_list _ | exact vr_vec _ _ _ _ rfl | exact vr_ptr _ _ _ rfl | refine And.intro ⟨_, rfl, .inl ⟨_, rfl, by decide, ?_⟩⟩ ?_ | apply And.intro | exact vrl_flat _ (by first | exact icells_in _ | exact rcells_in _ | exact scells_in _ | exact bcells_in _ | assumption) | fail)
      rintro _ _
      have q3 : decide ((0 : Int) < (cs.length : Int)) = true := decide_eq_true (by omega)
      (repeat' (first | (with_reducible first | refine thenQ_n ?_ | refine blockQ_n ?_ | refine thenQ_e ?_ | refine blockQ_t ?_ | refine blockQ_f (by decide) ?_) | apply aw_seq | apply aw_skip | apply aw_exit | apply aw_ret | apply aw_block | apply aw_condT rfl | apply aw_condF rfl | ((first | refine aw_hide fun K hK => aw_region ?_ | refine ago_if (by omega) ?_ | skip); simp (disch := first | exact okY | omega) only [List.length, Nat.zero_add, Nat.reduceAdd, Nat.reduceMul, dI, dB, ARun_none, AOpRun, aexec, FSt.ev, St.F, eget_c, Nat.reduceBEq, ↓eget_h, cond_false, AGo_ok, St.app, putO, eput_c, eput_n, hups, List.map, Option.map, run1, hget_c, ↓hget_h, List.getElem?_cons_zero, cds_len, isSh, Bool.false_eq_true, ↓reduceIte, abin, q3, ARun_some, AG_tt, ARun_nil, dropE_c, inL_c, inL_n, beq_self_eq_true, cond_true, dropE_n]) | subst hK))
      refine wk_q [] [(0, 0), (8, 8), (24, 24)] ?_ ?_ <;> repeat' (first | exact trivial | exact vr_val _ | exact vr_list _ | exact vr_vec _ _ _ _ rfl | exact vr_ptr _ _ _ rfl | refine And.intro ⟨_, rfl, .inl ⟨_, rfl, by decide, ?_⟩⟩ ?_ | apply And.intro | exact vrl_flat _ (by first | exact icells_in _ | exact rcells_in _ | exact scells_in _ | exact bcells_in _ | assumption) | fail)
    rw [hall i hin, decide_eq_true hin]
    generalize (evK (isJ l frs cs) h i).2 = P at *
    generalize bgK (isJ l frs cs) h i = G at *
    refine aw_seq (aw_region ?_)
    simp (disch := first | exact okY | omega) only [thenQ, dI, dB, List.length, Nat.zero_add, Nat.reduceMul, Nat.reduceAdd, ARun_none, AOpRun, aexec, FSt.ev, AGo_ok, St.app, putO, eput_c, Nat.reduceBEq, eput_n, cond_false, hups, List.map, ARun_nil, dropE_c, inL_n, dropE_n]
    refine aw_block (aw_loop (fun k : Nat => ⟨[(1, .list (rows frs)), (3, .ptr 0 0), (5, .ptr 8 0), (7, .vec 24 P.length 2), (8, dI G), (9, dI i), (10, dB (allK l frs cs k i)), (11, dI k)], [(0, [dI l.words, dI l.s0, dI l.s1, dI l.s2, dI l.s3, .list (fls l.fl)]), (8, [.list (cds cs), dI h]), (24, scells P)], 700⟩) (fun k => k ≤ cs.length) (fun k => cs.length - k) ⟨0, by omega, ?_⟩ ?_)
    · have e : allK l frs cs 0 i = true := by simp [allK]
      rw [e]
      unfold dI dB
      refine wk_q [] [(0, 0), (8, 8), (24, 24)] ?_ ?_ <;> repeat' (first | exact trivial | exact vr_val _ | exact vr_list _ | exact vr_vec _ _ _ _ rfl | exact vr_ptr _ _ _ rfl | refine And.intro ⟨_, rfl, .inl ⟨_, rfl, by decide, ?_⟩⟩ ?_ | apply And.intro | exact vrl_flat _ (by first | exact icells_in _ | exact rcells_in _ | exact scells_in _ | exact bcells_in _ | assumption) | fail)
    intro k hk
    by_cases hk2 : k < cs.length
    case neg =>
      obtain rfl : k = cs.length := by omega
      have q3 : decide ((cs.length : Int) < (cs.length : Int)) = false := decide_eq_false (by omega)
      (repeat' (first | (with_reducible first | refine thenQ_n ?_ | refine blockQ_n ?_ | refine thenQ_e ?_ | refine blockQ_t ?_ | refine blockQ_f (by decide) ?_) | apply aw_seq | apply aw_skip | apply aw_exit | apply aw_ret | apply aw_block | apply aw_condT rfl | apply aw_condF rfl | ((first | refine aw_hide fun K hK => aw_region ?_ | refine ago_if (by omega) ?_ | skip); simp (disch := first | exact okY | omega) only [List.length, Nat.zero_add, Nat.reduceAdd, Nat.reduceMul, dI, dB, ARun_none, AOpRun, aexec, FSt.ev, St.F, eget_c, Nat.reduceBEq, ↓eget_h, cond_false, AGo_ok, St.app, putO, eput_c, eput_n, hups, List.map, Option.map, run1, hget_c, ↓hget_h, List.getElem?_cons_zero, cds_len, isSh, Bool.false_eq_true, ↓reduceIte, abin, q3, ARun_some, AG_ft, ARun_nil, dropE_c, inL_c, inL_n, beq_self_eq_true, cond_true, dropE_n]) | subst hK))
      refine wk_q [] [(0, 0), (8, 8), (24, 24)] ?_ ?_ <;> repeat' (first | exact trivial | exact vr_val _ | exact vr_list _ | exact vr_vec _ _ _ _ rfl | exact vr_ptr _ _ _ rfl | refine And.intro ⟨_, rfl, .inl ⟨_, rfl, by decide, ?_⟩⟩ ?_ | apply And.intro | exact vrl_flat _ (by first | exact icells_in _ | exact rcells_in _ | exact scells_in _ | exact bcells_in _ | assumption) | fail)
    have q3 : decide ((k : Int) < (cs.length : Int)) = true := decide_eq_true (by omega)
    have hak := allK_succ (l := l) (frs := frs) hk2 i
    have hfalse : allK l frs cs k i = false → allK l frs cs cs.length i = false := fun hF => by
      unfold allK at hF ⊢
      rw [List.take_of_length_le (Nat.le_refl _)]
      rw [List.all_eq_false] at hF ⊢
      obtain ⟨x, hx, h⟩ := hF
      exact ⟨x, List.mem_of_mem_take hx, h⟩
    cases ha : allK l frs cs k i with
    | false =>
      rw [hfalse ha]
      (repeat' (first | (with_reducible first | refine thenQ_n ?_ | refine blockQ_n ?_ | refine thenQ_e ?_ | refine blockQ_t ?_ | refine blockQ_f (by decide) ?_) | apply aw_seq | apply aw_skip | apply aw_exit | apply aw_ret | apply aw_block | apply aw_condT rfl | apply aw_condF rfl | ((first | refine aw_hide fun K hK => aw_region ?_ | refine ago_if (by omega) ?_ | skip); simp (disch := first | exact okY | omega) only [List.length, Nat.zero_add, Nat.reduceAdd, Nat.reduceMul, dI, dB, ARun_none, AOpRun, aexec, FSt.ev, St.F, eget_c, Nat.reduceBEq, ↓eget_h, cond_false, AGo_ok, St.app, putO, eput_c, eput_n, hups, List.map, Option.map, run1, hget_c, ↓hget_h, List.getElem?_cons_zero, cds_len, isSh, Bool.false_eq_true, ↓reduceIte, abin, q3, ARun_some, AG_tt, ARun_nil, dropE_c, inL_c, inL_n, beq_self_eq_true, cond_true, dropE_n]) | subst hK))
      refine wk_q [] [(0, 0), (8, 8), (24, 24)] ?_ ?_ <;> repeat' (first | exact trivial | exact vr_val _ | exact vr_list _ | exact vr_vec _ _ _ _ rfl | exact vr_ptr _ _ _ rfl | refine And.intro ⟨_, rfl, .inl ⟨_, rfl, by decide, ?_⟩⟩ ?_ | apply And.intro | exact vrl_flat _ (by first | exact icells_in _ | exact rcells_in _ | exact scells_in _ | exact bcells_in _ | assumption) | fail)
    | true =>
      rw [ha, Bool.true_and] at hak
      have g1 := cds_gd cs k hk2
      have hcb : cdB l (cs[k]?.getD cd0) = true := by
        rw [List.getElem?_eq_getElem hk2]
        exact List.all_eq_true.1 hc2 _ (List.getElem_mem hk2)
      have ht := hho _ i hcb hin
      have ki : (k : Int) < (cs.length : Int) := by omega
      rw [← hak] at ht
      unfold cdC at g1 ht
      (repeat' (first | (with_reducible first | refine thenQ_n ?_ | refine blockQ_n ?_ | refine thenQ_e ?_ | refine blockQ_t ?_ | refine blockQ_f (by decide) ?_) | apply aw_seq | apply aw_skip | apply aw_exit | apply aw_ret | apply aw_block | apply aw_condT rfl | apply aw_condF rfl | ((first | refine aw_hide fun K hK => aw_region ?_ | refine acall0 (ht) ?_ | refine ago_if (by omega) ?_ | skip); simp (disch := first | exact okY | omega) only [List.length, Nat.zero_add, Nat.reduceAdd, Nat.reduceMul, dI, dB, ARun_none, AOpRun, aexec, FSt.ev, St.F, eget_c, Nat.reduceBEq, ↓eget_h, cond_false, AGo_ok, St.app, putO, eput_c, eput_n, hups, List.map, Option.map, run1, hget_c, ↓hget_h, List.getElem?_cons_zero, cds_len, isSh, Bool.false_eq_true, ↓reduceIte, abin, ki, decide_true, ARun_some, AG_tt, ARun_nil, dropE_c, inL_c, inL_n, beq_self_eq_true, cond_true, dropE_n, hget_n, Nat.reduceLeDiff, List.drop, List.take, Int.natCast_nonneg, cds_all, and_self, opt1, Int.toNat_natCast, g1, fits]) | subst hK))
      refine ⟨k + 1, by omega, by omega, ?_⟩
      refine wk_q [] [(0, 0), (8, 8), (24, 24)] ?_ ?_ <;> repeat' (first | exact trivial | exact vr_val _ | exact vr_list _ | exact vr_vec _ _ _ _ rfl | exact vr_ptr _ _ _ rfl | refine And.intro ⟨_, rfl, .inl ⟨_, rfl, by decide, ?_⟩⟩ ?_ | apply And.intro | exact vrl_flat _ (by first | exact icells_in _ | exact rcells_in _ | exact scells_in _ | exact bcells_in _ | assumption) | fail)
  -- the stretch
  have hg := hbg i
  have bi := bg_in (isJ l frs cs) h i
  have bo := bg_out (isJ l frs cs) h i
  have ei := ev_in (isJ l frs cs) h i
  have eo := ev_outB (isJ l frs cs) h hh.1 i
  cases hv : isJ l frs cs i with
  | true =>
    have a1 := bi hv
    have a2 := ei hv
    by_cases hg0 : bgK (isJ l frs cs) h i < 0
    · have q4 : decide (bgK (isJ l frs cs) h i < 0) = true := decide_eq_true hg0
      rw [if_pos hg0] at a1
      (repeat' (first | (with_reducible first | refine thenQ_n ?_ | refine blockQ_n ?_ | refine thenQ_e ?_ | refine blockQ_t ?_ | refine blockQ_f (by decide) ?_) | apply aw_seq | apply aw_skip | apply aw_exit | apply aw_ret | apply aw_block | apply aw_condT rfl | apply aw_condF rfl | ((first | refine aw_hide fun K hK => aw_region ?_ | refine ago_if (by omega) ?_ | skip); simp (disch := first | exact okY | omega) only [List.length, Nat.zero_add, Nat.reduceAdd, Nat.reduceMul, dI, dB, ARun_none, AOpRun, aexec, FSt.ev, St.F, eget_c, Nat.reduceBEq, ↓eget_h, cond_false, AGo_ok, St.app, putO, eput_c, eput_n, hups, List.map, ARun_some, AG_tt, isSh, Bool.false_eq_true, ↓reduceIte, Option.map, abin, q4, ARun_nil, dropE_c, inL_c, inL_n, beq_self_eq_true, cond_true, dropE_n, Bool.not_true, AG_ft, fits]) | subst hK))
      refine ⟨i + 1, by omega, by omega, ?_⟩
      rw [a1, a2]
      refine wk_q [] [(0, 0), (8, 8), (24, 24)] ?_ ?_ <;> repeat' (first | exact trivial | exact vr_val _ | exact vr_list _ | exact vr_vec _ _ _ _ rfl | exact vr_ptr _ _ _ rfl | refine And.intro ⟨_, rfl, .inl ⟨_, rfl, by decide, ?_⟩⟩ ?_ | apply And.intro | exact vrl_flat _ (by first | exact icells_in _ | exact rcells_in _ | exact scells_in _ | exact bcells_in _ | assumption) | fail)
    · have q4 : decide (bgK (isJ l frs cs) h i < 0) = false := decide_eq_false hg0
      rw [if_neg hg0] at a1
      (repeat' (first | (with_reducible first | refine thenQ_n ?_ | refine blockQ_n ?_ | refine thenQ_e ?_ | refine blockQ_t ?_ | refine blockQ_f (by decide) ?_) | apply aw_seq | apply aw_skip | apply aw_exit | apply aw_ret | apply aw_block | apply aw_condT rfl | apply aw_condF rfl | ((first | refine aw_hide fun K hK => aw_region ?_ | refine ago_if (by omega) ?_ | skip); simp (disch := first | exact okY | omega) only [List.length, Nat.zero_add, Nat.reduceAdd, Nat.reduceMul, dI, dB, ARun_none, AOpRun, aexec, FSt.ev, St.F, eget_c, Nat.reduceBEq, ↓eget_h, cond_false, AGo_ok, St.app, putO, eput_c, eput_n, hups, List.map, ARun_some, AG_tt, isSh, Bool.false_eq_true, ↓reduceIte, Option.map, abin, q4, ARun_nil, dropE_c, inL_c, inL_n, beq_self_eq_true, cond_true, dropE_n, Bool.not_true, AG_ft, fits]) | subst hK))
      refine ⟨i + 1, by omega, by omega, ?_⟩
      rw [a1, a2]
      refine wk_q [] [(0, 0), (8, 8), (24, 24)] ?_ ?_ <;> repeat' (first | exact trivial | exact vr_val _ | exact vr_list _ | exact vr_vec _ _ _ _ rfl | exact vr_ptr _ _ _ rfl | refine And.intro ⟨_, rfl, .inl ⟨_, rfl, by decide, ?_⟩⟩ ?_ | apply And.intro | exact vrl_flat _ (by first | exact icells_in _ | exact rcells_in _ | exact scells_in _ | exact bcells_in _ | assumption) | fail)
  | false =>
    have a1 := bo hv
    have a2 := eo hv
    generalize bgK (isJ l frs cs) h i = G at *
    generalize (evK (isJ l frs cs) h i).2 = L at *
    by_cases hg0 : G ≥ 0
    case neg =>
      have q4 : decide (G ≥ 0) = false := decide_eq_false hg0
      rw [if_neg (fun k => hg0 k.1)] at a2
      obtain rfl : G = -1 := by omega
      (repeat' (first | (with_reducible first | refine thenQ_n ?_ | refine blockQ_n ?_ | refine thenQ_e ?_ | refine blockQ_t ?_ | refine blockQ_f (by decide) ?_) | apply aw_seq | apply aw_skip | apply aw_exit | apply aw_ret | apply aw_block | apply aw_condT rfl | apply aw_condF rfl | ((first | refine aw_hide fun K hK => aw_region ?_ | refine ago_if (by omega) ?_ | skip); simp (disch := first | exact okY | omega) only [List.length, Nat.zero_add, Nat.reduceAdd, Nat.reduceMul, dI, Int.reduceNeg, dB, ARun_none, AOpRun, aexec, FSt.ev, St.F, eget_c, Nat.reduceBEq, ↓eget_h, cond_false, AGo_ok, St.app, putO, eput_c, eput_n, hups, List.map, ARun_some, AG_ft, Bool.false_eq_true, ↓reduceIte, ARun_nil, dropE_c, inL_c, inL_n, beq_self_eq_true, cond_true, dropE_n, Bool.not_false, AG_tt, isSh, Option.map, abin, q4, fits]) | subst hK))
      refine ⟨i + 1, by omega, by omega, ?_⟩
      rw [a1, a2]
      refine wk_q [] [(0, 0), (8, 8), (24, 24)] ?_ ?_ <;> repeat' (first | exact trivial | exact vr_val _ | exact vr_list _ | exact vr_vec _ _ _ _ rfl | exact vr_ptr _ _ _ rfl | refine And.intro ⟨_, rfl, .inl ⟨_, rfl, by decide, ?_⟩⟩ ?_ | apply And.intro | exact vrl_flat _ (by first | exact icells_in _ | exact rcells_in _ | exact scells_in _ | exact bcells_in _ | assumption) | fail)
    have q4 : decide (G ≥ 0) = true := decide_eq_true hg0
    have e1 : IntKind.i64.wrap ((i : Int) - G) = (i : Int) - G := wrap_in (by omega) (by omega)
    have e2 : IntKind.i64.wrap ((i : Int) - 1) = (i : Int) - 1 := wrap_in (by omega) (by omega)
    by_cases hge : (i : Int) - G ≥ h
    · have q1 : decide ((i : Int) - G ≥ h) = true := decide_eq_true hge
      rw [if_pos ⟨hg0, hge⟩] at a2
      have hic : (scells L).length = L.length * 2 := scells_len _
      have hit : (scells L).take (L.length * 2) = scells L := sc_all L
      have hcin : ∀ y ∈ scells L ++ [.val (.int .i64 G), .val (.int .i64 ((i : Int) - 1))], In (fun _ => False) y := by rw [sc_snoc L (G, (i : Int) - 1)]; exact scells_in _
      have hlen : (L ++ [(G, (i : Int) - 1)]).length = L.length + 1 := by simp
      (repeat' (first | (with_reducible first | refine thenQ_n ?_ | refine blockQ_n ?_ | refine thenQ_e ?_ | refine blockQ_t ?_ | refine blockQ_f (by decide) ?_) | apply aw_seq | apply aw_skip | apply aw_exit | apply aw_ret | apply aw_block | apply aw_condT rfl | apply aw_condF rfl | ((first | refine aw_hide fun K hK => aw_region ?_ | refine ago_if (by omega) ?_ | skip); simp (disch := first | exact okY | omega) only [List.length, Nat.zero_add, Nat.reduceAdd, Nat.reduceMul, dI, dB, ARun_none, AOpRun, aexec, FSt.ev, St.F, eget_c, Nat.reduceBEq, ↓eget_h, cond_false, AGo_ok, St.app, putO, eput_c, eput_n, hups, List.map, ARun_some, AG_ft, Bool.false_eq_true, ↓reduceIte, ARun_nil, dropE_c, inL_c, inL_n, beq_self_eq_true, cond_true, dropE_n, Bool.not_false, AG_tt, isSh, Option.map, abin, q4, e1, run1, hget_c, ↓hget_h, List.getElem?_cons_succ, List.getElem?_cons_zero, q1, e2, fillD, D.isBot, D.cells, ne_eq, not_true_eq_false, Nat.reduceGT, or_self, splice, List.take, List.nil_append, List.drop, List.cons_append, List.append_nil, Option.isSome, hget_n, hput_c, hput_n, base, hic, Nat.le_refl, and_self, hit, elems, List.all, D.leaf, Bool.and_true, and_true, ups, hdel_c, hdel_n, Int.reduceNeg, fits]) | subst hK))
      refine ⟨i + 1, by omega, by omega, ?_⟩
      rw [a1, a2, hlen, ← sc_snoc L (G, (i : Int) - 1)]
      refine wk_q [] [(0, 0), (8, 8), (24, 1184)] ?_ ?_ <;> repeat' (first | exact trivial | exact vr_val _ | exact vr_list _ | exact vr_vec _ _ _ _ rfl | exact vr_ptr _ _ _ rfl | refine And.intro ⟨_, rfl, .inl ⟨_, rfl, by decide, ?_⟩⟩ ?_ | apply And.intro | exact vrl_flat _ (by first | exact icells_in _ | exact rcells_in _ | exact scells_in _ | exact bcells_in _ | assumption) | fail)
    · have q1 : decide ((i : Int) - G ≥ h) = false := decide_eq_false hge
      rw [if_neg (fun k => hge k.2)] at a2
      (repeat' (first | (with_reducible first | refine thenQ_n ?_ | refine blockQ_n ?_ | refine thenQ_e ?_ | refine blockQ_t ?_ | refine blockQ_f (by decide) ?_) | apply aw_seq | apply aw_skip | apply aw_exit | apply aw_ret | apply aw_block | apply aw_condT rfl | apply aw_condF rfl | ((first | refine aw_hide fun K hK => aw_region ?_ | refine ago_if (by omega) ?_ | skip); simp (disch := first | exact okY | omega) only [List.length, Nat.zero_add, Nat.reduceAdd, Nat.reduceMul, dI, dB, ARun_none, AOpRun, aexec, FSt.ev, St.F, eget_c, Nat.reduceBEq, ↓eget_h, cond_false, AGo_ok, St.app, putO, eput_c, eput_n, hups, List.map, ARun_some, AG_ft, Bool.false_eq_true, ↓reduceIte, ARun_nil, dropE_c, inL_c, inL_n, beq_self_eq_true, cond_true, dropE_n, Bool.not_false, AG_tt, isSh, Option.map, abin, q4, e1, run1, hget_c, ↓hget_h, List.getElem?_cons_succ, List.getElem?_cons_zero, q1, Int.reduceNeg, fits]) | subst hK))
      refine ⟨i + 1, by omega, by omega, ?_⟩
      rw [a1, a2]
      refine wk_q [] [(0, 0), (8, 8), (24, 24)] ?_ ?_ <;> repeat' (first | exact trivial | exact vr_val _ | exact vr_list _ | exact vr_vec _ _ _ _ rfl | exact vr_ptr _ _ _ rfl | refine And.intro ⟨_, rfl, .inl ⟨_, rfl, by decide, ?_⟩⟩ ?_ | apply And.intro | exact vrl_flat _ (by first | exact icells_in _ | exact rcells_in _ | exact scells_in _ | exact bcells_in _ | assumption) | fail)
end Go.Proofs.Ytdcodicoclecnaa
