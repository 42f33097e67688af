/- Texts of the law RecordAll, part 9. No conditions. -/
import Derived.Test.YtdcodicoclecnaaPRecordAll08
set_option linter.unusedSimpArgs false
set_option linter.unusedVariables false
/- Sorting: rotations, and what compares (views last). No conditions. -/
namespace Go.Proofs.Ytdcodicoclecnaa
open Go.RowKit Lift

structure RotS where
  L : List Fd
  A : List Fd
  B : List Fd
  R : List Fd
def rotL (q : RotS) : List Fd := q.L ++ (q.A ++ (q.B ++ q.R))
def rotT (q : RotS) : List Fd := q.L ++ (q.B ++ (q.A ++ q.R))
set_option maxRecDepth 100000 in
set_option maxHeartbeats 4000000 in
theorem rotate_ac (P A B S : List Fd) (N : Nat) (a m b : Int) (hN : N = P.length + A.length + B.length + S.length) (hN2 : N ≤ 1000000) (hA : 0 < A.length) (hB : 0 < B.length) (ha : a = P.length) (hm : m = P.length + A.length) (hb : b = P.length + A.length + B.length) :
    AC Try.prog 160 [.vec 0 N 3, dI a, dI m, dI b, .fn 108 [] []] [(0, fcells (P ++ (A ++ (B ++ S))))] [(0, some (fcells (P ++ (B ++ (A ++ S)))))] (.tup []) := by
  refine kslices_rotateCmpFunc_Lapi_Found_J.ac (n0 := 8) (by simp) ⟨.vec _ _ _ (by omega), .val _, .val _, .val _, .fn _ _ _ (by simp) (by simp), trivial⟩ ⟨⟨by omega, fcells_in _ _⟩, trivial⟩ (okUp_f (by simp; omega)) ?_
  unfold cslices_rotateCmpFunc_Lapi_Found_J
  show AWb _ _ _ _ _ (endQ _ _ [(0, some (fcells (rotT ⟨P, A, B, S⟩)))] _) _
  generalize hT : rotT ⟨P, A, B, S⟩ = T
  refine aw_seq (aw_region ?_)
  simp (disch := first | exact okY | omega) only [thenQ, List.map, List.length, Nat.zero_add, Nat.reduceAdd, Nat.reduceMul, envOf, dI, ARun_none, AOpRun, aexec, FSt.ev, St.F, eget_c, Nat.reduceBEq, ↓eget_h, cond_false, AGo_ok, St.app, putO, eput_c, eput_n, hups, isSh, Bool.false_eq_true, ↓reduceIte, Option.map, abin, fits, ARun_nil, dropE_c, inL_c, inL_n, beq_self_eq_true, cond_true, dropE_n]
  refine aw_seq (aw_region ?_)
  simp (disch := first | exact okY | omega) only [thenQ, List.length, Nat.zero_add, Nat.reduceAdd, Nat.reduceMul, ARun_none, AOpRun, aexec, FSt.ev, St.F, eget_c, Nat.reduceBEq, ↓eget_h, cond_false, AGo_ok, St.app, putO, eput_c, eput_n, hups, List.map, isSh, Bool.false_eq_true, ↓reduceIte, Option.map, abin, fits, ARun_nil, dropE_c, inL_c, inL_n, beq_self_eq_true, cond_true, dropE_n]
  refine aw_seq (aw_block (aw_loop (fun q : RotS => ⟨[(0, .vec 0 N 3), (2, dI m), (4, .fn 108 [] []), (10, dI q.A.length), (11, dI q.B.length)], [(0, fcells (rotL q))], 100⟩) (fun q => 0 < q.A.length ∧ 0 < q.B.length ∧ m = q.L.length + q.A.length ∧ N = q.L.length + q.A.length + q.B.length + q.R.length ∧ rotT q = T) (fun q => q.A.length + q.B.length) ⟨⟨P, A, B, S⟩, ⟨hA, hB, hm, hN, hT⟩, ?_⟩ ?_))
  · unfold dI
    have e1 : m - a = A.length := by omega
    have e2 : b - m = B.length := by omega
    rw [e1, e2]
    refine wk_q [] [(0, 0)] ?_ ?_ <;> repeat' (first | exact trivial | exact vr_val _ | exact vr_vec _ _ _ _ rfl | apply vr_fn | refine And.intro ⟨_, rfl, .inl ⟨_, rfl, by decide, ?_⟩⟩ ?_ | apply And.intro)
    all_goals exact vrl_flat _ (fcells_in _ _)
  clear hN hA hB hm hb ha hT
  rintro ⟨L, A, B, R⟩ ⟨hA, hB, hm, hN, hT⟩
  simp only at hA hB hm hN
  obtain ⟨i, hi⟩ : ∃ i : Int, i = A.length := ⟨_, rfl⟩
  obtain ⟨j, hj⟩ : ∃ j : Int, j = B.length := ⟨_, rfl⟩
  simp only
  rw [← hi, ← hj]
  unfold rotL rotT at *
  simp only at hT ⊢
  have hi0 : 0 < i ∧ i ≤ 1000000 := by omega
  have hj0 : 0 < j ∧ j ≤ 1000000 := by omega
  have hm0 : 0 ≤ m ∧ m ≤ 1000000 := by omega
  by_cases hij : i = j
  · have c := swapR_ac L A [] B R (by omega) N (m - i) m i (by simp; omega) hN2 (by omega) (by omega) (by simp; omega) hi
    simp only [List.nil_append] at c
    have q : (i != j) = false := by simpa using hij
    rw [hT] at c
    (repeat' (first | (with_reducible first | refine thenQ_n ?_ | refine blockQ_n ?_ | refine thenQ_e ?_ | refine blockQ_t ?_ | refine blockQ_f (by decide) ?_) | apply aw_seq | apply aw_skip | apply aw_exit | apply aw_ret | apply aw_block | apply aw_condT rfl | apply aw_condF rfl | ((first | refine aw_hide fun K hK => aw_region ?_ | refine acallB (c) (by repeat' (first | exact trivial | exact rfl | refine And.intro ?_ ?_)) (by kernel_rfl) (by kernel_rfl) (by kernel_rfl) ?_ | refine ago_if (by omega) ?_ | skip); simp (disch := first | exact okY | omega) only [List.length, Nat.zero_add, Nat.reduceAdd, Nat.reduceMul, dI, ARun_none, AOpRun, aexec, FSt.ev, St.F, eget_c, Nat.reduceBEq, ↓eget_h, cond_false, AGo_ok, St.app, putO, eput_c, eput_n, hups, List.map, isSh, Bool.false_eq_true, ↓reduceIte, Option.map, abin, q, ARun_nil, dropE_c, inL_c, inL_n, beq_self_eq_true, cond_true, dropE_n, fits, hput_c, hput_n, List.append_nil]) | subst hK))
    all_goals (refine end_q [] [(0, 0)] ?_ ?_ <;> repeat' (first | exact trivial | apply vr_tup | refine And.intro ⟨_, rfl, _, rfl, by decide, ?_⟩ ?_))
    all_goals exact vrl_flat _ (fcells_in _ _)
  have q : (i != j) = true := by simpa using hij
  by_cases hgt : i > j
  · have q2 : decide (i > j) = true := decide_eq_true hgt
    obtain ⟨A1, A2, rfl, h1⟩ : ∃ A1 A2, A = A1 ++ A2 ∧ A1.length = B.length := ⟨A.take B.length, A.drop B.length, (List.take_append_drop _ _).symm, by simp; omega⟩
    rw [List.length_append] at hi hA hN hm
    have c := swapR_ac L A1 A2 B R h1 N (m - i) m j (by omega) hN2 (by omega) (by omega) (by omega) (by omega)
    simp only [List.append_assoc] at hT ⊢
    (repeat' (first | (with_reducible first | refine thenQ_n ?_ | refine blockQ_n ?_ | refine thenQ_e ?_ | refine blockQ_t ?_ | refine blockQ_f (by decide) ?_) | apply aw_seq | apply aw_skip | apply aw_exit | apply aw_ret | apply aw_block | apply aw_condT rfl | apply aw_condF rfl | ((first | refine aw_hide fun K hK => aw_region ?_ | refine acallB (c) (by repeat' (first | exact trivial | exact rfl | refine And.intro ?_ ?_)) (by kernel_rfl) (by kernel_rfl) (by kernel_rfl) ?_ | refine ago_if (by omega) ?_ | skip); simp (disch := first | exact okY | omega) only [List.length, Nat.zero_add, Nat.reduceAdd, Nat.reduceMul, dI, ARun_none, AOpRun, aexec, FSt.ev, St.F, eget_c, Nat.reduceBEq, ↓eget_h, cond_false, AGo_ok, St.app, putO, eput_c, eput_n, hups, List.map, isSh, Bool.false_eq_true, ↓reduceIte, Option.map, abin, q, ARun_nil, dropE_c, inL_c, inL_n, beq_self_eq_true, cond_true, dropE_n, q2, fits, hput_c, hput_n, List.append_nil]) | subst hK))
    refine ⟨⟨L ++ B, A2, A1, R⟩, ⟨by simp only; omega, by simp only; omega, by simp only [List.length_append]; omega, by simp only [List.length_append]; omega, by simp only [List.append_assoc]; exact hT⟩, by simp only [List.length_append]; omega, ?_⟩
    have e1 : (A2.length : Int) = i - j := by omega
    have e2 : (A1.length : Int) = j := by omega
    simp only [List.append_assoc]
    rw [e1, e2]
    refine wk_q [] [(0, 0)] ?_ ?_ <;> repeat' (first | exact trivial | exact vr_val _ | exact vr_vec _ _ _ _ rfl | apply vr_fn | refine And.intro ⟨_, rfl, .inl ⟨_, rfl, by decide, ?_⟩⟩ ?_ | apply And.intro)
    all_goals exact vrl_flat _ (fcells_in _ _)
  · have q2 : decide (i > j) = false := decide_eq_false hgt
    obtain ⟨B1, B2, rfl, h1⟩ : ∃ B1 B2, B = B1 ++ B2 ∧ B2.length = A.length := ⟨B.take (B.length - A.length), B.drop (B.length - A.length), (List.take_append_drop _ _).symm, by simp; omega⟩
    rw [List.length_append] at hj hB hN
    have c := swapR_ac L A B1 B2 R h1.symm N (m - i) (m + j - i) i (by omega) hN2 (by omega) (by omega) (by omega) (by omega)
    simp only [List.append_assoc] at hT ⊢
    (repeat' (first | (with_reducible first | refine thenQ_n ?_ | refine blockQ_n ?_ | refine thenQ_e ?_ | refine blockQ_t ?_ | refine blockQ_f (by decide) ?_) | apply aw_seq | apply aw_skip | apply aw_exit | apply aw_ret | apply aw_block | apply aw_condT rfl | apply aw_condF rfl | ((first | refine aw_hide fun K hK => aw_region ?_ | refine acallB (c) (by repeat' (first | exact trivial | exact rfl | refine And.intro ?_ ?_)) (by kernel_rfl) (by kernel_rfl) (by kernel_rfl) ?_ | refine ago_if (by omega) ?_ | skip); simp (disch := first | exact okY | omega) only [List.length, Nat.zero_add, Nat.reduceAdd, Nat.reduceMul, dI, ARun_none, AOpRun, aexec, FSt.ev, St.F, eget_c, Nat.reduceBEq, ↓eget_h, cond_false, AGo_ok, St.app, putO, eput_c, eput_n, hups, List.map, isSh, Bool.false_eq_true, ↓reduceIte, Option.map, abin, q, ARun_nil, dropE_c, inL_c, inL_n, beq_self_eq_true, cond_true, dropE_n, q2, fits, hput_c, hput_n, List.append_nil]) | subst hK))
    refine ⟨⟨L, B2, B1, A ++ R⟩, ⟨by simp only; omega, by simp only; omega, by simp only; omega, by simp only [List.length_append]; omega, by simp only [List.append_assoc]; exact hT⟩, by simp only [List.length_append]; omega, ?_⟩
    have e1 : (B2.length : Int) = i := by omega
    have e2 : (B1.length : Int) = j - i := by omega
    simp only
    rw [e1, e2]
    refine wk_q [] [(0, 0)] ?_ ?_ <;> repeat' (first | exact trivial | exact vr_val _ | exact vr_vec _ _ _ _ rfl | apply vr_fn | refine And.intro ⟨_, rfl, .inl ⟨_, rfl, by decide, ?_⟩⟩ ?_ | apply And.intro)
    all_goals exact vrl_flat _ (fcells_in _ _)
def cpF (x y : Fd) : Int := if fk x < fk y then -1 else if fk y < fk x then 1 else 0
set_option maxRecDepth 100000 in
set_option maxHeartbeats 1000000 in
theorem nan_ac (x : Int) : AC Try.prog 143 [dI x] [] [] (dB false) := by
  refine kcmp_isNaN_Lint_J.ac (n0 := 0) (by simp) ⟨.val _, trivial⟩ trivial rfl ?_
  unfold ccmp_isNaN_Lint_J
  have q : (x != x) = false := by simp
  (repeat' (first | (with_reducible first | refine thenQ_n ?_ | refine blockQ_n ?_ | refine thenQ_e ?_ | refine blockQ_t ?_ | refine blockQ_f (by decide) ?_) | apply aw_seq | apply aw_skip | apply aw_exit | apply aw_ret | apply aw_block | apply aw_condT rfl | apply aw_condF rfl | ((first | refine aw_hide fun K hK => aw_region ?_ | refine ago_if (by omega) ?_ | skip); simp (disch := first | exact okY | omega) only [List.length, Nat.zero_add, Nat.reduceMul, envOf, dI, ARun_none, AOpRun, aexec, FSt.ev, AGo_ok, St.app, putO, eput_c, Nat.reduceBEq, eput_n, cond_false, hups, List.map, ARun_nil, dropE_c, inL_n, dropE_n, Nat.reduceAdd, St.F, ↓eget_h, eget_c, isSh, Bool.false_eq_true, ↓reduceIte, Option.map, abin, bne_self_eq_false, beq_self_eq_true, cond_true, inL_c, dB]) | subst hK))
  all_goals (refine end_q [] [] ?_ ?_ <;> repeat' (first | exact trivial | exact vr_val _))
set_option maxRecDepth 100000 in
set_option maxHeartbeats 1000000 in
theorem compare_ac (x y : Int) : AC Try.prog 109 [dI x, dI y] [] [] (dI (if x < y then -1 else if y < x then 1 else 0)) := by
  refine kcmp_Compare_Lint_J.ac (n0 := 0) (by simp) ⟨.val _, .val _, trivial⟩ trivial rfl ?_
  unfold ccmp_Compare_Lint_J
  have c1 := nan_ac x
  have c2 := nan_ac y
  by_cases h1 : x < y
  · rw [if_pos h1]
    have q1 : decide (x < y) = true := decide_eq_true h1
    (repeat' (first | (with_reducible first | refine thenQ_n ?_ | refine blockQ_n ?_ | refine thenQ_e ?_ | refine blockQ_t ?_ | refine blockQ_f (by decide) ?_) | apply aw_seq | apply aw_skip | apply aw_exit | apply aw_ret | apply aw_block | apply aw_condT rfl | apply aw_condF rfl | ((first | refine aw_hide fun K hK => aw_region ?_ | refine acall0 (c1) ?_ | refine acall0 (c2) ?_ | refine ago_if (by omega) ?_ | skip); simp (disch := first | exact okY | omega) only [List.length, Nat.zero_add, Nat.reduceMul, envOf, dI, ARun_none, AOpRun, aexec, FSt.ev, AGo_ok, St.app, putO, eput_c, Nat.reduceBEq, eput_n, cond_false, hups, List.map, ARun_nil, dropE_c, inL_n, dropE_n, Nat.reduceAdd, St.F, ↓eget_h, eget_c, dB, inL_c, beq_self_eq_true, cond_true, isSh, Bool.false_eq_true, ↓reduceIte, Option.map, abin, q1, Int.reduceNeg, thenQ]) | subst hK))
    all_goals (refine end_q [] [] ?_ ?_ <;> repeat' (first | exact trivial | exact vr_val _))
  rw [if_neg h1]
  have q1 : decide (x < y) = false := decide_eq_false h1
  by_cases h2 : y < x
  · rw [if_pos h2]
    have q2 : decide (x > y) = true := decide_eq_true h2
    (repeat' (first | (with_reducible first | refine thenQ_n ?_ | refine blockQ_n ?_ | refine thenQ_e ?_ | refine blockQ_t ?_ | refine blockQ_f (by decide) ?_) | apply aw_seq | apply aw_skip | apply aw_exit | apply aw_ret | apply aw_block | apply aw_condT rfl | apply aw_condF rfl | ((first | refine aw_hide fun K hK => aw_region ?_ | refine acall0 (c1) ?_ | refine acall0 (c2) ?_ | refine ago_if (by omega) ?_ | skip); simp (disch := first | exact okY | omega) only [List.length, Nat.zero_add, Nat.reduceMul, envOf, dI, ARun_none, AOpRun, aexec, FSt.ev, AGo_ok, St.app, putO, eput_c, Nat.reduceBEq, eput_n, cond_false, hups, List.map, ARun_nil, dropE_c, inL_n, dropE_n, Nat.reduceAdd, St.F, ↓eget_h, eget_c, dB, inL_c, beq_self_eq_true, cond_true, isSh, Bool.false_eq_true, ↓reduceIte, Option.map, abin, q1, q2, thenQ]) | subst hK))
    all_goals (refine end_q [] [] ?_ ?_ <;> repeat' (first | exact trivial | exact vr_val _))
  · rw [if_neg h2]
    have q2 : decide (x > y) = false := decide_eq_false h2
    (repeat' (first | (with_reducible first | refine thenQ_n ?_ | refine blockQ_n ?_ | refine thenQ_e ?_ | refine blockQ_t ?_ | refine blockQ_f (by decide) ?_) | apply aw_seq | apply aw_skip | apply aw_exit | apply aw_ret | apply aw_block | apply aw_condT rfl | apply aw_condF rfl | ((first | refine aw_hide fun K hK => aw_region ?_ | refine acall0 (c1) ?_ | refine acall0 (c2) ?_ | refine ago_if (by omega) ?_ | skip); simp (disch := first | exact okY | omega) only [List.length, Nat.zero_add, Nat.reduceMul, envOf, dI, ARun_none, AOpRun, aexec, FSt.ev, AGo_ok, St.app, putO, eput_c, Nat.reduceBEq, eput_n, cond_false, hups, List.map, ARun_nil, dropE_c, inL_n, dropE_n, Nat.reduceAdd, St.F, ↓eget_h, eget_c, dB, inL_c, beq_self_eq_true, cond_true, isSh, Bool.false_eq_true, ↓reduceIte, Option.map, abin, q1, q2]) | subst hK))
    all_goals (refine end_q [] [] ?_ ?_ <;> repeat' (first | exact trivial | exact vr_val _))
theorem fc_in (S : Nat → Prop) (x : Fd) : ∀ d ∈ fc x, In S d := fun d hd => by
  simp only [fc, List.mem_cons, List.not_mem_nil, or_false] at hd
  rcases hd with rfl | rfl | rfl <;> exact .val _
set_option maxRecDepth 100000 in
set_option maxHeartbeats 1000000 in
theorem cmpF_ac (x y : Fd) : AC Try.prog 108 [.agg (fc x), .agg (fc y)] [] [] (dI (cpF x y)) := by
  refine krecord_All_S2.ac (n0 := 0) (by simp) ⟨.agg _ (fc_in _ _), .agg _ (fc_in _ _), trivial⟩ trivial rfl ?_
  unfold crecord_All_S2
  have c := compare_ac (fk x) (fk y)
  unfold fc cpF fk at *
  (repeat' (first | (with_reducible first | refine thenQ_n ?_ | refine blockQ_n ?_ | refine thenQ_e ?_ | refine blockQ_t ?_ | refine blockQ_f (by decide) ?_) | apply aw_seq | apply aw_skip | apply aw_exit | apply aw_ret | apply aw_block | apply aw_condT rfl | apply aw_condF rfl | ((first | refine aw_hide fun K hK => aw_region ?_ | refine acall0 (c) ?_ | refine ago_if (by omega) ?_ | skip); simp (disch := first | exact okY | omega) only [List.length, Nat.zero_add, Nat.reduceAdd, Nat.reduceMul, envOf, dI, ARun_none, AOpRun, aexec, D.isBot, FSt.ev, St.F, ↓eget_h, Bool.false_eq_true, Option.isSome, hget_n, or_self, ↓reduceIte, D.cells, AGo_ok, St.app, putO, eput_c, Nat.reduceBEq, eput_n, cond_false, hups, hput_n, List.map, eget_c, hget_c, hput_c, ARun_nil, dropE_c, inL_n, dropE_n, Option.map, run1, beq_self_eq_true, cond_true, List.getElem?_cons_succ, List.getElem?_cons_zero, ↓hget_h, Int.reduceNeg, inL_c]) | subst hK))
  all_goals (refine end_q [] [] ?_ ?_ <;> repeat' (first | exact trivial | exact vr_val _))
theorem cpF_lt (x y : Fd) : decide (cpF x y < 0) = decide (fk x < fk y) := by
  unfold cpF
  by_cases h : fk x < fk y
  · rw [if_pos h]; simp [h]
  · rw [if_neg h]
    by_cases h2 : fk y < fk x
    · rw [if_pos h2]; simp [h]
    · rw [if_neg h2]; simp [h]
end Go.Proofs.Ytdcodicoclecnaa
/- Sorting: by insertion (views last). No conditions. -/
namespace Go.Proofs.Ytdcodicoclecnaa
open Go.RowKit Lift

set_option maxRecDepth 100000 in
set_option maxHeartbeats 8000000 in
theorem insort_ac (P L S : List Fd) (N : Nat) (a b : Int) (hN : N = P.length + L.length + S.length) (hN2 : N ≤ 1000000) (hN0 : 0 < N) (ha : a = P.length) (hb : b = P.length + L.length) :
    AC Try.prog 156 [.vec 0 N 3, dI a, dI b, .fn 108 [] []] [(0, fcells (P ++ (L ++ S)))] [(0, some (fcells (P ++ (isrt L ++ S))))] (.tup []) := by
  refine kslices_insertionSortCmpFunc_Lapi_Found_J.ac (n0 := 8) (by simp) ⟨.vec _ _ _ (by omega), .val _, .val _, .fn _ _ _ (by simp) (by simp), trivial⟩ ⟨⟨by omega, fcells_in _ _⟩, trivial⟩ (okUp_f (by simp; omega)) ?_
  unfold cslices_insertionSortCmpFunc_Lapi_Found_J
  have h1 : isrt (L.take 1) ++ (L.drop 1 ++ S) = L ++ S := by
    cases L with
    | nil => rfl
    | cons x l => rfl
  have hend : isrt L ++ S = isrt L ++ (L.drop L.length ++ S) := by simp
  refine aw_seq (aw_region ?_)
  simp (disch := first | exact okY | omega) only [thenQ, List.map, List.length, Nat.zero_add, Nat.reduceAdd, Nat.reduceMul, envOf, dI, ARun_none, AOpRun, aexec, FSt.ev, St.F, eget_c, Nat.reduceBEq, ↓eget_h, cond_false, AGo_ok, St.app, putO, eput_c, eput_n, hups, isSh, Bool.false_eq_true, ↓reduceIte, Option.map, abin, fits, ARun_nil, dropE_c, inL_c, inL_n, beq_self_eq_true, cond_true, dropE_n]
  refine aw_block (aw_loop (fun k : Nat => ⟨[(0, .vec 0 N 3), (1, dI a), (2, dI b), (3, .fn 108 [] []), (8, dI (a + k))], [(0, fcells (P ++ (isrt (L.take k) ++ (L.drop k ++ S))))], 100⟩) (fun k => 1 ≤ k ∧ (k ≤ L.length ∨ k = 1)) (fun k => L.length + 1 - k) ⟨1, ⟨by omega, by omega⟩, ?_⟩ ?_)
  · rw [h1]
    unfold dI
    refine wk_q [] [(0, 0)] ?_ ?_ <;> repeat' (first | exact trivial | exact vr_val _ | exact vr_vec _ _ _ _ rfl | apply vr_fn | refine And.intro ⟨_, rfl, .inl ⟨_, rfl, by decide, ?_⟩⟩ ?_ | apply And.intro)
    all_goals exact vrl_flat _ (fcells_in _ _)
  clear h1
  intro k ⟨hk1, hk2⟩
  by_cases hkl : k < L.length
  case neg =>
    have q : decide (a + (k : Int) < b) = false := decide_eq_false (by omega)
    have e : isrt (L.take k) ++ (L.drop k ++ S) = isrt L ++ S := by
      rw [List.take_of_length_le (by omega), List.drop_eq_nil_of_le (by omega)]; rfl
    rw [e]
    (repeat' (first | (with_reducible first | refine thenQ_n ?_ | refine blockQ_n ?_ | refine thenQ_e ?_ | refine blockQ_t ?_ | refine blockQ_f (by decide) ?_) | apply aw_seq | apply aw_skip | apply aw_exit | apply aw_ret | apply aw_block | apply aw_condT rfl | apply aw_condF rfl | ((first | refine aw_hide fun K hK => aw_region ?_ | refine ago_if (by omega) ?_ | skip); simp (disch := first | exact okY | omega) only [List.length, Nat.zero_add, Nat.reduceAdd, Nat.reduceMul, dI, ARun_none, AOpRun, aexec, FSt.ev, St.F, eget_c, Nat.reduceBEq, ↓eget_h, cond_false, AGo_ok, St.app, putO, eput_c, eput_n, hups, List.map, isSh, Bool.false_eq_true, ↓reduceIte, Option.map, abin, q, ARun_nil, dropE_c, inL_c, inL_n, beq_self_eq_true, cond_true, dropE_n]) | subst hK))
    all_goals (refine end_q [] [(0, 0)] ?_ ?_ <;> repeat' (first | exact trivial | apply vr_tup | refine And.intro ⟨_, rfl, _, rfl, by decide, ?_⟩ ?_))
    all_goals exact vrl_flat _ (fcells_in _ _)
  have q : decide (a + (k : Int) < b) = true := decide_eq_true (by omega)
  have e1 : L.drop k = L[k] :: L.drop (k + 1) := List.drop_eq_getElem_cons hkl
  have e2 : isrt (L.take (k + 1)) = insS L[k] (isrt (L.take k)) := by rw [← isrt_snoc, List.take_append_getElem hkl]
  have e3 : L.drop (k + 1) ++ S = L.drop (k + 1) ++ S := rfl
  have hSl : (isrt (L.take k)).length = k := by rw [isrt_len _ _ rfl]; simp; omega
  have hSS : Srt (isrt (L.take k)) := isrt_srt _ _ rfl
  have nxt : ∃ j, (1 ≤ j ∧ (j ≤ L.length ∨ j = 1)) ∧ L.length + 1 - j < L.length + 1 - k ∧ j = k + 1 := ⟨k + 1, ⟨by omega, by omega⟩, by omega, rfl⟩
  obtain ⟨k', k1, k2, rfl⟩ := nxt
  have hRl : (L.drop (k + 1) ++ S).length = L.length - (k + 1) + S.length := by simp
  rw [e1]
  generalize hX : L[k] = x at *
  generalize hR : L.drop (k + 1) ++ S = R at *
  generalize hS0 : isrt (L.take k) = S0 at *
  rw [show P ++ (S0 ++ (x :: L.drop (k + 1) ++ S)) = bub P S0 x R S0.length by rw [bub_top, ← hR]; simp]
  have hfin : P ++ (isrt (L.take (k + 1)) ++ (L.drop (k + 1) ++ S)) = P ++ (insS x S0 ++ R) := by rw [e2, hR]
  have hk1' : a + ((k + 1 : Nat) : Int) = a + k + 1 := by omega
  have hak : -1000000 ≤ a ∧ a + (k : Int) ≤ 1000000 := by omega
  clear e1 e2 e3 hend hX
  (repeat' (first | (with_reducible first | refine thenQ_n ?_ | refine blockQ_n ?_ | refine thenQ_e ?_ | refine blockQ_t ?_ | refine blockQ_f (by decide) ?_) | apply aw_seq | apply aw_skip | apply aw_exit | apply aw_ret | apply aw_block | apply aw_condT rfl | apply aw_condF rfl | ((first | refine aw_hide fun K hK => aw_region ?_ | refine ago_if (by omega) ?_ | skip); simp (disch := first | exact okY | omega) only [List.length, Nat.zero_add, Nat.reduceAdd, Nat.reduceMul, dI, ARun_none, AOpRun, aexec, FSt.ev, St.F, eget_c, Nat.reduceBEq, ↓eget_h, cond_false, AGo_ok, St.app, putO, eput_c, eput_n, hups, List.map, isSh, Bool.false_eq_true, ↓reduceIte, Option.map, abin, q, ARun_nil, dropE_c, inL_c, inL_n, beq_self_eq_true, cond_true, dropE_n]) | subst hK))
  refine aw_loop (fun j : Nat => ⟨[(0, .vec 0 N 3), (1, dI a), (2, dI b), (3, .fn 108 [] []), (8, dI (a + k)), (9, dI (a + j))], [(0, fcells (bub P S0 x R j))], 400⟩) (fun j => j ≤ k ∧ ∀ i, j ≤ i → i < S0.length → fk x < fk (fat S0 i)) (fun j => j) ⟨k, ⟨Nat.le_refl _, fun i h1 h2 => by omega⟩, ?_⟩ ?_
  · rw [← hSl]
    unfold dI
    refine wk_q [] [(0, 0)] ?_ ?_ <;> repeat' (first | exact trivial | exact vr_val _ | exact vr_vec _ _ _ _ rfl | apply vr_fn | refine And.intro ⟨_, rfl, .inl ⟨_, rfl, by decide, ?_⟩⟩ ?_ | apply And.intro)
    all_goals exact vrl_flat _ (fcells_in _ _)
  intro j ⟨hj, hall⟩
  by_cases hj0 : j = 0
  case pos =>
    subst hj0
    have q0 : decide (a + ((0 : Nat) : Int) > a) = false := decide_eq_false (by omega)
    have be := bub_end P S0 x R 0 hSS (by omega) (.inl rfl) hall
    rw [be, ← hfin]
    (have hg : (987654321 : Nat) - 987654321 = 0 := rfl; have hr := hg; repeat' (first | (with_reducible first | refine thenQ_n ?_ | refine blockQ_n ?_ | refine thenQ_e ?_ | refine blockQ_t ?_ | refine blockQ_f (by decide) ?_) | apply aw_seq | apply aw_skip | apply aw_exit | apply aw_ret | apply aw_block | apply aw_condT rfl | apply aw_condF rfl | (refine ag_bool (fun hg => ?_) (fun hg => ?_) <;> (try (have hq := hg; simp only [Bool.not_eq_true', Bool.not_eq_false', Bool.and_eq_true, Bool.and_eq_false_iff, Bool.or_eq_true, Bool.or_eq_false_iff, decide_eq_true_eq, decide_eq_false_iff_not, bne_iff_ne, beq_iff_eq, beq_eq_false_iff_ne, bne_eq_false_iff_eq, ne_eq, Int.not_lt, Int.not_le, Decidable.not_not] at hq)) <;> (try (have hr := hg; simp only [decide_eq_true_eq, decide_eq_false_iff_not] at hr)) <;> (try (exfalso; omega)) <;> simp (disch := first | exact okY | omega) only [hr, decide_false, AG_ft, Nat.reduceAdd, St.app, putO, eput_c, Nat.reduceBEq, eput_n, cond_false, hups, ARun_some, eget_c, ↓eget_h, ARun_none, AOpRun, aexec, FSt.ev, St.F, Bool.false_eq_true, ↓reduceIte, AGo_ok, List.map, ARun_nil, dropE_c, inL_c, inL_n, beq_self_eq_true, cond_true, dropE_n]) | ((first | refine aw_hide fun K hK => aw_region ?_ | refine ago_if (by omega) ?_ | skip); simp (disch := first | exact okY | omega) only [List.length, Nat.zero_add, Nat.reduceAdd, Nat.reduceMul, dI, cast_lit, ARun_none, AOpRun, aexec, FSt.ev, St.F, eget_c, Nat.reduceBEq, ↓eget_h, cond_false, AGo_ok, St.app, putO, eput_c, eput_n, hups, List.map, isSh, Bool.false_eq_true, ↓reduceIte, Option.map, abin, ARun_some, fits, beq_self_eq_true, cond_true, ARun_nil, dropE_c, inL_c, inL_n, dropE_n]) | subst hK))
    refine ⟨k + 1, k1, k2, ?_⟩
    simp only [hk1']
    refine wk_q [] [(0, 0)] ?_ ?_ <;> repeat' (first | exact trivial | exact vr_val _ | exact vr_vec _ _ _ _ rfl | apply vr_fn | refine And.intro ⟨_, rfl, .inl ⟨_, rfl, by decide, ?_⟩⟩ ?_ | apply And.intro)
    all_goals exact vrl_flat _ (fcells_in _ _)
  obtain ⟨i, rfl⟩ : ∃ i, j = i + 1 := ⟨j - 1, by omega⟩
  have hi : i < S0.length := by omega
  have bl := bub_len P S0 x R (i + 1)
  obtain ⟨ba1, ba2⟩ := bub_at P S0 x R i hi
  have bn := bub_next P S0 x R i hi
  have be := fun (h : ¬ fk x < fk (fat S0 i)) => bub_end P S0 x R (i + 1) hSS (by omega) (.inr (by rw [show i + 1 - 1 = i by omega]; exact h)) hall
  have nxj : ∃ j, (j ≤ k ∧ ((¬ fk x < fk (fat S0 j)) ∨ ∀ i', j ≤ i' → i' < S0.length → fk x < fk (fat S0 i'))) ∧ j < i + 1 ∧ j = i := ⟨i, ⟨by omega, by
    by_cases hc : fk x < fk (fat S0 i)
    · refine .inr fun i' h1 h2 => ?_
      by_cases h3 : i' = i
      · rw [h3]; exact hc
      · exact hall i' (by omega) h2
    · exact .inl hc⟩, by omega, rfl⟩
  obtain ⟨j', ⟨j1, j3⟩, j2, rfl⟩ := nxj
  generalize hd : bub P S0 x R (j' + 1) = d at *
  obtain ⟨J, hJ⟩ : ∃ J : Int, a + ((j' + 1 : Nat) : Int) = J := ⟨_, rfl⟩
  have hJ' : J - 1 = a + (j' : Int) := by omega
  try simp only
  rw [hJ]
  have t1 : J.toNat = P.length + (j' + 1) := by omega
  have t2 : (J - 1).toNat = P.length + j' := by omega
  have q0 : decide (J > a) = true := decide_eq_true (by omega)
  have hp : P.length + (j' + 1) < d.length := by omega
  have hq : P.length + j' < d.length := by omega
  have hdN : d.length = N := by omega
  have r1 := fcells_rd d _ hp
  have r2 := fcells_rd d _ hq
  have w1 := fcells_wr d _ (fat d (P.length + j')) hp
  have w2 := fcells_wr (d.set (P.length + (j' + 1)) (fat d (P.length + j'))) (P.length + j') (fat d (P.length + (j' + 1))) (by simpa using hq)
  have fl := fcells_len d
  have fl2 := fcells_len (d.set (P.length + (j' + 1)) (fat d (P.length + j')))
  rw [List.length_set] at fl2
  unfold swp at bn
  rw [bn] at w2
  rw [ba1, ba2] at w2
  rw [ba2] at w1 r2 fl2
  rw [ba1] at r1
  have cm := cmpF_ac x (fat S0 j')
  have cl := cpF_lt x (fat S0 j')
  generalize fat S0 j' = u at *
  generalize cpF x u = cv at *
  simp only [splice, fc, dI, List.length_cons, List.length_nil, Nat.zero_add, Nat.reduceAdd] at r1 r2 w1 w2 cm
  generalize hd2 : d.set (P.length + (j' + 1)) u = d2 at *
  have hJb : -1000000 ≤ J ∧ J ≤ 1000000 := by omega
  by_cases hc : fk x < fk u
  · rw [decide_eq_true hc] at cl
    have j3 : ∀ i', j' ≤ i' → i' < S0.length → fk x < fk (fat S0 i') := j3.resolve_left (fun h => h hc)
    clear be hall hfin hSS hd hd2 ba1 ba2 bn bl
    generalize hB : fcells (bub P S0 x R j') = BB at *
    (repeat' (first | (with_reducible first | refine thenQ_n ?_ | refine blockQ_n ?_ | refine thenQ_e ?_ | refine blockQ_t ?_ | refine blockQ_f (by decide) ?_) | apply aw_seq | apply aw_skip | apply aw_exit | apply aw_ret | apply aw_block | apply aw_condT rfl | apply aw_condF rfl | ((first | refine aw_hide fun K hK => aw_region ?_ | refine acall0 (cm) ?_ | refine ago_if (by omega) ?_ | skip); simp (disch := first | exact okY | omega) only [List.length, Nat.zero_add, Nat.reduceAdd, Nat.reduceMul, dI, ARun_none, AOpRun, aexec, FSt.ev, St.F, eget_c, Nat.reduceBEq, ↓eget_h, cond_false, AGo_ok, St.app, putO, eput_c, eput_n, hups, List.map, isSh, Bool.false_eq_true, ↓reduceIte, Option.map, abin, q0, ARun_some, AG_tt, and_true, t1, hget_c, beq_self_eq_true, hget_n, cond_true, fl, r1, fits, t2, r2, cl, ARun_nil, dropE_c, inL_c, inL_n, dropE_n, D.isBot, D.cells, List.all, D.leaf, Bool.and_true, true_and, splice, w1, hput_c, hput_n, fl2, w2]) | subst hK))
    refine ⟨j', ⟨j1, j3⟩, j2, ?_⟩
    subst hB
    rw [← hJ']
    refine wk_q [] [(0, 0)] ?_ ?_ <;> repeat' (first | exact trivial | exact vr_val _ | exact vr_vec _ _ _ _ rfl | apply vr_fn | refine And.intro ⟨_, rfl, .inl ⟨_, rfl, by decide, ?_⟩⟩ ?_ | apply And.intro)
    all_goals exact vrl_flat _ (fcells_in _ _)
  · rw [decide_eq_false hc] at cl
    have hd' := be hc
    clear be hall hSS hd hd2 ba1 ba2 bn bl w1 w2 fl2 j3
    (repeat' (first | (with_reducible first | refine thenQ_n ?_ | refine blockQ_n ?_ | refine thenQ_e ?_ | refine blockQ_t ?_ | refine blockQ_f (by decide) ?_) | apply aw_seq | apply aw_skip | apply aw_exit | apply aw_ret | apply aw_block | apply aw_condT rfl | apply aw_condF rfl | ((first | refine aw_hide fun K hK => aw_region ?_ | refine acall0 (cm) ?_ | refine ago_if (by omega) ?_ | skip); simp (disch := first | exact okY | omega) only [List.length, Nat.zero_add, Nat.reduceAdd, Nat.reduceMul, dI, ARun_none, AOpRun, aexec, FSt.ev, St.F, eget_c, Nat.reduceBEq, ↓eget_h, cond_false, AGo_ok, St.app, putO, eput_c, eput_n, hups, List.map, isSh, Bool.false_eq_true, ↓reduceIte, Option.map, abin, q0, ARun_some, AG_tt, and_true, t1, hget_c, beq_self_eq_true, hget_n, cond_true, fl, r1, fits, t2, r2, cl, ARun_nil, dropE_c, inL_c, inL_n, dropE_n]) | subst hK))
    refine ⟨k + 1, k1, k2, ?_⟩
    simp only [hk1']
    rw [hfin, ← hd']
    refine wk_q [] [(0, 0)] ?_ ?_ <;> repeat' (first | exact trivial | exact vr_val _ | exact vr_vec _ _ _ _ rfl | apply vr_fn | refine And.intro ⟨_, rfl, .inl ⟨_, rfl, by decide, ?_⟩⟩ ?_ | apply And.intro)
    all_goals exact vrl_flat _ (fcells_in _ _)
end Go.Proofs.Ytdcodicoclecnaa
/- Sorting: one ahead of sorted ones is merged in (views last). No conditions. -/
namespace Go.Proofs.Ytdcodicoclecnaa
open Go.RowKit Lift

theorem bub_zero (P S : List Fd) (x : Fd) (R : List Fd) : bub P S x R 0 = P ++ (x :: (S ++ R)) := by simp [bub]
theorem bub_up (P S : List Fd) (x : Fd) (R : List Fd) (j : Nat) (hj : j < S.length) : swp (bub P S x R j) (P.length + j) (P.length + j + 1) = bub P S x R (j + 1) := by
  have h := bub_next P S x R j hj
  have e1 : S.drop j = S[j] :: S.drop (j + 1) := List.drop_eq_getElem_cons hj
  have e2 : S.take (j + 1) = S.take j ++ [S[j]] := (List.take_append_getElem hj).symm
  have hs := swp_next (P ++ S.take j) (S.drop (j + 1) ++ R) x S[j]
  have l1 : (P ++ S.take j).length = P.length + j := by simp; omega
  rw [l1] at hs
  unfold bub
  rw [e1, e2]
  simp only [List.append_assoc, List.cons_append, List.nil_append] at hs ⊢
  exact hs
theorem bub_up_at (P S : List Fd) (x : Fd) (R : List Fd) (j : Nat) (hj : j < S.length) : fat (bub P S x R j) (P.length + j) = x ∧ fat (bub P S x R j) (P.length + j + 1) = fat S j := by
  have l1 : (S.take j).length = j := by simp; omega
  have e1 : S.drop j = S[j] :: S.drop (j + 1) := List.drop_eq_getElem_cons hj
  unfold fat bub
  constructor
  · rw [List.getElem?_append_right (by omega), show P.length + j - P.length = j by omega, List.getElem?_append_right (by omega), l1]
    simp
  · rw [List.getElem?_append_right (by omega), show P.length + j + 1 - P.length = j + 1 by omega, List.getElem?_append_right (by omega), l1, show j + 1 - j = 1 by omega, e1, List.getElem?_eq_getElem hj]
    rfl
theorem mid_is {i j : Nat} {m I J : Int} (hI : I = m + i) (hJ : J = m + j) (hij : i < j) : ∃ h : Nat, (I + J).fdiv (2 ^ min 1 IntKind.u64.bits) = m + h ∧ i ≤ h ∧ h < j := by
  have e : (I + J).fdiv (2 ^ min 1 IntKind.u64.bits) = m + ((i + j) / 2 : Nat) := by
    rw [show (2 : Int) ^ min 1 IntKind.u64.bits = 2 from rfl]
    rw [Int.fdiv_eq_ediv_of_nonneg _ (by decide)]
    omega
  exact ⟨(i + j) / 2, e, by omega, by omega⟩
theorem wrap_u {n : Int} (h1 : 0 ≤ n) (h2 : n ≤ 18446744073709551615) : IntKind.u64.wrap n = n := by
  exact IntWalk.u64_in n ⟨h1, h2⟩
theorem fat_app_r (A B : List Fd) (i : Nat) : fat (A ++ B) (A.length + i) = fat B i := by
  unfold fat
  rw [List.getElem?_append_right (by omega), Nat.add_sub_cancel_left]
theorem fat_app_l {A B : List Fd} {i : Nat} (h : i < A.length) : fat (A ++ B) i = fat A i := by
  unfold fat
  rw [List.getElem?_append_left h]
set_option maxRecDepth 100000 in
set_option maxHeartbeats 8000000 in
theorem symA_ac (P B S : List Fd) (x : Fd) (N : Nat) (a m b : Int) (hN : N = P.length + 1 + B.length + S.length) (hN2 : N ≤ 1000000) (hB : 0 < B.length) (sB : Srt B) (ha : a = P.length) (hm : m = P.length + 1) (hb : b = P.length + 1 + B.length) :
    AC Try.prog 157 [.vec 0 N 3, dI a, dI m, dI b, .fn 108 [] []] [(0, fcells (P ++ (x :: (B ++ S))))] [(0, some (fcells (P ++ (mrg [x] B ++ S))))] (.tup []) := by
  refine kslices_symMergeCmpFunc_Lapi_Found_J.ac (n0 := 8) (by simp) ⟨.vec _ _ _ (by omega), .val _, .val _, .val _, .fn _ _ _ (by simp) (by simp), trivial⟩ ⟨⟨by omega, fcells_in _ _⟩, trivial⟩ (okUp_f (by simp; omega)) ?_
  unfold cslices_symMergeCmpFunc_Lapi_Found_J
  have q : (m - a == 1) = true := by simp; omega
  have hab : 0 ≤ a ∧ a ≤ 1000000 ∧ 0 ≤ m ∧ m ≤ 1000000 ∧ 0 ≤ b ∧ b ≤ 1000000 := by omega
  (repeat' (first | (with_reducible first | refine thenQ_n ?_ | refine blockQ_n ?_ | refine thenQ_e ?_ | refine blockQ_t ?_ | refine blockQ_f (by decide) ?_) | apply aw_seq | apply aw_skip | apply aw_exit | apply aw_ret | apply aw_block | apply aw_condT rfl | apply aw_condF rfl | ((first | refine aw_hide fun K hK => aw_region ?_ | refine ago_if (by omega) ?_ | skip); simp (disch := first | exact okY | omega) only [List.length, Nat.zero_add, Nat.reduceAdd, Nat.reduceMul, envOf, dI, ARun_none, AOpRun, aexec, FSt.ev, St.F, eget_c, Nat.reduceBEq, ↓eget_h, cond_false, AGo_ok, St.app, putO, eput_c, eput_n, hups, List.map, isSh, Bool.false_eq_true, ↓reduceIte, Option.map, abin, fits, q, ARun_nil, dropE_c, inL_c, inL_n, beq_self_eq_true, cond_true, dropE_n]) | subst hK))
  refine aw_loop (fun q : Nat × Nat => ⟨[(0, .vec 0 N 3), (1, dI a), (2, dI m), (3, dI b), (4, .fn 108 [] []), (10, dI (m + q.1)), (11, dI (m + q.2))], [(0, fcells (P ++ (x :: (B ++ S))))], 400⟩) (fun q => q.1 ≤ q.2 ∧ q.2 ≤ B.length ∧ (∀ t, t < q.1 → fk (fat B t) < fk x) ∧ ∀ t, q.2 ≤ t → t < B.length → ¬ fk (fat B t) < fk x) (fun q => q.2 - q.1) ⟨(0, B.length), ⟨by simp, by simp, fun t h => absurd h (Nat.not_lt_zero t), fun t h1 h2 => by simp only at h1; omega⟩, ?_⟩ ?_
  · unfold dI
    have e1 : m + ((0 : Nat) : Int) = m := by omega
    have e2 : m + (B.length : Int) = b := by omega
    simp only [e1, e2]
    refine wk_q [] [(0, 0)] ?_ ?_ <;> repeat' (first | exact trivial | exact vr_val _ | exact vr_vec _ _ _ _ rfl | apply vr_fn | refine And.intro ⟨_, rfl, .inl ⟨_, rfl, by decide, ?_⟩⟩ ?_ | apply And.intro)
    all_goals exact vrl_flat _ (fcells_in _ _)
  rintro ⟨i, j⟩ ⟨h1, h2, h3, h4⟩
  simp only at h1 h2 h3 h4
  obtain ⟨I, hI⟩ : ∃ I : Int, I = m + i := ⟨_, rfl⟩
  obtain ⟨J, hJ⟩ : ∃ J : Int, J = m + j := ⟨_, rfl⟩
  simp only
  rw [← hI, ← hJ]
  by_cases hij : i < j
  · have q1 : decide (I < J) = true := decide_eq_true (by omega)
    obtain ⟨h, e, e1, e2⟩ := mid_is hI hJ hij
    have u := wrap_u (n := I + J) (by omega) (by omega)
    have t1 : (m + (h : Int)).toNat = P.length + (1 + h) := by omega
    have t2 : a.toNat = P.length := by omega
    have fa : fat (P ++ (x :: (B ++ S))) (P.length + (1 + h)) = fat B h := by
      rw [fat_app_r, show x :: (B ++ S) = [x] ++ (B ++ S) from rfl, show 1 + h = [x].length + h from rfl, fat_app_r, fat_app_l (by omega)]
    have fb : fat (P ++ (x :: (B ++ S))) P.length = x := fat_app_r P (x :: (B ++ S)) 0
    have r1 := fcells_rd (P ++ (x :: (B ++ S))) (P.length + (1 + h)) (by simp; omega)
    have r2 := fcells_rd (P ++ (x :: (B ++ S))) P.length (by simp)
    have fl := fcells_len (P ++ (x :: (B ++ S)))
    rw [show (P ++ (x :: (B ++ S))).length = N by simp; omega] at fl
    rw [fa] at r1
    rw [fb] at r2
    have cm := cmpF_ac (fat B h) x
    have cl := cpF_lt (fat B h) x
    have nx : ∃ h', h' = h ∧ (fk (fat B h) < fk x ∨ ¬ fk (fat B h) < fk x) := ⟨h, rfl, Decidable.em _⟩
    generalize hC : fcells (P ++ (x :: (B ++ S))) = C at *
    generalize cpF (fat B h) x = cv at *
    simp only [fc, dI] at r1 r2 cm
    by_cases hc : fk (fat B h) < fk x
    · rw [decide_eq_true hc] at cl
      (repeat' (first | (with_reducible first | refine thenQ_n ?_ | refine blockQ_n ?_ | refine thenQ_e ?_ | refine blockQ_t ?_ | refine blockQ_f (by decide) ?_) | apply aw_seq | apply aw_skip | apply aw_exit | apply aw_ret | apply aw_block | apply aw_condT rfl | apply aw_condF rfl | ((first | refine aw_hide fun K hK => aw_region ?_ | refine acall0 (cm) ?_ | refine ago_if (by omega) ?_ | skip); simp (disch := first | exact okY | omega) only [List.length, Nat.zero_add, Nat.reduceAdd, Nat.reduceMul, dI, ARun_none, AOpRun, aexec, FSt.ev, St.F, eget_c, Nat.reduceBEq, ↓eget_h, cond_false, AGo_ok, St.app, putO, eput_c, eput_n, hups, List.map, isSh, Bool.false_eq_true, ↓reduceIte, Option.map, abin, q1, ARun_nil, dropE_c, inL_c, inL_n, beq_self_eq_true, cond_true, dropE_n, fits, u, ash, Int.reduceLE, Int.reduceToNat, e, and_true, t1, hget_c, hget_n, fl, r1, t2, r2, cl]) | subst hK))
      refine ⟨(h + 1, j), ⟨by simp only; omega, by simp only; omega, fun t ht => ?_, h4⟩, by simp only; omega, ?_⟩
      · simp only at ht
        rcases (by omega : t < h ∨ t = h) with h' | rfl
        · have := sB.le (i := t) (j := h) (by omega) (by omega); omega
        · exact hc
      simp only [show m + ((h + 1 : Nat) : Int) = m + h + 1 by omega, ← hJ]
      subst hC
      refine wk_q [] [(0, 0)] ?_ ?_ <;> repeat' (first | exact trivial | exact vr_val _ | exact vr_vec _ _ _ _ rfl | apply vr_fn | refine And.intro ⟨_, rfl, .inl ⟨_, rfl, by decide, ?_⟩⟩ ?_ | apply And.intro)
      all_goals exact vrl_flat _ (fcells_in _ _)
    · rw [decide_eq_false hc] at cl
      (repeat' (first | (with_reducible first | refine thenQ_n ?_ | refine blockQ_n ?_ | refine thenQ_e ?_ | refine blockQ_t ?_ | refine blockQ_f (by decide) ?_) | apply aw_seq | apply aw_skip | apply aw_exit | apply aw_ret | apply aw_block | apply aw_condT rfl | apply aw_condF rfl | ((first | refine aw_hide fun K hK => aw_region ?_ | refine acall0 (cm) ?_ | refine ago_if (by omega) ?_ | skip); simp (disch := first | exact okY | omega) only [List.length, Nat.zero_add, Nat.reduceAdd, Nat.reduceMul, dI, ARun_none, AOpRun, aexec, FSt.ev, St.F, eget_c, Nat.reduceBEq, ↓eget_h, cond_false, AGo_ok, St.app, putO, eput_c, eput_n, hups, List.map, isSh, Bool.false_eq_true, ↓reduceIte, Option.map, abin, q1, ARun_nil, dropE_c, inL_c, inL_n, beq_self_eq_true, cond_true, dropE_n, fits, u, ash, Int.reduceLE, Int.reduceToNat, e, and_true, t1, hget_c, hget_n, fl, r1, t2, r2, cl]) | subst hK))
      refine ⟨(i, h), ⟨by simp only; omega, by simp only; omega, h3, fun t ht1 ht2 => ?_⟩, by simp only; omega, ?_⟩
      · simp only at ht1
        have := sB.le (i := h) (j := t) (by omega) (by omega); omega
      simp only [← hI]
      subst hC
      refine wk_q [] [(0, 0)] ?_ ?_ <;> repeat' (first | exact trivial | exact vr_val _ | exact vr_vec _ _ _ _ rfl | apply vr_fn | refine And.intro ⟨_, rfl, .inl ⟨_, rfl, by decide, ?_⟩⟩ ?_ | apply And.intro)
      all_goals exact vrl_flat _ (fcells_in _ _)
  obtain rfl : i = j := by omega
  have q1 : decide (I < J) = false := decide_eq_false (by omega)
  obtain rfl : I = J := by omega
  have hB12 : B.take i ++ B.drop i = B := List.take_append_drop i B
  have l1 : (B.take i).length = i := by simp; omega
  have hm1 : mrg [x] (B.take i ++ B.drop i) = B.take i ++ x :: B.drop i := mrg_one (fun y hy => by
      obtain ⟨t, ht, rfl⟩ := List.getElem_of_mem hy
      have ht2 : t < i := by omega
      have := h3 t ht2
      rw [fat_at (by omega)] at this
      simpa using this) (fun y hy => by
      obtain ⟨t, ht, rfl⟩ := List.getElem_of_mem hy
      have ht2 : i + t < B.length := by simp at ht; omega
      have := h4 (i + t) (by omega) ht2
      rw [fat_at ht2] at this
      simp only [List.getElem_drop]
      omega)
  rw [hB12] at hm1
  rw [hm1]
  have ez : P ++ (x :: (B ++ S)) = bub P (B.take i) x (B.drop i ++ S) 0 := by
    rw [bub_zero, ← List.append_assoc, hB12]
  have et : P ++ (B.take i ++ x :: B.drop i ++ S) = bub P (B.take i) x (B.drop i ++ S) i := by
    have := bub_top P (B.take i) x (B.drop i ++ S)
    rw [l1] at this
    rw [this]; simp
  rw [et, ez]
  have hN' : N = P.length + i + 1 + (B.drop i ++ S).length := by simp; omega
  have hIb : I = a + 1 + (i : Int) := by omega
  clear ez et hm1 hB12 h3 h4 sB hI
  generalize B.drop i ++ S = R at *
  generalize B.take i = B1 at *
  have hib : i ≤ 1000000 := by omega
  clear hN hB hb hm h2 hJ
  (repeat' (first | (with_reducible first | refine thenQ_n ?_ | refine blockQ_n ?_ | refine thenQ_e ?_ | refine blockQ_t ?_ | refine blockQ_f (by decide) ?_) | apply aw_seq | apply aw_skip | apply aw_exit | apply aw_ret | apply aw_block | apply aw_condT rfl | apply aw_condF rfl | ((first | refine aw_hide fun K hK => aw_region ?_ | refine ago_if (by omega) ?_ | skip); simp (disch := first | exact okY | omega) only [List.length, Nat.zero_add, Nat.reduceAdd, Nat.reduceMul, dI, ARun_none, AOpRun, aexec, FSt.ev, St.F, eget_c, Nat.reduceBEq, ↓eget_h, cond_false, AGo_ok, St.app, putO, eput_c, eput_n, hups, List.map, isSh, Bool.false_eq_true, ↓reduceIte, Option.map, abin, q1, ARun_nil, dropE_c, inL_c, inL_n, beq_self_eq_true, cond_true, dropE_n]) | subst hK))
  refine aw_loop (fun t : Nat => ⟨[(0, .vec 0 N 3), (10, dI I), (13, dI (a + t))], [(0, fcells (bub P B1 x R t))], 800⟩) (fun t => t ≤ i) (fun t => i - t) ⟨0, by omega, ?_⟩ ?_
  · unfold dI
    have e1 : a + ((0 : Nat) : Int) = a := by omega
    simp only [e1]
    refine wk_q [] [(0, 0)] ?_ ?_ <;> repeat' (first | exact trivial | exact vr_val _ | exact vr_vec _ _ _ _ rfl | refine And.intro ⟨_, rfl, .inl ⟨_, rfl, by decide, ?_⟩⟩ ?_ | apply And.intro)
    all_goals exact vrl_flat _ (fcells_in _ _)
  intro t ht
  obtain ⟨kv, hkv⟩ : ∃ kv : Int, kv = a + t := ⟨_, rfl⟩
  try simp only
  rw [← hkv]
  by_cases hti : t < i
  case neg =>
    obtain rfl : t = i := by omega
    have q2 : decide (kv < I - 1) = false := decide_eq_false (by omega)
    (repeat' (first | (with_reducible first | refine thenQ_n ?_ | refine blockQ_n ?_ | refine thenQ_e ?_ | refine blockQ_t ?_ | refine blockQ_f (by decide) ?_) | apply aw_seq | apply aw_skip | apply aw_exit | apply aw_ret | apply aw_block | apply aw_condT rfl | apply aw_condF rfl | ((first | refine aw_hide fun K hK => aw_region ?_ | refine ago_if (by omega) ?_ | skip); simp (disch := first | exact okY | omega) only [List.length, Nat.zero_add, Nat.reduceAdd, Nat.reduceMul, dI, ARun_none, AOpRun, aexec, FSt.ev, St.F, eget_c, Nat.reduceBEq, ↓eget_h, cond_false, AGo_ok, St.app, putO, eput_c, eput_n, hups, List.map, isSh, Bool.false_eq_true, ↓reduceIte, Option.map, abin, fits, q2, ARun_nil, dropE_c, inL_c, inL_n, beq_self_eq_true, cond_true, dropE_n, thenQ]) | subst hK))
    all_goals (refine end_q [] [(0, 0)] ?_ ?_ <;> repeat' (first | exact trivial | apply vr_tup | refine And.intro ⟨_, rfl, _, rfl, by decide, ?_⟩ ?_))
    all_goals exact vrl_flat _ (fcells_in _ _)
  have q2 : decide (kv < I - 1) = true := decide_eq_true (by omega)
  have bl := bub_len P B1 x R t
  obtain ⟨ba1, ba2⟩ := bub_up_at P B1 x R t (by omega)
  have bn := bub_up P B1 x R t (by omega)
  have t1 : kv.toNat = P.length + t := by omega
  have t2 : (kv + 1).toNat = P.length + t + 1 := by omega
  generalize hd : bub P B1 x R t = d at *
  have hp : P.length + t < d.length := by omega
  have hq : P.length + t + 1 < d.length := by omega
  have r1 := fcells_rd d _ hp
  have r2 := fcells_rd d _ hq
  have w1 := fcells_wr d _ (fat d (P.length + t + 1)) hp
  have w2 := fcells_wr (d.set (P.length + t) (fat d (P.length + t + 1))) (P.length + t + 1) (fat d (P.length + t)) (by simpa using hq)
  have fl := fcells_len d
  have fl2 := fcells_len (d.set (P.length + t) (fat d (P.length + t + 1)))
  rw [List.length_set] at fl2
  have hdN : d.length = N := by omega
  unfold swp at bn
  rw [bn] at w2
  rw [ba1, ba2] at w2
  rw [ba2] at w1 r2 fl2
  rw [ba1] at r1
  generalize fat B1 t = u at *
  simp only [splice, fc, dI, List.length_cons, List.length_nil, Nat.zero_add, Nat.reduceAdd] at r1 r2 w1 w2
  generalize hd2 : d.set (P.length + t) u = d2 at *
  clear hd hd2 ba1 ba2 bn bl
  generalize hBB : fcells (bub P B1 x R (t + 1)) = BB at *
  have nx : ∃ t', t' ≤ i ∧ i - t' < i - t ∧ t' = t + 1 := ⟨t + 1, by omega, by omega, rfl⟩
  obtain ⟨t', n1, n2, rfl⟩ := nx
  have hKb : 0 ≤ kv ∧ kv ≤ 1000000 := by omega
  (repeat' (first | (with_reducible first | refine thenQ_n ?_ | refine blockQ_n ?_ | refine thenQ_e ?_ | refine blockQ_t ?_ | refine blockQ_f (by decide) ?_) | apply aw_seq | apply aw_skip | apply aw_exit | apply aw_ret | apply aw_block | apply aw_condT rfl | apply aw_condF rfl | ((first | refine aw_hide fun K hK => aw_region ?_ | refine ago_if (by omega) ?_ | skip); simp (disch := first | exact okY | omega) only [List.length, Nat.zero_add, Nat.reduceAdd, Nat.reduceMul, dI, ARun_none, AOpRun, aexec, FSt.ev, St.F, eget_c, Nat.reduceBEq, ↓eget_h, cond_false, AGo_ok, St.app, putO, eput_c, eput_n, hups, List.map, isSh, Bool.false_eq_true, ↓reduceIte, Option.map, abin, fits, q2, ARun_nil, dropE_c, inL_c, inL_n, beq_self_eq_true, cond_true, dropE_n, and_true, t2, hget_c, hget_n, fl, r2, t1, r1, D.isBot, D.cells, List.all, D.leaf, Bool.and_true, true_and, splice, w1, hput_c, hput_n, fl2, w2]) | subst hK))
  refine ⟨t + 1, n1, n2, ?_⟩
  subst hBB
  simp only [show a + ((t + 1 : Nat) : Int) = kv + 1 by omega]
  refine wk_q [] [(0, 0)] ?_ ?_ <;> repeat' (first | exact trivial | exact vr_val _ | exact vr_vec _ _ _ _ rfl | refine And.intro ⟨_, rfl, .inl ⟨_, rfl, by decide, ?_⟩⟩ ?_ | apply And.intro)
  all_goals exact vrl_flat _ (fcells_in _ _)
end Go.Proofs.Ytdcodicoclecnaa
/- Sorting: one behind sorted ones is merged in (views last). No conditions. -/
namespace Go.Proofs.Ytdcodicoclecnaa
open Go.RowKit Lift

set_option maxRecDepth 100000 in
set_option maxHeartbeats 8000000 in
theorem symB_ac (P A S : List Fd) (y : Fd) (N : Nat) (a m b : Int) (hN : N = P.length + A.length + 1 + S.length) (hN2 : N ≤ 1000000) (hA : 1 < A.length) (sA : Srt A) (ha : a = P.length) (hm : m = P.length + A.length) (hb : b = P.length + A.length + 1) :
    AC Try.prog 157 [.vec 0 N 3, dI a, dI m, dI b, .fn 108 [] []] [(0, fcells (P ++ (A ++ (y :: S))))] [(0, some (fcells (P ++ (mrg A [y] ++ S))))] (.tup []) := by
  refine kslices_symMergeCmpFunc_Lapi_Found_J.ac (n0 := 8) (by simp) ⟨.vec _ _ _ (by omega), .val _, .val _, .val _, .fn _ _ _ (by simp) (by simp), trivial⟩ ⟨⟨by omega, fcells_in _ _⟩, trivial⟩ (okUp_f (by simp; omega)) ?_
  unfold cslices_symMergeCmpFunc_Lapi_Found_J
  have q : (m - a == 1) = false := by simp; omega
  have q' : (b - m == 1) = true := by simp; omega
  have hab : 0 ≤ a ∧ a ≤ 1000000 ∧ 0 ≤ m ∧ m ≤ 1000000 ∧ 0 ≤ b ∧ b ≤ 1000000 := by omega
  (repeat' (first | (with_reducible first | refine thenQ_n ?_ | refine blockQ_n ?_ | refine thenQ_e ?_ | refine blockQ_t ?_ | refine blockQ_f (by decide) ?_) | apply aw_seq | apply aw_skip | apply aw_exit | apply aw_ret | apply aw_block | apply aw_condT rfl | apply aw_condF rfl | ((first | refine aw_hide fun K hK => aw_region ?_ | refine ago_if (by omega) ?_ | skip); simp (disch := first | exact okY | omega) only [List.length, Nat.zero_add, Nat.reduceAdd, Nat.reduceMul, envOf, dI, ARun_none, AOpRun, aexec, FSt.ev, St.F, eget_c, Nat.reduceBEq, ↓eget_h, cond_false, AGo_ok, St.app, putO, eput_c, eput_n, hups, List.map, isSh, Bool.false_eq_true, ↓reduceIte, Option.map, abin, fits, q, ARun_nil, dropE_c, inL_c, inL_n, beq_self_eq_true, cond_true, dropE_n, q']) | subst hK))
  refine aw_loop (fun q : Nat × Nat => ⟨[(0, .vec 0 N 3), (1, dI a), (2, dI m), (3, dI b), (4, .fn 108 [] []), (14, dI (a + q.1)), (15, dI (a + q.2))], [(0, fcells (P ++ (A ++ (y :: S))))], 400⟩) (fun q => q.1 ≤ q.2 ∧ q.2 ≤ A.length ∧ (∀ t, t < q.1 → ¬ fk y < fk (fat A t)) ∧ ∀ t, q.2 ≤ t → t < A.length → fk y < fk (fat A t)) (fun q => q.2 - q.1) ⟨(0, A.length), ⟨by simp, by simp, fun t h => absurd h (Nat.not_lt_zero t), fun t h1 h2 => by simp only at h1; omega⟩, ?_⟩ ?_
  · unfold dI
    have e1 : a + ((0 : Nat) : Int) = a := by omega
    have e2 : a + (A.length : Int) = m := by omega
    simp only [e1, e2]
    refine wk_q [] [(0, 0)] ?_ ?_ <;> repeat' (first | exact trivial | exact vr_val _ | exact vr_vec _ _ _ _ rfl | apply vr_fn | refine And.intro ⟨_, rfl, .inl ⟨_, rfl, by decide, ?_⟩⟩ ?_ | apply And.intro)
    all_goals exact vrl_flat _ (fcells_in _ _)
  rintro ⟨i, j⟩ ⟨h1, h2, h3, h4⟩
  simp only at h1 h2 h3 h4
  obtain ⟨I, hI⟩ : ∃ I : Int, I = a + i := ⟨_, rfl⟩
  obtain ⟨J, hJ⟩ : ∃ J : Int, J = a + j := ⟨_, rfl⟩
  simp only
  rw [← hI, ← hJ]
  by_cases hij : i < j
  · have q1 : decide (I < J) = true := decide_eq_true (by omega)
    obtain ⟨h, e, e1, e2⟩ := mid_is hI hJ hij
    have u := wrap_u (n := I + J) (by omega) (by omega)
    have t1 : (a + (h : Int)).toNat = P.length + h := by omega
    have t2 : m.toNat = P.length + A.length := by omega
    have fa : fat (P ++ (A ++ (y :: S))) (P.length + h) = fat A h := by
      rw [fat_app_r, fat_app_l (by omega)]
    have fb : fat (P ++ (A ++ (y :: S))) (P.length + A.length) = y := by
      rw [fat_app_r]
      exact fat_app_r A (y :: S) 0
    have r1 := fcells_rd (P ++ (A ++ (y :: S))) (P.length + h) (by simp; omega)
    have r2 := fcells_rd (P ++ (A ++ (y :: S))) (P.length + A.length) (by simp)
    have fl := fcells_len (P ++ (A ++ (y :: S)))
    rw [show (P ++ (A ++ (y :: S))).length = N by simp; omega] at fl
    rw [fa] at r1
    rw [fb] at r2
    have cm := cmpF_ac y (fat A h)
    have cl := cpF_lt y (fat A h)
    generalize hC : fcells (P ++ (A ++ (y :: S))) = C at *
    generalize cpF y (fat A h) = cv at *
    simp only [fc, dI] at r1 r2 cm
    by_cases hc : fk y < fk (fat A h)
    · rw [decide_eq_true hc] at cl
      (repeat' (first | (with_reducible first | refine thenQ_n ?_ | refine blockQ_n ?_ | refine thenQ_e ?_ | refine blockQ_t ?_ | refine blockQ_f (by decide) ?_) | apply aw_seq | apply aw_skip | apply aw_exit | apply aw_ret | apply aw_block | apply aw_condT rfl | apply aw_condF rfl | ((first | refine aw_hide fun K hK => aw_region ?_ | refine acall0 (cm) ?_ | refine ago_if (by omega) ?_ | skip); simp (disch := first | exact okY | omega) only [List.length, Nat.zero_add, Nat.reduceAdd, Nat.reduceMul, dI, ARun_none, AOpRun, aexec, FSt.ev, St.F, eget_c, Nat.reduceBEq, ↓eget_h, cond_false, AGo_ok, St.app, putO, eput_c, eput_n, hups, List.map, isSh, Bool.false_eq_true, ↓reduceIte, Option.map, abin, q1, ARun_nil, dropE_c, inL_c, inL_n, beq_self_eq_true, cond_true, dropE_n, fits, u, ash, Int.reduceLE, Int.reduceToNat, e, and_true, t2, hget_c, hget_n, fl, r2, t1, r1, cl, Bool.not_true]) | subst hK))
      refine ⟨(i, h), ⟨by simp only; omega, by simp only; omega, h3, fun t ht1 ht2 => ?_⟩, by simp only; omega, ?_⟩
      · simp only at ht1
        have := sA.le (i := h) (j := t) (by omega) (by omega); omega
      simp only [← hI]
      subst hC
      refine wk_q [] [(0, 0)] ?_ ?_ <;> repeat' (first | exact trivial | exact vr_val _ | exact vr_vec _ _ _ _ rfl | apply vr_fn | refine And.intro ⟨_, rfl, .inl ⟨_, rfl, by decide, ?_⟩⟩ ?_ | apply And.intro)
      all_goals exact vrl_flat _ (fcells_in _ _)
    · rw [decide_eq_false hc] at cl
      (repeat' (first | (with_reducible first | refine thenQ_n ?_ | refine blockQ_n ?_ | refine thenQ_e ?_ | refine blockQ_t ?_ | refine blockQ_f (by decide) ?_) | apply aw_seq | apply aw_skip | apply aw_exit | apply aw_ret | apply aw_block | apply aw_condT rfl | apply aw_condF rfl | ((first | refine aw_hide fun K hK => aw_region ?_ | refine acall0 (cm) ?_ | refine ago_if (by omega) ?_ | skip); simp (disch := first | exact okY | omega) only [List.length, Nat.zero_add, Nat.reduceAdd, Nat.reduceMul, dI, ARun_none, AOpRun, aexec, FSt.ev, St.F, eget_c, Nat.reduceBEq, ↓eget_h, cond_false, AGo_ok, St.app, putO, eput_c, eput_n, hups, List.map, isSh, Bool.false_eq_true, ↓reduceIte, Option.map, abin, q1, ARun_nil, dropE_c, inL_c, inL_n, beq_self_eq_true, cond_true, dropE_n, fits, u, ash, Int.reduceLE, Int.reduceToNat, e, and_true, t2, hget_c, hget_n, fl, r2, t1, r1, cl, Bool.not_false]) | subst hK))
      refine ⟨(h + 1, j), ⟨by simp only; omega, by simp only; omega, fun t ht => ?_, h4⟩, by simp only; omega, ?_⟩
      · simp only at ht
        rcases (by omega : t < h ∨ t = h) with h' | rfl
        · have := sA.le (i := t) (j := h) (by omega) (by omega); omega
        · exact hc
      simp only [show a + ((h + 1 : Nat) : Int) = a + h + 1 by omega, ← hJ]
      subst hC
      refine wk_q [] [(0, 0)] ?_ ?_ <;> repeat' (first | exact trivial | exact vr_val _ | exact vr_vec _ _ _ _ rfl | apply vr_fn | refine And.intro ⟨_, rfl, .inl ⟨_, rfl, by decide, ?_⟩⟩ ?_ | apply And.intro)
      all_goals exact vrl_flat _ (fcells_in _ _)
  obtain rfl : i = j := by omega
  have q1 : decide (I < J) = false := decide_eq_false (by omega)
  obtain rfl : I = J := by omega
  have hA12 : A.take i ++ A.drop i = A := List.take_append_drop i A
  have l1 : (A.take i).length = i := by simp; omega
  have l2 : (A.drop i).length = A.length - i := by simp
  have hm1 : mrg (A.take i ++ A.drop i) [y] = A.take i ++ y :: A.drop i := mrg_one2 (fun x hx => by
      obtain ⟨t, ht, rfl⟩ := List.getElem_of_mem hx
      have ht2 : t < i := by omega
      have := h3 t ht2
      rw [fat_at (by omega)] at this
      simp only [List.getElem_take]
      omega) (fun x hx => by
      obtain ⟨t, ht, rfl⟩ := List.getElem_of_mem hx
      have ht2 : i + t < A.length := by simp at ht; omega
      have := h4 (i + t) (by omega) ht2
      rw [fat_at ht2] at this
      simp only [List.getElem_drop]
      omega)
  rw [hA12] at hm1
  rw [hm1]
  have ez : P ++ (A.take i ++ y :: A.drop i ++ S) = bub (P ++ A.take i) (A.drop i) y S 0 := by
    rw [bub_zero]; simp
  have et : P ++ (A ++ (y :: S)) = bub (P ++ A.take i) (A.drop i) y S (A.length - i) := by
    have := bub_top (P ++ A.take i) (A.drop i) y S
    rw [l2] at this
    rw [this, List.append_assoc, ← List.append_assoc (A.take i), hA12]
  rw [et, ez]
  have hQ : (P ++ A.take i).length = P.length + i := by simp; omega
  obtain ⟨n, hn⟩ : ∃ n, n = A.length - i := ⟨_, rfl⟩
  rw [← hn] at l2 ⊢
  have hmn : m = I + n := by omega
  have hN' : N = P.length + i + n + 1 + S.length := by omega
  have hI2 : I = ((P.length + i : Nat) : Int) := by omega
  clear ez et hm1 hA12 h3 h4 sA hI
  generalize P ++ A.take i = Q at *
  generalize A.drop i = A2 at *
  rw [← hQ] at hN' hI2
  clear hN hA hb hm h2 hJ l1 hn hQ q1 ha
  have q1 : decide (I < I) = false := decide_eq_false (by omega)
  (repeat' (first | (with_reducible first | refine thenQ_n ?_ | refine blockQ_n ?_ | refine thenQ_e ?_ | refine blockQ_t ?_ | refine blockQ_f (by decide) ?_) | apply aw_seq | apply aw_skip | apply aw_exit | apply aw_ret | apply aw_block | apply aw_condT rfl | apply aw_condF rfl | ((first | refine aw_hide fun K hK => aw_region ?_ | refine ago_if (by omega) ?_ | skip); simp (disch := first | exact okY | omega) only [List.length, Nat.zero_add, Nat.reduceAdd, Nat.reduceMul, dI, ARun_none, AOpRun, aexec, FSt.ev, St.F, eget_c, Nat.reduceBEq, ↓eget_h, cond_false, AGo_ok, St.app, putO, eput_c, eput_n, hups, List.map, isSh, Bool.false_eq_true, ↓reduceIte, Option.map, abin, q1, ARun_nil, dropE_c, inL_c, inL_n, beq_self_eq_true, cond_true, dropE_n]) | subst hK))
  refine aw_loop (fun t : Nat => ⟨[(0, .vec 0 N 3), (14, dI I), (17, dI (I + t))], [(0, fcells (bub Q A2 y S t))], 800⟩) (fun t => t ≤ n) (fun t => t) ⟨n, Nat.le_refl _, ?_⟩ ?_
  · unfold dI
    simp only [← hmn]
    refine wk_q [] [(0, 0)] ?_ ?_ <;> repeat' (first | exact trivial | exact vr_val _ | exact vr_vec _ _ _ _ rfl | refine And.intro ⟨_, rfl, .inl ⟨_, rfl, by decide, ?_⟩⟩ ?_ | apply And.intro)
    all_goals exact vrl_flat _ (fcells_in _ _)
  intro t ht
  obtain ⟨kv, hkv⟩ : ∃ kv : Int, kv = I + t := ⟨_, rfl⟩
  try simp only
  rw [← hkv]
  by_cases hti : t = 0
  case pos =>
    subst hti
    have q2 : decide (kv > I) = false := decide_eq_false (by omega)
    (repeat' (first | (with_reducible first | refine thenQ_n ?_ | refine blockQ_n ?_ | refine thenQ_e ?_ | refine blockQ_t ?_ | refine blockQ_f (by decide) ?_) | apply aw_seq | apply aw_skip | apply aw_exit | apply aw_ret | apply aw_block | apply aw_condT rfl | apply aw_condF rfl | ((first | refine aw_hide fun K hK => aw_region ?_ | refine ago_if (by omega) ?_ | skip); simp (disch := first | exact okY | omega) only [List.length, Nat.zero_add, Nat.reduceAdd, Nat.reduceMul, dI, ARun_none, AOpRun, aexec, FSt.ev, St.F, eget_c, Nat.reduceBEq, ↓eget_h, cond_false, AGo_ok, St.app, putO, eput_c, eput_n, hups, List.map, isSh, Bool.false_eq_true, ↓reduceIte, Option.map, abin, q2, ARun_nil, dropE_c, inL_c, inL_n, beq_self_eq_true, cond_true, dropE_n, thenQ]) | subst hK))
    all_goals (refine end_q [] [(0, 0)] ?_ ?_ <;> repeat' (first | exact trivial | apply vr_tup | refine And.intro ⟨_, rfl, _, rfl, by decide, ?_⟩ ?_))
    all_goals exact vrl_flat _ (fcells_in _ _)
  obtain ⟨t, rfl⟩ : ∃ i, t = i + 1 := ⟨t - 1, by omega⟩
  have q2 : decide (kv > I) = true := decide_eq_true (by omega)
  have bl := bub_len Q A2 y S (t + 1)
  obtain ⟨ba1, ba2⟩ := bub_at Q A2 y S t (by omega)
  have bn := bub_next Q A2 y S t (by omega)
  have t1 : kv.toNat = Q.length + (t + 1) := by omega
  have t2 : (kv - 1).toNat = Q.length + t := by omega
  generalize hd : bub Q A2 y S (t + 1) = d at *
  have hp : Q.length + (t + 1) < d.length := by omega
  have hq : Q.length + t < d.length := by omega
  have r1 := fcells_rd d _ hp
  have r2 := fcells_rd d _ hq
  have w1 := fcells_wr d _ (fat d (Q.length + t)) hp
  have w2 := fcells_wr (d.set (Q.length + (t + 1)) (fat d (Q.length + t))) (Q.length + t) (fat d (Q.length + (t + 1))) (by simpa using hq)
  have fl := fcells_len d
  have fl2 := fcells_len (d.set (Q.length + (t + 1)) (fat d (Q.length + t)))
  rw [List.length_set] at fl2
  have hdN : d.length = N := by omega
  unfold swp at bn
  rw [bn] at w2
  rw [ba1, ba2] at w2
  rw [ba2] at w1 r2 fl2
  rw [ba1] at r1
  generalize fat A2 t = u at *
  simp only [splice, fc, dI, List.length_cons, List.length_nil, Nat.zero_add, Nat.reduceAdd] at r1 r2 w1 w2
  generalize hd2 : d.set (Q.length + (t + 1)) u = d2 at *
  clear hd hd2 ba1 ba2 bn bl
  generalize hBB : fcells (bub Q A2 y S t) = BB at *
  have nx : ∃ t', t' ≤ n ∧ t' < t + 1 ∧ t' = t := ⟨t, by omega, by omega, rfl⟩
  obtain ⟨t', n1, n2, rfl⟩ := nx
  have hKb : 0 ≤ kv ∧ kv ≤ 1000000 := by omega
  (repeat' (first | (with_reducible first | refine thenQ_n ?_ | refine blockQ_n ?_ | refine thenQ_e ?_ | refine blockQ_t ?_ | refine blockQ_f (by decide) ?_) | apply aw_seq | apply aw_skip | apply aw_exit | apply aw_ret | apply aw_block | apply aw_condT rfl | apply aw_condF rfl | ((first | refine aw_hide fun K hK => aw_region ?_ | refine ago_if (by omega) ?_ | skip); simp (disch := first | exact okY | omega) only [List.length, Nat.zero_add, Nat.reduceAdd, Nat.reduceMul, dI, ARun_none, AOpRun, aexec, FSt.ev, St.F, eget_c, Nat.reduceBEq, ↓eget_h, cond_false, AGo_ok, St.app, putO, eput_c, eput_n, hups, List.map, isSh, Bool.false_eq_true, ↓reduceIte, Option.map, abin, q2, ARun_nil, dropE_c, inL_c, inL_n, beq_self_eq_true, cond_true, dropE_n, fits, and_true, t2, hget_c, hget_n, fl, r2, t1, r1, D.isBot, D.cells, List.all, D.leaf, Bool.and_true, true_and, splice, w1, hput_c, hput_n, fl2, w2]) | subst hK))
  refine ⟨t', n1, n2, ?_⟩
  subst hBB
  simp only [show I + (t' : Int) = kv - 1 by omega]
  refine wk_q [] [(0, 0)] ?_ ?_ <;> repeat' (first | exact trivial | exact vr_val _ | exact vr_vec _ _ _ _ rfl | refine And.intro ⟨_, rfl, .inl ⟨_, rfl, by decide, ?_⟩⟩ ?_ | apply And.intro)
  all_goals exact vrl_flat _ (fcells_in _ _)
end Go.Proofs.Ytdcodicoclecnaa
/- Sorting: sorted ones are merged (views last). No conditions. -/
namespace Go.Proofs.Ytdcodicoclecnaa
open Go.RowKit Lift

theorem mid0 {i j : Nat} (hij : i < j) : ∃ h : Nat, ((i : Int) + (j : Int)).fdiv (2 ^ min 1 IntKind.u64.bits) = (h : Int) ∧ i ≤ h ∧ h < j := by
  obtain ⟨h, e, e1, e2⟩ := mid_is (m := 0) (I := i) (J := j) (by omega) (by omega) hij
  exact ⟨h, by rw [e]; omega, e1, e2⟩
theorem Srt.take {l : List Fd} (h : Srt l) (i : Nat) : Srt (l.take i) := List.Pairwise.sublist (List.take_sublist _ _) h
theorem Srt.drop {l : List Fd} (h : Srt l) (i : Nat) : Srt (l.drop i) := List.Pairwise.sublist (List.drop_sublist _ _) h
theorem fat_A {P A B S : List Fd} {k : Nat} (h1 : P.length ≤ k) (h2 : k < P.length + A.length) : fat (P ++ (A ++ (B ++ S))) k = fat A (k - P.length) := by
  obtain ⟨j, rfl⟩ : ∃ j, k = P.length + j := ⟨k - P.length, by omega⟩
  rw [fat_app_r, fat_app_l (by omega), Nat.add_sub_cancel_left]
theorem fat_B {P A B S : List Fd} {k : Nat} (h1 : P.length + A.length ≤ k) (h2 : k < P.length + A.length + B.length) : fat (P ++ (A ++ (B ++ S))) k = fat B (k - (P.length + A.length)) := by
  obtain ⟨j, rfl⟩ : ∃ j, k = P.length + (A.length + j) := ⟨k - (P.length + A.length), by omega⟩
  rw [fat_app_r, fat_app_r, fat_app_l (by omega)]
  congr 1; omega
theorem sym_end {P A B S : List Fd} (sA : Srt A) (sB : Srt B) {st en : Nat} (h1 : P.length ≤ st) (h2 : st ≤ P.length + A.length) (e1 : P.length + A.length ≤ en) (e2 : en ≤ P.length + A.length + B.length)
    (h3 : P.length < st → en < P.length + A.length + B.length → ¬ fk (fat (P ++ (A ++ (B ++ S))) en) < fk (fat (P ++ (A ++ (B ++ S))) (st - 1)))
    (h4 : st < P.length + A.length → P.length + A.length < en → fk (fat (P ++ (A ++ (B ++ S))) (en - 1)) < fk (fat (P ++ (A ++ (B ++ S))) st)) :
    mrg A B = mrg (A.take (st - P.length)) (B.take (en - (P.length + A.length))) ++ mrg (A.drop (st - P.length)) (B.drop (en - (P.length + A.length))) := by
  have hc := mrg_cut (A1 := A.take (st - P.length)) (A2 := A.drop (st - P.length)) (B1 := B.take (en - (P.length + A.length))) (B2 := B.drop (en - (P.length + A.length))) (fun x hx y hy => by
      obtain ⟨i, hi, rfl⟩ := List.getElem_of_mem hx
      obtain ⟨j, hj, rfl⟩ := List.getElem_of_mem hy
      simp only [List.length_take, List.length_drop] at hi hj
      have q := h3 (by omega) (by omega)
      rw [fat_A (k := st - 1) (by omega) (by omega), fat_B (k := en) (by omega) (by omega)] at q
      have qa := sA.le (i := i) (j := st - 1 - P.length) (by omega) (by omega)
      have qb := sB.le (i := en - (P.length + A.length)) (j := en - (P.length + A.length) + j) (by omega) (by omega)
      rw [fat_at (i := i) (by omega)] at qa
      rw [fat_at (i := en - (P.length + A.length) + j) (by omega)] at qb
      simp only [List.getElem_take, List.getElem_drop]
      omega) (fun x hx y hy => by
      obtain ⟨i, hi, rfl⟩ := List.getElem_of_mem hx
      obtain ⟨j, hj, rfl⟩ := List.getElem_of_mem hy
      simp only [List.length_take, List.length_drop] at hi hj
      have q := h4 (by omega) (by omega)
      rw [fat_A (k := st) (by omega) (by omega), fat_B (k := en - 1) (by omega) (by omega)] at q
      have qa := sA.le (i := st - P.length) (j := st - P.length + i) (by omega) (by omega)
      have qb := sB.le (i := j) (j := en - 1 - (P.length + A.length)) (by omega) (by omega)
      rw [fat_at (i := st - P.length + i) (by omega)] at qa
      rw [fat_at (i := j) (by omega)] at qb
      simp only [List.getElem_take, List.getElem_drop]
      omega)
  rw [List.take_append_drop, List.take_append_drop] at hc
  exact hc
set_option maxRecDepth 100000 in
set_option maxHeartbeats 16000000 in
theorem symm_ac (N : Nat) (hN2 : N ≤ 1000000) : ∀ (n : Nat) (P A B S : List Fd) (a m b : Int), A.length + B.length = n → N = P.length + A.length + B.length + S.length → 0 < A.length → 0 < B.length → Srt A → Srt B → a = P.length → m = P.length + A.length → b = P.length + A.length + B.length →
    AC Try.prog 157 [.vec 0 N 3, dI a, dI m, dI b, .fn 108 [] []] [(0, fcells (P ++ (A ++ (B ++ S))))] [(0, some (fcells (P ++ (mrg A B ++ S))))] (.tup []) := by
  intro n
  induction n using Nat.strongRecOn with
  | _ n ih =>
  intro P A B S a m b hn hN hA hB sA sB ha hm hb
  by_cases hA1 : A.length = 1
  · obtain ⟨x, rfl⟩ := List.length_eq_one_iff.1 hA1
    exact symA_ac P B S x N a m b (by simp at hN; omega) hN2 hB sB ha (by simpa using hm) (by simpa using hb)
  by_cases hB1 : B.length = 1
  · obtain ⟨y, rfl⟩ := List.length_eq_one_iff.1 hB1
    exact symB_ac P A S y N a m b (by simp at hN; omega) hN2 (by omega) sA ha hm (by simpa using hb)
  obtain ⟨aN, hAN⟩ : ∃ aN, aN = P.length := ⟨_, rfl⟩
  obtain ⟨mN, hMN⟩ : ∃ mN, mN = P.length + A.length := ⟨_, rfl⟩
  obtain ⟨bN, hBN⟩ : ∃ bN, bN = P.length + A.length + B.length := ⟨_, rfl⟩
  obtain ⟨mi, hmi⟩ : ∃ mi, mi = (aN + bN) / 2 := ⟨_, rfl⟩
  obtain ⟨s0, r0, hs⟩ : ∃ s0 r0 : Nat, (decide (m > (mi : Int)) = true ∧ (s0 : Int) = mi + m - b ∧ (r0 : Int) = mi) ∨ (decide (m > (mi : Int)) = false ∧ (s0 : Int) = a ∧ (r0 : Int) = m) := by
    by_cases h : m > (mi : Int)
    · exact ⟨mi + mN - bN, mi, .inl ⟨decide_eq_true h, by omega, rfl⟩⟩
    · exact ⟨aN, mN, .inr ⟨decide_eq_false h, by omega, by omega⟩⟩
  have hb0 : aN ≤ s0 ∧ s0 ≤ r0 ∧ r0 ≤ mN ∧ mi + mN - s0 ≤ bN ∧ mN ≤ mi + mN - r0 ∧ (s0 = aN ∨ mi + mN - s0 = bN) ∧ (r0 = mN ∨ mi + mN - r0 = mN) := by
    rcases hs with ⟨q3, e1, e2⟩ | ⟨q3, e1, e2⟩
    · have := of_decide_eq_true q3; omega
    · have := of_decide_eq_false q3; omega
  have uM := wrap_u (n := a + b) (by omega) (by omega)
  have eM : (a + b).fdiv (2 ^ min 1 IntKind.u64.bits) = (mi : Int) := by
    rw [show (2 : Int) ^ min 1 IntKind.u64.bits = 2 from rfl, Int.fdiv_eq_ediv_of_nonneg _ (by decide)]; omega
  have hab : 0 ≤ a ∧ a ≤ 1000000 ∧ 0 ≤ m ∧ m ≤ 1000000 ∧ 0 ≤ b ∧ b ≤ 1000000 ∧ mi ≤ 1000000 := by omega
  have q : (m - a == 1) = false := by simp; omega
  have q' : (b - m == 1) = false := by simp; omega
  refine kslices_symMergeCmpFunc_Lapi_Found_J.ac (n0 := 8) (by simp) ⟨.vec _ _ _ (by omega), .val _, .val _, .val _, .fn _ _ _ (by simp) (by simp), trivial⟩ ⟨⟨by omega, fcells_in _ _⟩, trivial⟩ (okUp_f (by simp; omega)) ?_
  unfold cslices_symMergeCmpFunc_Lapi_Found_J
  obtain ⟨d, hd⟩ : ∃ d, d = P ++ (A ++ (B ++ S)) := ⟨_, rfl⟩
  rw [← hd]
  refine aw_cut ⟨[(0, .vec 0 N 3), (1, dI a), (2, dI m), (3, dI b), (4, .fn 108 [] [])], [(0, fcells d)], 200⟩ ?_ ?_
  · (repeat' (first | (with_reducible first | refine thenQ_n ?_ | refine blockQ_n ?_ | refine thenQ_e ?_ | refine blockQ_t ?_ | refine blockQ_f (by decide) ?_) | apply aw_seq | apply aw_skip | apply aw_exit | apply aw_ret | apply aw_block | apply aw_condT rfl | apply aw_condF rfl | ((first | refine aw_hide fun K hK => aw_region ?_ | refine ago_if (by omega) ?_ | skip); simp (disch := first | exact okY | omega) only [List.length, Nat.zero_add, Nat.reduceAdd, Nat.reduceMul, envOf, dI, ARun_none, AOpRun, aexec, FSt.ev, St.F, eget_c, Nat.reduceBEq, ↓eget_h, cond_false, AGo_ok, St.app, putO, eput_c, eput_n, hups, List.map, isSh, Bool.false_eq_true, ↓reduceIte, Option.map, abin, fits, q, ARun_nil, dropE_c, inL_c, inL_n, beq_self_eq_true, cond_true, dropE_n]) | subst hK))
    refine wk_q [] [(0, 0)] ?_ ?_ <;> repeat' (first | exact trivial | exact vr_val _ | exact vr_vec _ _ _ _ rfl | apply vr_fn | refine And.intro ⟨_, rfl, .inl ⟨_, rfl, by decide, ?_⟩⟩ ?_ | apply And.intro)
    all_goals exact vrl_flat _ (fcells_in _ _)
  refine aw_cut ⟨[(0, .vec 0 N 3), (1, dI a), (2, dI m), (3, dI b), (4, .fn 108 [] [])], [(0, fcells d)], 400⟩ ?_ ?_
  · (repeat' (first | (with_reducible first | refine thenQ_n ?_ | refine blockQ_n ?_ | refine thenQ_e ?_ | refine blockQ_t ?_ | refine blockQ_f (by decide) ?_) | apply aw_seq | apply aw_skip | apply aw_exit | apply aw_ret | apply aw_block | apply aw_condT rfl | apply aw_condF rfl | ((first | refine aw_hide fun K hK => aw_region ?_ | refine ago_if (by omega) ?_ | skip); simp (disch := first | exact okY | omega) only [List.length, Nat.zero_add, Nat.reduceAdd, Nat.reduceMul, dI, ARun_none, AOpRun, aexec, FSt.ev, St.F, eget_c, Nat.reduceBEq, ↓eget_h, cond_false, AGo_ok, St.app, putO, eput_c, eput_n, hups, List.map, isSh, Bool.false_eq_true, ↓reduceIte, Option.map, abin, fits, q', ARun_nil, dropE_c, inL_c, inL_n, beq_self_eq_true, cond_true, dropE_n]) | subst hK))
    refine wk_q [] [(0, 0)] ?_ ?_ <;> repeat' (first | exact trivial | exact vr_val _ | exact vr_vec _ _ _ _ rfl | apply vr_fn | refine And.intro ⟨_, rfl, .inl ⟨_, rfl, by decide, ?_⟩⟩ ?_ | apply And.intro)
    all_goals exact vrl_flat _ (fcells_in _ _)
  refine aw_seq (aw_region ?_)
  simp (disch := first | exact okY | omega) only [thenQ, List.map, List.length, Nat.zero_add, Nat.reduceAdd, Nat.reduceMul, dI, ARun_none, AOpRun, aexec, FSt.ev, St.F, eget_c, Nat.reduceBEq, ↓eget_h, cond_false, AGo_ok, St.app, putO, eput_c, eput_n, hups, isSh, Bool.false_eq_true, ↓reduceIte, Option.map, abin, fits, uM, ash, Int.reduceLE, Int.reduceToNat, eM, ARun_nil, dropE_c, inL_c, inL_n, beq_self_eq_true, cond_true, dropE_n]
  refine aw_seq (aw_region ?_)
  simp (disch := first | exact okY | omega) only [thenQ, List.length, Nat.zero_add, Nat.reduceAdd, Nat.reduceMul, ARun_none, AOpRun, aexec, FSt.ev, St.F, eget_c, Nat.reduceBEq, ↓eget_h, cond_false, AGo_ok, St.app, putO, eput_c, eput_n, hups, List.map, isSh, Bool.false_eq_true, ↓reduceIte, Option.map, abin, fits, ARun_nil, dropE_c, inL_c, inL_n, beq_self_eq_true, cond_true, dropE_n]
  refine aw_seq (aw_region ?_)
  simp (disch := first | exact okY | omega) only [thenQ, List.length, Nat.zero_add, Nat.reduceAdd, Nat.reduceMul, ARun_none, AOpRun, aexec, FSt.ev, AGo_ok, St.app, putO, eput_c, Nat.reduceBEq, eput_n, cond_false, hups, List.map, ARun_nil, dropE_c, inL_n, dropE_n]
  refine aw_cut ⟨[(0, .vec 0 N 3), (1, dI a), (2, dI m), (3, dI b), (4, .fn 108 [] []), (18, dI mi), (19, dI (mi + m)), (20, dI s0), (21, dI r0)], [(0, fcells d)], 800⟩ ?_ ?_
  · rcases hs with ⟨q3, e1, e2⟩ | ⟨q3, e1, e2⟩
    all_goals
      (repeat' (first | (with_reducible first | refine thenQ_n ?_ | refine blockQ_n ?_ | refine thenQ_e ?_ | refine blockQ_t ?_ | refine blockQ_f (by decide) ?_) | apply aw_seq | apply aw_skip | apply aw_exit | apply aw_ret | apply aw_block | apply aw_condT rfl | apply aw_condF rfl | ((first | refine aw_hide fun K hK => aw_region ?_ | refine ago_if (by omega) ?_ | skip); simp (disch := first | exact okY | omega) only [List.length, Nat.zero_add, Nat.reduceAdd, Nat.reduceMul, ARun_none, AOpRun, aexec, FSt.ev, St.F, eget_c, Nat.reduceBEq, ↓eget_h, cond_false, AGo_ok, St.app, putO, eput_c, eput_n, hups, List.map, isSh, Bool.false_eq_true, ↓reduceIte, Option.map, abin, q3, ARun_nil, dropE_c, inL_c, inL_n, beq_self_eq_true, cond_true, dropE_n, fits, dI]) | subst hK))
      rw [e1, e2]
      refine wk_q [] [(0, 0)] ?_ ?_ <;> repeat' (first | exact trivial | exact vr_val _ | exact vr_vec _ _ _ _ rfl | apply vr_fn | refine And.intro ⟨_, rfl, .inl ⟨_, rfl, by decide, ?_⟩⟩ ?_ | apply And.intro)
      all_goals exact vrl_flat _ (fcells_in _ _)
  refine aw_seq (aw_region ?_)
  simp (disch := first | exact okY | omega) only [thenQ, List.length, Nat.zero_add, Nat.reduceAdd, Nat.reduceMul, dI, ARun_none, AOpRun, aexec, FSt.ev, St.F, eget_c, Nat.reduceBEq, ↓eget_h, cond_false, AGo_ok, St.app, putO, eput_c, eput_n, hups, List.map, isSh, Bool.false_eq_true, ↓reduceIte, Option.map, abin, fits, ARun_nil, dropE_c, inL_c, inL_n, beq_self_eq_true, cond_true, dropE_n]
  have moA : ∀ c c', aN ≤ c → c ≤ c' → c' < mN → fk (fat d c) ≤ fk (fat d c') := fun c c' h1 h2 h3 => by
    rw [hd, fat_A (k := c) (by omega) (by omega), fat_A (k := c') (by omega) (by omega)]
    exact sA.le (by omega) (by omega)
  have moB : ∀ c c', mN ≤ c → c ≤ c' → c' < bN → fk (fat d c) ≤ fk (fat d c') := fun c c' h1 h2 h3 => by
    rw [hd, fat_B (k := c) (by omega) (by omega), fat_B (k := c') (by omega) (by omega)]
    exact sB.le (by omega) (by omega)
  have hdN : d.length = N := by rw [hd]; simp; omega
  refine aw_seq (aw_block (aw_loop (fun q : Nat × Nat => ⟨[(0, .vec 0 N 3), (1, dI a), (2, dI m), (3, dI b), (4, .fn 108 [] []), (18, dI mi), (19, dI (mi + m)), (20, dI q.1), (21, dI q.2), (22, dI (mi + m - 1))], [(0, fcells d)], 1200⟩)
    (fun q => s0 ≤ q.1 ∧ q.1 ≤ q.2 ∧ q.2 ≤ r0 ∧ (∀ c, s0 ≤ c → c < q.1 → ¬ fk (fat d (mi + mN - 1 - c)) < fk (fat d c)) ∧ ∀ c, q.2 ≤ c → c < r0 → fk (fat d (mi + mN - 1 - c)) < fk (fat d c)) (fun q => q.2 - q.1) ⟨(s0, r0), ⟨Nat.le_refl _, hb0.2.1, Nat.le_refl _, fun c h1 h2 => by simp only at h2; omega, fun c h1 h2 => by simp only at h1; omega⟩, ?_⟩ ?_))
  · unfold dI
    refine wk_q [] [(0, 0)] ?_ ?_ <;> repeat' (first | exact trivial | exact vr_val _ | exact vr_vec _ _ _ _ rfl | apply vr_fn | refine And.intro ⟨_, rfl, .inl ⟨_, rfl, by decide, ?_⟩⟩ ?_ | apply And.intro)
    all_goals exact vrl_flat _ (fcells_in _ _)
  rintro ⟨i, j⟩ ⟨h0, h1, h2, h3, h4⟩
  simp only at h0 h1 h2 h3 h4
  try simp only
  by_cases hij : i < j
  · have q1 : decide ((i : Int) < (j : Int)) = true := decide_eq_true (by omega)
    obtain ⟨h, e, e1, e2⟩ := mid0 hij
    have u := wrap_u (n := (i : Int) + (j : Int)) (by omega) (by omega)
    obtain ⟨k, hk⟩ : ∃ k, k = mi + mN - 1 - h := ⟨_, rfl⟩
    have t1 : ((mi : Int) + m - 1 - (h : Int)).toNat = k := by omega
    have t2 : (h : Int).toNat = h := Int.toNat_natCast h
    have r1 := fcells_rd d k (by omega)
    have r2 := fcells_rd d h (by omega)
    have fl := fcells_len d
    rw [hdN] at fl
    have cm := cmpF_ac (fat d k) (fat d h)
    have cl := cpF_lt (fat d k) (fat d h)
    have hkb : (k : Int) = mi + m - 1 - h := by omega
    generalize hC : fcells d = C at *
    generalize cpF (fat d k) (fat d h) = cv at *
    simp only [fc, dI] at r1 r2 cm
    by_cases hc : fk (fat d k) < fk (fat d h)
    · rw [decide_eq_true hc] at cl
      have h5 : ∀ c, h ≤ c → c < r0 → fk (fat d (mi + mN - 1 - c)) < fk (fat d c) := fun c x1 x2 => by
        have := moA h c (by omega) x1 (by omega)
        have := moB (mi + mN - 1 - c) k (by omega) (by omega) (by omega)
        omega
      clear h4 moA moB ih hs
      (repeat' (first | (with_reducible first | refine thenQ_n ?_ | refine blockQ_n ?_ | refine thenQ_e ?_ | refine blockQ_t ?_ | refine blockQ_f (by decide) ?_) | apply aw_seq | apply aw_skip | apply aw_exit | apply aw_ret | apply aw_block | apply aw_condT rfl | apply aw_condF rfl | ((first | refine aw_hide fun K hK => aw_region ?_ | refine acall0 (cm) ?_ | refine ago_if (by omega) ?_ | skip); simp (disch := first | exact okY | omega) only [List.length, Nat.zero_add, Nat.reduceAdd, Nat.reduceMul, dI, ARun_none, AOpRun, aexec, FSt.ev, St.F, eget_c, Nat.reduceBEq, ↓eget_h, cond_false, AGo_ok, St.app, putO, eput_c, eput_n, hups, List.map, isSh, Bool.false_eq_true, ↓reduceIte, Option.map, abin, q1, ARun_nil, dropE_c, inL_c, inL_n, beq_self_eq_true, cond_true, dropE_n, fits, u, ash, Int.reduceLE, Int.reduceToNat, e, and_true, t1, hget_c, hget_n, fl, r1, Int.natCast_nonneg, true_and, t2, r2, cl, Bool.not_true]) | subst hK))
      refine ⟨(i, h), ⟨h0, by simp only; omega, by simp only; omega, h3, h5⟩, by simp only; omega, ?_⟩
      simp only
      subst hC
      refine wk_q [] [(0, 0)] ?_ ?_ <;> repeat' (first | exact trivial | exact vr_val _ | exact vr_vec _ _ _ _ rfl | apply vr_fn | refine And.intro ⟨_, rfl, .inl ⟨_, rfl, by decide, ?_⟩⟩ ?_ | apply And.intro)
      all_goals exact vrl_flat _ (fcells_in _ _)
    · rw [decide_eq_false hc] at cl
      have h5 : ∀ c, s0 ≤ c → c < h + 1 → ¬ fk (fat d (mi + mN - 1 - c)) < fk (fat d c) := fun c x1 x2 => by
        have := moA c h (by omega) (by omega) (by omega)
        have := moB k (mi + mN - 1 - c) (by omega) (by omega) (by omega)
        omega
      clear h3 moA moB ih hs
      (repeat' (first | (with_reducible first | refine thenQ_n ?_ | refine blockQ_n ?_ | refine thenQ_e ?_ | refine blockQ_t ?_ | refine blockQ_f (by decide) ?_) | apply aw_seq | apply aw_skip | apply aw_exit | apply aw_ret | apply aw_block | apply aw_condT rfl | apply aw_condF rfl | ((first | refine aw_hide fun K hK => aw_region ?_ | refine acall0 (cm) ?_ | refine ago_if (by omega) ?_ | skip); simp (disch := first | exact okY | omega) only [List.length, Nat.zero_add, Nat.reduceAdd, Nat.reduceMul, dI, ARun_none, AOpRun, aexec, FSt.ev, St.F, eget_c, Nat.reduceBEq, ↓eget_h, cond_false, AGo_ok, St.app, putO, eput_c, eput_n, hups, List.map, isSh, Bool.false_eq_true, ↓reduceIte, Option.map, abin, q1, ARun_nil, dropE_c, inL_c, inL_n, beq_self_eq_true, cond_true, dropE_n, fits, u, ash, Int.reduceLE, Int.reduceToNat, e, and_true, t1, hget_c, hget_n, fl, r1, Int.natCast_nonneg, true_and, t2, r2, cl, Bool.not_false]) | subst hK))
      refine ⟨(h + 1, j), ⟨by simp only; omega, by simp only; omega, h2, h5, h4⟩, by simp only; omega, ?_⟩
      simp only [Int.natCast_add, Int.cast_ofNat_Int]
      subst hC
      refine wk_q [] [(0, 0)] ?_ ?_ <;> repeat' (first | exact trivial | exact vr_val _ | exact vr_vec _ _ _ _ rfl | apply vr_fn | refine And.intro ⟨_, rfl, .inl ⟨_, rfl, by decide, ?_⟩⟩ ?_ | apply And.intro)
      all_goals exact vrl_flat _ (fcells_in _ _)
  obtain rfl : i = j := by omega
  have q1 : decide ((i : Int) < (i : Int)) = false := decide_eq_false (by omega)
  (iterate 6 (try (first | apply aw_seq | ((first | apply aw_skip | apply aw_exit); with_reducible repeat' (first | refine thenQ_n ?_ | refine blockQ_n ?_ | refine thenQ_e ?_ | refine blockQ_t ?_ | refine blockQ_f (by decide) ?_)) | apply aw_ret | apply aw_block | apply aw_condT rfl | apply aw_condF rfl | ((first | refine aw_hide fun K hK => aw_region ?_ | refine ago_if (by omega) ?_ | skip); simp (disch := first | exact okY | omega) only [List.length, Nat.zero_add, Nat.reduceAdd, Nat.reduceMul, dI, ARun_none, AOpRun, aexec, FSt.ev, St.F, eget_c, Nat.reduceBEq, ↓eget_h, cond_false, AGo_ok, St.app, putO, eput_c, eput_n, hups, List.map, isSh, Bool.false_eq_true, ↓reduceIte, Option.map, abin, q1, ARun_nil, dropE_c, inL_c, inL_n, beq_self_eq_true, cond_true, dropE_n]) | (subst hK; with_reducible repeat' (first | refine thenQ_n ?_ | refine blockQ_n ?_ | refine thenQ_e ?_ | refine blockQ_t ?_ | refine blockQ_f (by decide) ?_)))))
  refine aw_seq (aw_region ?_)
  simp (disch := first | exact okY | omega) only [thenQ, List.length, Nat.zero_add, Nat.reduceAdd, Nat.reduceMul, ARun_none, AOpRun, aexec, FSt.ev, St.F, eget_c, Nat.reduceBEq, ↓eget_h, cond_false, AGo_ok, St.app, putO, eput_c, eput_n, hups, List.map, isSh, Bool.false_eq_true, ↓reduceIte, Option.map, abin, fits, ARun_nil, dropE_c, inL_c, inL_n, beq_self_eq_true, cond_true, dropE_n]
  obtain ⟨en, hen⟩ : ∃ en, en = mi + mN - i := ⟨_, rfl⟩
  have hst : aN ≤ i ∧ i ≤ mN ∧ mN ≤ en ∧ en ≤ bN ∧ en + i = mi + mN := by omega
  have hme := sym_end (P := P) (S := S) sA sB (st := i) (en := en) (by omega) (by omega) (by omega) (by omega) (fun x1 x2 => by
      rw [← hd]
      have := h3 (i - 1) (by omega) (by omega)
      rw [show mi + mN - 1 - (i - 1) = en by omega] at this
      exact this) (fun x1 x2 => by
      rw [← hd]
      have := h4 i (Nat.le_refl _) (by omega)
      rw [show mi + mN - 1 - i = en - 1 by omega] at this
      exact this)
  rw [hme]
  have sA1 := sA.take (i - P.length)
  have sA2 := sA.drop (i - P.length)
  have sB1 := sB.take (en - (P.length + A.length))
  have sB2 := sB.drop (en - (P.length + A.length))
  have hA12 := List.take_append_drop (i - P.length) A
  have hB12 := List.take_append_drop (en - (P.length + A.length)) B
  have la1 : (A.take (i - P.length)).length = i - P.length := by simp; omega
  have la2 : (A.drop (i - P.length)).length = A.length - (i - P.length) := by simp
  have lb1 : (B.take (en - (P.length + A.length))).length = en - (P.length + A.length) := by simp; omega
  have lb2 : (B.drop (en - (P.length + A.length))).length = B.length - (en - (P.length + A.length)) := by simp
  clear hme h3 h4 moA moB hs
  generalize A.take (i - P.length) = A1 at *
  generalize A.drop (i - P.length) = A2 at *
  generalize B.take (en - (P.length + A.length)) = B1 at *
  generalize B.drop (en - (P.length + A.length)) = B2 at *
  have hd1 : (P ++ A1) ++ (A2 ++ (B1 ++ (B2 ++ S))) = d := by rw [hd, ← hA12, ← hB12]; simp
  have ee : (mi : Int) + m - (i : Int) = (en : Int) := by omega
  rw [ee]
  have lq1 : (P ++ A1).length = P.length + A1.length := by simp
  have lq2 : (B2 ++ S).length = B2.length + S.length := by simp
  refine aw_cut ⟨[(0, .vec 0 N 3), (1, dI a), (3, dI b), (4, .fn 108 [] []), (18, dI mi), (20, dI i), (24, dI en)], [(0, fcells (P ++ (A1 ++ (B1 ++ (A2 ++ (B2 ++ S))))))], 2000⟩ ?_ ?_
  · by_cases qa : (i : Int) < m
    case neg =>
      have qa' : decide ((i : Int) < m) = false := decide_eq_false qa
      obtain rfl : A2 = [] := List.length_eq_zero_iff.1 (show A2.length = 0 by omega)
      rw [← hd1]
      simp only [List.nil_append, List.append_assoc]
      (repeat' (first | (with_reducible first | refine thenQ_n ?_ | refine blockQ_n ?_ | refine thenQ_e ?_ | refine blockQ_t ?_ | refine blockQ_f (by decide) ?_) | apply aw_seq | apply aw_skip | apply aw_exit | apply aw_ret | apply aw_block | apply aw_condT rfl | apply aw_condF rfl | ((first | refine aw_hide fun K hK => aw_region ?_ | refine ago_if (by omega) ?_ | skip); simp (disch := first | exact okY | omega) only [List.length, Nat.zero_add, Nat.reduceAdd, Nat.reduceMul, ARun_none, AOpRun, aexec, FSt.ev, St.F, eget_c, Nat.reduceBEq, ↓eget_h, cond_false, AGo_ok, St.app, putO, eput_c, eput_n, hups, List.map, isSh, Bool.false_eq_true, ↓reduceIte, Option.map, abin, qa', ARun_some, AG_ft, ARun_nil, dropE_c, inL_c, inL_n, beq_self_eq_true, cond_true, dropE_n, dI]) | subst hK))
      refine wk_q [] [(0, 0)] ?_ ?_ <;> repeat' (first | exact trivial | exact vr_val _ | exact vr_vec _ _ _ _ rfl | apply vr_fn | refine And.intro ⟨_, rfl, .inl ⟨_, rfl, by decide, ?_⟩⟩ ?_ | apply And.intro)
      all_goals exact vrl_flat _ (fcells_in _ _)
    have qa' : decide ((i : Int) < m) = true := decide_eq_true qa
    by_cases qb : m < (en : Int)
    case neg =>
      have qb' : decide (m < (en : Int)) = false := decide_eq_false qb
      obtain rfl : B1 = [] := List.length_eq_zero_iff.1 (show B1.length = 0 by omega)
      rw [← hd1]
      simp only [List.nil_append, List.append_assoc]
      (repeat' (first | (with_reducible first | refine thenQ_n ?_ | refine blockQ_n ?_ | refine thenQ_e ?_ | refine blockQ_t ?_ | refine blockQ_f (by decide) ?_) | apply aw_seq | apply aw_skip | apply aw_exit | apply aw_ret | apply aw_block | apply aw_condT rfl | apply aw_condF rfl | ((first | refine aw_hide fun K hK => aw_region ?_ | refine ago_if (by omega) ?_ | skip); simp (disch := first | exact okY | omega) only [List.length, Nat.zero_add, Nat.reduceAdd, Nat.reduceMul, ARun_none, AOpRun, aexec, FSt.ev, St.F, eget_c, Nat.reduceBEq, ↓eget_h, cond_false, AGo_ok, St.app, putO, eput_c, eput_n, hups, List.map, isSh, Bool.false_eq_true, ↓reduceIte, Option.map, abin, qa', ARun_some, AG_tt, qb', ARun_nil, dropE_c, inL_c, inL_n, beq_self_eq_true, cond_true, dropE_n, dI]) | subst hK))
      refine wk_q [] [(0, 0)] ?_ ?_ <;> repeat' (first | exact trivial | exact vr_val _ | exact vr_vec _ _ _ _ rfl | apply vr_fn | refine And.intro ⟨_, rfl, .inl ⟨_, rfl, by decide, ?_⟩⟩ ?_ | apply And.intro)
      all_goals exact vrl_flat _ (fcells_in _ _)
    have qb' : decide (m < (en : Int)) = true := decide_eq_true qb
    have c := rotate_ac (P ++ A1) A2 B1 (B2 ++ S) N i m en (by omega) hN2 (by omega) (by omega) (by omega) (by omega) (by omega)
    rw [hd1] at c
    (repeat' (first | (with_reducible first | refine thenQ_n ?_ | refine blockQ_n ?_ | refine thenQ_e ?_ | refine blockQ_t ?_ | refine blockQ_f (by decide) ?_) | apply aw_seq | apply aw_skip | apply aw_exit | apply aw_ret | apply aw_block | apply aw_condT rfl | apply aw_condF rfl | ((first | refine aw_hide fun K hK => aw_region ?_ | refine acallB (c) (by repeat' (first | exact trivial | exact rfl | refine And.intro ?_ ?_)) (by kernel_rfl) (by kernel_rfl) (by kernel_rfl) ?_ | refine ago_if (by omega) ?_ | skip); simp (disch := first | exact okY | omega) only [List.length, Nat.zero_add, Nat.reduceAdd, Nat.reduceMul, ARun_none, AOpRun, aexec, FSt.ev, St.F, eget_c, Nat.reduceBEq, ↓eget_h, cond_false, AGo_ok, St.app, putO, eput_c, eput_n, hups, List.map, isSh, Bool.false_eq_true, ↓reduceIte, Option.map, abin, qa', ARun_some, AG_tt, qb', ARun_nil, dropE_c, inL_c, inL_n, beq_self_eq_true, cond_true, dropE_n, hput_c, hput_n, List.append_nil, dI]) | subst hK))
    simp only [List.append_assoc]
    refine wk_q [] [(0, 0)] ?_ ?_ <;> repeat' (first | exact trivial | exact vr_val _ | exact vr_vec _ _ _ _ rfl | apply vr_fn | refine And.intro ⟨_, rfl, .inl ⟨_, rfl, by decide, ?_⟩⟩ ?_ | apply And.intro)
    all_goals exact vrl_flat _ (fcells_in _ _)
  clear hd1 hd hdN
  refine aw_cut ⟨[(0, .vec 0 N 3), (3, dI b), (4, .fn 108 [] []), (18, dI mi), (24, dI en)], [(0, fcells (P ++ (mrg A1 B1 ++ (A2 ++ (B2 ++ S)))))], 4000⟩ ?_ ?_
  · by_cases qa : a < (i : Int)
    case neg =>
      have qa' : decide (a < (i : Int)) = false := decide_eq_false qa
      obtain rfl : A1 = [] := List.length_eq_zero_iff.1 (show A1.length = 0 by omega)
      rw [mrg_nil]
      simp only [List.nil_append]
      (repeat' (first | (with_reducible first | refine thenQ_n ?_ | refine blockQ_n ?_ | refine thenQ_e ?_ | refine blockQ_t ?_ | refine blockQ_f (by decide) ?_) | apply aw_seq | apply aw_skip | apply aw_exit | apply aw_ret | apply aw_block | apply aw_condT rfl | apply aw_condF rfl | ((first | refine aw_hide fun K hK => aw_region ?_ | refine ago_if (by omega) ?_ | skip); simp (disch := first | exact okY | omega) only [List.length, Nat.zero_add, Nat.reduceAdd, Nat.reduceMul, dI, ARun_none, AOpRun, aexec, FSt.ev, St.F, eget_c, Nat.reduceBEq, ↓eget_h, cond_false, AGo_ok, St.app, putO, eput_c, eput_n, hups, List.map, isSh, Bool.false_eq_true, ↓reduceIte, Option.map, abin, qa', ARun_some, AG_ft, ARun_nil, dropE_c, inL_c, inL_n, beq_self_eq_true, cond_true, dropE_n]) | subst hK))
      refine wk_q [] [(0, 0)] ?_ ?_ <;> repeat' (first | exact trivial | exact vr_val _ | exact vr_vec _ _ _ _ rfl | apply vr_fn | refine And.intro ⟨_, rfl, .inl ⟨_, rfl, by decide, ?_⟩⟩ ?_ | apply And.intro)
      all_goals exact vrl_flat _ (fcells_in _ _)
    have qa' : decide (a < (i : Int)) = true := decide_eq_true qa
    by_cases qb : (i : Int) < (mi : Int)
    case neg =>
      have qb' : decide ((i : Int) < (mi : Int)) = false := decide_eq_false qb
      obtain rfl : B1 = [] := List.length_eq_zero_iff.1 (show B1.length = 0 by omega)
      rw [mrg_nil2]
      simp only [List.nil_append]
      (repeat' (first | (with_reducible first | refine thenQ_n ?_ | refine blockQ_n ?_ | refine thenQ_e ?_ | refine blockQ_t ?_ | refine blockQ_f (by decide) ?_) | apply aw_seq | apply aw_skip | apply aw_exit | apply aw_ret | apply aw_block | apply aw_condT rfl | apply aw_condF rfl | ((first | refine aw_hide fun K hK => aw_region ?_ | refine ago_if (by omega) ?_ | skip); simp (disch := first | exact okY | omega) only [List.length, Nat.zero_add, Nat.reduceAdd, Nat.reduceMul, dI, ARun_none, AOpRun, aexec, FSt.ev, St.F, eget_c, Nat.reduceBEq, ↓eget_h, cond_false, AGo_ok, St.app, putO, eput_c, eput_n, hups, List.map, isSh, Bool.false_eq_true, ↓reduceIte, Option.map, abin, qa', ARun_some, AG_tt, qb', ARun_nil, dropE_c, inL_c, inL_n, beq_self_eq_true, cond_true, dropE_n]) | subst hK))
      refine wk_q [] [(0, 0)] ?_ ?_ <;> repeat' (first | exact trivial | exact vr_val _ | exact vr_vec _ _ _ _ rfl | apply vr_fn | refine And.intro ⟨_, rfl, .inl ⟨_, rfl, by decide, ?_⟩⟩ ?_ | apply And.intro)
      all_goals exact vrl_flat _ (fcells_in _ _)
    have qb' : decide ((i : Int) < (mi : Int)) = true := decide_eq_true qb
    have c := ih (A1.length + B1.length) (by omega) P A1 B1 (A2 ++ (B2 ++ S)) a i mi rfl (by rw [List.length_append]; omega) (by omega) (by omega) sA1 sB1 ha (by omega) (by omega)
    (repeat' (first | (with_reducible first | refine thenQ_n ?_ | refine blockQ_n ?_ | refine thenQ_e ?_ | refine blockQ_t ?_ | refine blockQ_f (by decide) ?_) | apply aw_seq | apply aw_skip | apply aw_exit | apply aw_ret | apply aw_block | apply aw_condT rfl | apply aw_condF rfl | ((first | refine aw_hide fun K hK => aw_region ?_ | refine acallB (c) (by repeat' (first | exact trivial | exact rfl | refine And.intro ?_ ?_)) (by kernel_rfl) (by kernel_rfl) (by kernel_rfl) ?_ | refine ago_if (by omega) ?_ | skip); simp (disch := first | exact okY | omega) only [List.length, Nat.zero_add, Nat.reduceAdd, Nat.reduceMul, dI, ARun_none, AOpRun, aexec, FSt.ev, St.F, eget_c, Nat.reduceBEq, ↓eget_h, cond_false, AGo_ok, St.app, putO, eput_c, eput_n, hups, List.map, isSh, Bool.false_eq_true, ↓reduceIte, Option.map, abin, qa', ARun_some, AG_tt, qb', ARun_nil, dropE_c, inL_c, inL_n, beq_self_eq_true, cond_true, dropE_n, hput_c, hput_n, List.append_nil]) | subst hK))
    refine wk_q [] [(0, 0)] ?_ ?_ <;> repeat' (first | exact trivial | exact vr_val _ | exact vr_vec _ _ _ _ rfl | apply vr_fn | refine And.intro ⟨_, rfl, .inl ⟨_, rfl, by decide, ?_⟩⟩ ?_ | apply And.intro)
    all_goals exact vrl_flat _ (fcells_in _ _)
  have lm := mrg_len _ A1 B1 rfl
  have hf : P ++ (mrg A1 B1 ++ mrg A2 B2 ++ S) = (P ++ mrg A1 B1) ++ (mrg A2 B2 ++ S) := by simp
  rw [hf, show P ++ (mrg A1 B1 ++ (A2 ++ (B2 ++ S))) = (P ++ mrg A1 B1) ++ (A2 ++ (B2 ++ S)) by simp]
  have lq3 : (P ++ mrg A1 B1).length = P.length + A1.length + B1.length := by rw [List.length_append, lm]; omega
  clear hf lm
  generalize P ++ mrg A1 B1 = Q at *
  by_cases qa : (mi : Int) < (en : Int)
  case neg =>
    have qa' : decide ((mi : Int) < (en : Int)) = false := decide_eq_false qa
    obtain rfl : A2 = [] := List.length_eq_zero_iff.1 (show A2.length = 0 by omega)
    rw [mrg_nil]
    simp only [List.nil_append]
    (repeat' (first | (with_reducible first | refine thenQ_n ?_ | refine blockQ_n ?_ | refine thenQ_e ?_ | refine blockQ_t ?_ | refine blockQ_f (by decide) ?_) | apply aw_seq | apply aw_skip | apply aw_exit | apply aw_ret | apply aw_block | apply aw_condT rfl | apply aw_condF rfl | ((first | refine aw_hide fun K hK => aw_region ?_ | refine ago_if (by omega) ?_ | skip); simp (disch := first | exact okY | omega) only [List.length, Nat.zero_add, Nat.reduceAdd, Nat.reduceMul, dI, ARun_none, AOpRun, aexec, FSt.ev, St.F, eget_c, Nat.reduceBEq, ↓eget_h, cond_false, AGo_ok, St.app, putO, eput_c, eput_n, hups, List.map, isSh, Bool.false_eq_true, ↓reduceIte, Option.map, abin, qa', ARun_some, AG_ft, ARun_nil, dropE_c, inL_c, inL_n, beq_self_eq_true, cond_true, dropE_n]) | subst hK))
    all_goals (refine end_q [] [(0, 0)] ?_ ?_ <;> repeat' (first | exact trivial | apply vr_tup | refine And.intro ⟨_, rfl, _, rfl, by decide, ?_⟩ ?_))
    all_goals exact vrl_flat _ (fcells_in _ _)
  have qa' : decide ((mi : Int) < (en : Int)) = true := decide_eq_true qa
  by_cases qb : (en : Int) < b
  case neg =>
    have qb' : decide ((en : Int) < b) = false := decide_eq_false qb
    obtain rfl : B2 = [] := List.length_eq_zero_iff.1 (show B2.length = 0 by omega)
    rw [mrg_nil2]
    simp only [List.nil_append]
    (repeat' (first | (with_reducible first | refine thenQ_n ?_ | refine blockQ_n ?_ | refine thenQ_e ?_ | refine blockQ_t ?_ | refine blockQ_f (by decide) ?_) | apply aw_seq | apply aw_skip | apply aw_exit | apply aw_ret | apply aw_block | apply aw_condT rfl | apply aw_condF rfl | ((first | refine aw_hide fun K hK => aw_region ?_ | refine ago_if (by omega) ?_ | skip); simp (disch := first | exact okY | omega) only [List.length, Nat.zero_add, Nat.reduceAdd, Nat.reduceMul, dI, ARun_none, AOpRun, aexec, FSt.ev, St.F, eget_c, Nat.reduceBEq, ↓eget_h, cond_false, AGo_ok, St.app, putO, eput_c, eput_n, hups, List.map, isSh, Bool.false_eq_true, ↓reduceIte, Option.map, abin, qa', ARun_some, AG_tt, qb', ARun_nil, dropE_c, inL_c, inL_n, beq_self_eq_true, cond_true, dropE_n]) | subst hK))
    all_goals (refine end_q [] [(0, 0)] ?_ ?_ <;> repeat' (first | exact trivial | apply vr_tup | refine And.intro ⟨_, rfl, _, rfl, by decide, ?_⟩ ?_))
    all_goals exact vrl_flat _ (fcells_in _ _)
  have qb' : decide ((en : Int) < b) = true := decide_eq_true qb
  have c := ih (A2.length + B2.length) (by omega) Q A2 B2 S mi en b rfl (by omega) (by omega) (by omega) sA2 sB2 (by omega) (by omega) (by omega)
  (repeat' (first | (with_reducible first | refine thenQ_n ?_ | refine blockQ_n ?_ | refine thenQ_e ?_ | refine blockQ_t ?_ | refine blockQ_f (by decide) ?_) | apply aw_seq | apply aw_skip | apply aw_exit | apply aw_ret | apply aw_block | apply aw_condT rfl | apply aw_condF rfl | ((first | refine aw_hide fun K hK => aw_region ?_ | refine acallB (c) (by repeat' (first | exact trivial | exact rfl | refine And.intro ?_ ?_)) (by kernel_rfl) (by kernel_rfl) (by kernel_rfl) ?_ | refine ago_if (by omega) ?_ | skip); simp (disch := first | exact okY | omega) only [List.length, Nat.zero_add, Nat.reduceAdd, Nat.reduceMul, dI, ARun_none, AOpRun, aexec, FSt.ev, St.F, eget_c, Nat.reduceBEq, ↓eget_h, cond_false, AGo_ok, St.app, putO, eput_c, eput_n, hups, List.map, isSh, Bool.false_eq_true, ↓reduceIte, Option.map, abin, qa', ARun_some, AG_tt, qb', ARun_nil, dropE_c, inL_c, inL_n, beq_self_eq_true, cond_true, dropE_n, hput_c, hput_n, List.append_nil]) | subst hK))
  all_goals (refine end_q [] [(0, 0)] ?_ ?_ <;> repeat' (first | exact trivial | apply vr_tup | refine And.intro ⟨_, rfl, _, rfl, by decide, ?_⟩ ?_))
  all_goals exact vrl_flat _ (fcells_in _ _)
end Go.Proofs.Ytdcodicoclecnaa
