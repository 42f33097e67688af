/- Texts of the law TopHeard, part 7. No conditions. -/
import Derived.Test.YtgibbaadjbohdaaPTopHeard06
import Derived.Test.YtgibbaadjbohdaaRows
/- health: the sums of an average. No conditions. -/
set_option linter.unusedSimpArgs false
set_option linter.unusedVariables false
namespace Go.Proofs.Ytgibbaadjbohdaa
open Go.RowKit Lift

/-- one point of one turn, in the machine's numbers -/
theorem point_ok {s m : List Int} (h : VibOk s m) {n i k : Nat} (hi : i + 1 < m.length) (hk : k < n) (hn : n ≤ 24) :
    ∃ a b P w q R Q : Nat, iat m i = a ∧ iat m (i + 1) = b ∧ (b : Int) - a = w ∧ k * w = P ∧ P < 10000 ∧ P / n = q ∧ P % n = R ∧ R < n ∧ a + q = Q ∧ Q + 1 < s.length ∧ b < 400 ∧ w < 400 ∧
      (R = 0 → avV s m n i k = ((n : Int) - R) * iat s Q) ∧ (0 < R → avV s m n i k = ((n : Int) - R) * iat s Q + (R : Int) * iat s (Q + 1)) := by
  obtain ⟨a, w, h1, h2, h3, h4, h5, h6⟩ := turn_ok h hi
  have hq := quo_lt hk h3
  have hr : k * w % n < n := Nat.mod_lt _ (by omega)
  have hl := h.sl
  have hP : k * w ≤ 24 * 400 := Nat.mul_le_mul (by omega) (by omega)
  refine ⟨a, a + w, k * w, w, k * w / n, k * w % n, a + k * w / n, h1, h2, by omega, rfl, by omega, rfl, rfl, hr, rfl, by omega, by omega, by omega, fun hR => ?_, fun hR => ?_⟩
  · unfold avV
    rw [h5, h6, if_pos hR, hR, Int.natCast_zero, Int.sub_zero]
  · unfold avV
    rw [h5, h6, if_neg (by omega)]
set_option maxRecDepth 100000 in
set_option maxHeartbeats 8000000 in
theorem havg_ok (s m : List Int) (n : Nat) (h : VibOk s m) (h0 : vibE s m = 0) (hn0 : 1 ≤ n) (hn : n ≤ 24) : AC Try.prog 28 [.agg [.list (ints s), .list (ints m)], dI n] [] [] (.tup [.list (ints (sumL s m n (m.length - 1) 0)), dI ((n : Int) * ((m.length : Int) - 1)), dI 0]) := by
  refine khealth_Average.ac (n0 := 0) (by simp) ⟨in_vib _ _ _, .val _, trivial⟩ trivial rfl ?_
  unfold chealth_Average
  have hs := h.sl
  have hml := h.ml
  have hmh := h.mh
  have c1 := hcheck_ac s m (by omega) (by omega)
  rw [h0] at c1
  have c2 := hwithin_ac n 1 24
  rw [wI_y (by omega) (by omega)] at c2
  have ml := ints_len m
  have sl := ints_len s
  have mg := ints_all m
  have sg := ints_all s
  have hrz := rep_ic n
  have m1 : (0 : Int) ≤ (n : Int) := by omega
  have m2 : (n : Int) * 8 ≤ 2 ^ 48 := by omega
  have m3 : (n : Int) < 2 ^ 62 := by omega
  refine aw_seq (aw_region ?_)
  simp (config := {maxSteps := 10000000}) (disch := first | exact okYes (by kernel_rfl) | omega) only [thenQ, List.map, dI, List.length, Nat.zero_add, Nat.reduceAdd, Nat.reduceMul, envOf, ARun_none, AOpRun, aexec, D.isBot, FSt.ev, St.F, ↓eget_h, Bool.false_eq_true, Option.isSome, hget_n, or_self, ↓reduceIte, D.cells, AGo_ok, St.app, putO, eput_c, Nat.reduceBEq, eput_n, cond_false, hups, hput_n, ARun_nil, dropE_c, inL_n, dropE_n]
  refine aw_seq (aw_seq (aw_region ?_))
  simp (config := {maxSteps := 10000000}) (disch := first | exact okYes (by kernel_rfl) | omega) only [thenQ, List.length, Nat.zero_add, Nat.reduceAdd, Nat.reduceMul, ARun_none, AOpRun, aexec, FSt.ev, St.F, eget_c, Nat.reduceBEq, ↓eget_h, cond_false, hget_c, beq_self_eq_true, hget_n, cond_true, Nat.reduceLeDiff, ↓reduceIte, List.drop, List.take, AGo_ok, St.app, putO, eput_c, eput_n, hups, List.map]
  refine acall0 c1 ?_
  simp (config := {maxSteps := 10000000}) (disch := first | exact okYes (by kernel_rfl) | omega) only [Nat.reduceAdd, St.app, putO, dI, eput_c, Nat.reduceBEq, eput_n, cond_false, hups, ARun_none, AOpRun, aexec, FSt.ev, St.F, eget_c, ↓eget_h, AGo_ok, List.map, ARun_nil, dropE_c, inL_c, inL_n, beq_self_eq_true, cond_true, dropE_n]
  refine aw_seq (aw_region ?_)
  simp (config := {maxSteps := 10000000}) (disch := first | exact okYes (by kernel_rfl) | omega) only [thenQ, List.length, Nat.zero_add, Nat.reduceAdd, Nat.reduceMul, ARun_none, AOpRun, aexec, FSt.ev, St.F, eget_c, Nat.reduceBEq, ↓eget_h, cond_false, AGo_ok, St.app, putO, eput_c, eput_n, hups, List.map, isSh, Bool.false_eq_true, ↓reduceIte, Option.map, abin, bne_self_eq_false, ARun_nil, dropE_c, inL_c, inL_n, beq_self_eq_true, cond_true, dropE_n]
  refine aw_condF rfl (aw_skip ?_)
  refine aw_seq (aw_seq (aw_region ?_))
  simp (config := {maxSteps := 10000000}) (disch := first | exact okYes (by kernel_rfl) | omega) only [thenQ, List.length, Nat.zero_add, Nat.reduceAdd, Nat.reduceMul, ARun_none, AOpRun, aexec, FSt.ev, St.F, eget_c, Nat.reduceBEq, ↓eget_h, cond_false, AGo_ok, St.app, putO, eput_c, eput_n, hups, List.map]
  refine acall0 c2 ?_
  simp (config := {maxSteps := 10000000}) (disch := first | exact okYes (by kernel_rfl) | omega) only [Nat.reduceAdd, St.app, putO, dB, eput_c, Nat.reduceBEq, eput_n, cond_false, hups, ARun_none, AOpRun, aexec, FSt.ev, St.F, eget_c, ↓eget_h, Bool.not_true, AGo_ok, List.map, ARun_nil, dropE_c, inL_c, inL_n, beq_self_eq_true, cond_true, dropE_n]
  refine aw_condF rfl (aw_skip ?_)
  refine aw_seq (aw_region ?_)
  simp (config := {maxSteps := 10000000}) (disch := first | exact okYes (by kernel_rfl) | omega) only [thenQ, List.length, Nat.zero_add, Nat.reduceAdd, Nat.reduceMul, ARun_none, AOpRun, aexec, FSt.ev, St.F, eget_c, Nat.reduceBEq, ↓eget_h, cond_false, AGo_ok, St.app, putO, eput_c, eput_n, hups, List.map, m1, cast_lit, m2, m3, Option.isSome, hget_c, hget_n, and_self, ↓reduceIte, Int.toNat_natCast, hrz, hput_c, hput_n, beq_self_eq_true, cond_true, ARun_nil, dropE_c, inL_c, inL_n, dropE_n]
  refine aw_wk (s' := ⟨[(1, dI n), (2, .ptr 0 0), (4, .vec 200 n 1)], [(0, [.list (ints s), .list (ints m)]), (200, icells (sumL s m n 0 0))], 300⟩) ?_ ?_
  · rw [sumL_zero]
    unfold dI
    refine wk_to [] [(0, 0), (200, 104)] (by kernel_rfl) (by kernel_rfl) (by kernel_rfl) (by kernel_rfl) (by kernel_rfl) ?_ ?_ <;> repeat' (first | exact trivial | exact vr_val _ | exact vr_list _ | exact vr_vec _ _ _ _ rfl | exact vr_ptr _ _ _ rfl | refine And.intro ⟨_, rfl, .inl ⟨_, rfl, by decide, ?_⟩⟩ ?_ | apply And.intro | exact vrl_flat _ (by first | exact icells_in _ | exact rcells_in _ | exact scells_in _ | exact bcells_in _ | assumption))
  refine aw_seq (aw_seq (aw_region ?_))
  simp (config := {maxSteps := 10000000}) (disch := first | exact okYes (by kernel_rfl) | omega) only [thenQ, List.length, Nat.zero_add, Nat.reduceAdd, Nat.reduceMul, dI, ARun_none, AOpRun, aexec, FSt.ev, St.F, eget_c, Nat.reduceBEq, ↓eget_h, cond_false, AGo_ok, St.app, putO, eput_c, eput_n, hups, List.map, Option.map, run1, hget_c, beq_self_eq_true, hget_n, cond_true, List.getElem?_cons_succ, List.getElem?_cons_zero, ml, isSh, Bool.false_eq_true, ↓reduceIte, abin, fits, ARun_nil, dropE_c, inL_c, inL_n, dropE_n]
  refine aw_block (aw_loop (fun i : Nat => ⟨[(1, dI n), (2, .ptr 0 0), (4, .vec 200 n 1), (27, dI ((m.length : Int) - 1)), (28, dI i)], [(0, [.list (ints s), .list (ints m)]), (200, icells (sumL s m n i 0))], 1000⟩) (fun i => i ≤ m.length - 1) (fun i => m.length - 1 - i) ⟨0, by omega, ?_⟩ ?_)
  · unfold dI
    refine wk_to [] [(0, 0), (200, 200)] (by kernel_rfl) (by kernel_rfl) (by kernel_rfl) (by kernel_rfl) (by kernel_rfl) ?_ ?_ <;> repeat' (first | exact trivial | exact vr_val _ | exact vr_list _ | exact vr_vec _ _ _ _ rfl | exact vr_ptr _ _ _ rfl | refine And.intro ⟨_, rfl, .inl ⟨_, rfl, by decide, ?_⟩⟩ ?_ | apply And.intro | exact vrl_flat _ (by first | exact icells_in _ | exact rcells_in _ | exact scells_in _ | exact bcells_in _ | assumption))
    all_goals exact vrl_flat _ (icells_in _)
  intro i hi
  by_cases hi2 : i < m.length - 1
  case neg =>
    obtain rfl : i = m.length - 1 := by omega
    have e104 : IntKind.i64.wrap ((n : Int) * ((m.length : Int) - 1)) = (n : Int) * ((m.length : Int) - 1) := by
      have := mulB (A := 24) (B := 9) (a := (n : Int)) (b := (m.length : Int) - 1) (by omega) (by omega) (by omega) (by omega)
      exact wrap_in (by omega) (by omega)
    have hll := sumL_len s m n (m.length - 1) 0
    generalize sumL s m n (m.length - 1) 0 = L at *
    (have hg : (987654321 : Nat) - 987654321 = 0 := rfl; have hr := hg; repeat' (first | refine aw_seq ?_ | (refine aw_skip ?_; with_reducible repeat' (first | refine thenQ_n ?_ | refine blockQ_n ?_ | refine thenQ_e ?_ | refine blockQ_t ?_ | refine blockQ_f (by decide) ?_)) | (refine aw_exit ?_; with_reducible repeat' (first | refine thenQ_n ?_ | refine blockQ_n ?_ | refine thenQ_e ?_ | refine blockQ_t ?_ | refine blockQ_f (by decide) ?_)) | refine aw_ret ?_ | refine aw_block ?_ | refine aw_condT rfl ?_ | refine aw_condF rfl ?_ | (refine aw_cond rfl (fun hg => ?_) (fun hg => ?_) <;> (try (have hq := hg; simp only [Bool.not_eq_true', Bool.not_eq_false', Bool.and_eq_true, Bool.and_eq_false_iff, Bool.or_eq_true, Bool.or_eq_false_iff, decide_eq_true_eq, decide_eq_false_iff_not, bne_iff_ne, beq_iff_eq, beq_eq_false_iff_ne, bne_eq_false_iff_eq, ne_eq, Int.not_lt, Int.not_le, Decidable.not_not] at hq)) <;> (try (have hr := hg; simp only [decide_eq_true_eq, decide_eq_false_iff_not] at hr)) <;> (try (exfalso; omega))) | ((first | refine aw_hide fun K hK => aw_region ?_ | refine ago_if (by omega) ?_ | skip); simp (config := {maxSteps := 10000000}) (disch := first | exact okYes (by kernel_rfl) | omega) only [List.length, Nat.zero_add, Nat.reduceMul, Nat.reduceAdd, dI, ARun_none, AOpRun, aexec, FSt.ev, St.F, eget_c, Nat.reduceBEq, ↓eget_h, cond_false, isSh, Bool.false_eq_true, ↓reduceIte, Option.map, abin, AGo_ok, St.app, putO, eput_c, eput_n, hups, List.map, ARun_nil, dropE_c, inL_n, dropE_n, hr, decide_false, run1, hget_c, beq_self_eq_true, hget_n, cond_true, List.getElem?_cons_succ, List.getElem?_cons_zero, ml, fits, e104, inL_c]) | (subst hK; with_reducible repeat' (first | refine thenQ_n ?_ | refine blockQ_n ?_ | refine thenQ_e ?_ | refine blockQ_t ?_ | refine blockQ_f (by decide) ?_))))
    refine end_to [200] [] (by first | exact .inl rfl | exact .inr rfl) rfl (by kernel_rfl) (by kernel_rfl) (by kernel_rfl) ?_ ?_ <;> repeat' (first | exact trivial | exact vr_val _ | apply vr_tup | refine vr_fl _ _ _ _ _ (by decide) rfl ?_ ?_ ?_ ?_ | apply And.intro)
    all_goals first | exact ints_one _ | exact (ints_len _).trans hll | exact ints_flat _ | exact icells_in _
  have g1 := ints_gd m i (by omega)
  have g2 := ints_gd m (i + 1) (by omega)
  rw [show m[i]?.getD 0 = iat m i from rfl] at g1
  rw [show m[i + 1]?.getD 0 = iat m (i + 1) from rfl] at g2
  have hpt := fun k hk => point_ok (n := n) (k := k) h (i := i) (by omega) hk hn
  obtain ⟨a, b, P0, w, q0, R0, Q0, ha, hb, hw, -⟩ := hpt 0 (by omega)
  rw [ha] at g1
  rw [hb] at g2
  have ki : (i : Int) < (m.length : Int) - 1 := by omega
  have ki0 : (i : Int) < (m.length : Int) := by omega
  have ki1 : (i : Int) + 1 < (m.length : Int) := by omega
  have e39 : ((i : Int) + 1).toNat = i + 1 := by omega
  have kz : (0 : Int) ≤ (i : Int) + 1 := by omega
  refine aw_seq (aw_region ?_)
  simp (config := {maxSteps := 10000000}) (disch := first | exact okYes (by kernel_rfl) | omega) only [thenQ, dI, List.length, Nat.zero_add, Nat.reduceMul, Nat.reduceAdd, ARun_none, AOpRun, aexec, FSt.ev, St.F, eget_c, Nat.reduceBEq, ↓eget_h, cond_false, isSh, Bool.false_eq_true, ↓reduceIte, Option.map, abin, ki, decide_true, AGo_ok, St.app, putO, eput_c, eput_n, hups, List.map, ARun_nil, dropE_c, inL_n, dropE_n]
  refine aw_seq (aw_condT rfl (aw_skip ?_))
  refine aw_seq (aw_block (aw_seq (aw_region ?_)))
  simp (config := {maxSteps := 10000000}) (disch := first | exact okYes (by kernel_rfl) | omega) only [thenQ, List.length, Nat.zero_add, Nat.reduceAdd, Nat.reduceMul, ARun_none, AOpRun, aexec, FSt.ev, St.F, eget_c, Nat.reduceBEq, ↓eget_h, cond_false, AGo_ok, St.app, putO, eput_c, eput_n, hups, List.map, ARun_nil, dropE_c, inL_c, inL_n, beq_self_eq_true, cond_true, dropE_n]
  refine aw_seq (aw_region ?_)
  simp (config := {maxSteps := 10000000}) (disch := first | exact okYes (by kernel_rfl) | omega) only [thenQ, List.length, Nat.zero_add, Nat.reduceAdd, Nat.reduceMul, ARun_none, AOpRun, aexec, FSt.ev, St.F, eget_c, Nat.reduceBEq, ↓eget_h, cond_false, AGo_ok, St.app, putO, eput_c, eput_n, hups, List.map, Option.map, run1, hget_c, beq_self_eq_true, hget_n, cond_true, List.getElem?_cons_succ, List.getElem?_cons_zero, Int.natCast_nonneg, mg, and_self, ↓reduceIte, opt1, Int.toNat_natCast, g1, isSh, Bool.false_eq_true, abin, fits, kz, e39, g2, ARun_nil, dropE_c, inL_c, inL_n, dropE_n]
  refine aw_seq (aw_region ?_)
  simp (config := {maxSteps := 10000000}) (disch := first | exact okYes (by kernel_rfl) | omega) only [thenQ, List.length, Nat.zero_add, Nat.reduceAdd, Nat.reduceMul, ARun_none, AOpRun, aexec, FSt.ev, St.F, eget_c, Nat.reduceBEq, ↓eget_h, cond_false, AGo_ok, St.app, putO, eput_c, eput_n, hups, List.map, ARun_nil, dropE_c, inL_c, inL_n, beq_self_eq_true, cond_true, dropE_n]
  refine aw_block (aw_loop (fun k : Nat => ⟨[(1, dI n), (2, .ptr 0 0), (4, .vec 200 n 1), (27, dI ((m.length : Int) - 1)), (28, dI i), (9, dI a), (10, dI b), (43, dI n), (44, dI k)], [(0, [.list (ints s), .list (ints m)]), (200, icells (sumL s m n i k))], 2000⟩) (fun k => k ≤ n) (fun k => n - k) ⟨0, by omega, ?_⟩ ?_)
  · unfold dI
    refine wk_to [] [(0, 0), (200, 200)] (by kernel_rfl) (by kernel_rfl) (by kernel_rfl) (by kernel_rfl) (by kernel_rfl) ?_ ?_ <;> repeat' (first | exact trivial | exact vr_val _ | exact vr_list _ | exact vr_vec _ _ _ _ rfl | exact vr_ptr _ _ _ rfl | refine And.intro ⟨_, rfl, .inl ⟨_, rfl, by decide, ?_⟩⟩ ?_ | apply And.intro | exact vrl_flat _ (by first | exact icells_in _ | exact rcells_in _ | exact scells_in _ | exact bcells_in _ | assumption))
    all_goals exact vrl_flat _ (icells_in _)
  intro k hk
  by_cases hk2 : k < n
  case neg =>
    obtain rfl : k = n := by omega
    have hse := sumL_end s m k i
    generalize sumL s m k i k = L at *
    (have hg : (987654321 : Nat) - 987654321 = 0 := rfl; have hr := hg; repeat' (first | refine aw_seq ?_ | (refine aw_skip ?_; with_reducible repeat' (first | refine thenQ_n ?_ | refine blockQ_n ?_ | refine thenQ_e ?_ | refine blockQ_t ?_ | refine blockQ_f (by decide) ?_)) | (refine aw_exit ?_; with_reducible repeat' (first | refine thenQ_n ?_ | refine blockQ_n ?_ | refine thenQ_e ?_ | refine blockQ_t ?_ | refine blockQ_f (by decide) ?_)) | refine aw_ret ?_ | refine aw_block ?_ | refine aw_condT rfl ?_ | refine aw_condF rfl ?_ | (refine aw_cond rfl (fun hg => ?_) (fun hg => ?_) <;> (try (have hq := hg; simp only [Bool.not_eq_true', Bool.not_eq_false', Bool.and_eq_true, Bool.and_eq_false_iff, Bool.or_eq_true, Bool.or_eq_false_iff, decide_eq_true_eq, decide_eq_false_iff_not, bne_iff_ne, beq_iff_eq, beq_eq_false_iff_ne, bne_eq_false_iff_eq, ne_eq, Int.not_lt, Int.not_le, Decidable.not_not] at hq)) <;> (try (have hr := hg; simp only [decide_eq_true_eq, decide_eq_false_iff_not] at hr)) <;> (try (exfalso; omega))) | ((first | refine aw_hide fun K hK => aw_region ?_ | refine ago_if (by omega) ?_ | skip); simp (config := {maxSteps := 10000000}) (disch := first | exact okYes (by kernel_rfl) | omega) only [List.length, Nat.zero_add, Nat.reduceMul, Nat.reduceAdd, dI, ARun_none, AOpRun, aexec, FSt.ev, St.F, eget_c, Nat.reduceBEq, ↓eget_h, cond_false, isSh, Bool.false_eq_true, ↓reduceIte, Option.map, abin, AGo_ok, St.app, putO, eput_c, eput_n, hups, List.map, ARun_nil, dropE_c, inL_n, dropE_n, hr, decide_false, fits, beq_self_eq_true, cond_true, inL_c]) | (subst hK; with_reducible repeat' (first | refine thenQ_n ?_ | refine blockQ_n ?_ | refine thenQ_e ?_ | refine blockQ_t ?_ | refine blockQ_f (by decide) ?_))))
    refine ⟨i + 1, by omega, by omega, ?_⟩
    rw [← hse]
    refine wk_to [] [(0, 0), (200, 200)] (by kernel_rfl) (by kernel_rfl) (by kernel_rfl) (by kernel_rfl) (by kernel_rfl) ?_ ?_ <;> repeat' (first | exact trivial | exact vr_val _ | exact vr_list _ | exact vr_vec _ _ _ _ rfl | exact vr_ptr _ _ _ rfl | refine And.intro ⟨_, rfl, .inl ⟨_, rfl, by decide, ?_⟩⟩ ?_ | apply And.intro | exact vrl_flat _ (by first | exact icells_in _ | exact rcells_in _ | exact scells_in _ | exact bcells_in _ | assumption))
    all_goals exact vrl_flat _ (icells_in _)
  obtain ⟨a', b', P, w', q, R, Q, ha', hb', hw', hP, hPl, hq, hR, hRl, hQ, hQl, hbl, hwl, hv0, hv1⟩ := hpt k hk2
  obtain rfl : a = a' := by omega
  obtain rfl : b = b' := by omega
  obtain rfl : w = w' := by omega
  have gq := ints_gd s Q (by omega)
  have gq1 := ints_gd s (Q + 1) (by omega)
  rw [show s[Q]?.getD 0 = iat s Q from rfl] at gq
  rw [show s[Q + 1]?.getD 0 = iat s (Q + 1) from rfl] at gq1
  have s1 := h.sb Q (by omega)
  have s2 := h.sb (Q + 1) (by omega)
  have a0 := avS_bd h hk2 hn i (by omega)
  have a1 := avS_bd h hk2 hn (i + 1) (by omega)
  have ha1 : avS s m n (i + 1) k = avS s m n i k + avV s m n i k := rfl
  have gs := ic_gd (sumL s m n i k) k (by rw [sumL_len]; exact hk2)
  rw [sumL_get s m n i k hk2] at gs
  have hset := sumL_set s m n i k hk2
  rw [← ha1] at hset
  have t1 := mulB (A := 24) (B := 100) (a := (n : Int) - R) (b := iat s Q) (by omega) (by omega) s1.1 s1.2
  have t2 := mulB (A := 24) (B := 100) (a := (R : Int)) (b := iat s (Q + 1)) (by omega) (by omega) s2.1 s2.2
  have e50 : (b : Int) - (a : Int) = (w : Int) := hw
  have e51 : IntKind.i64.wrap ((k : Int) * (w : Int)) = (P : Int) := by rw [← Int.natCast_mul, hP]; exact wrap_in (by omega) (by omega)
  have e53 : Int.tdiv (P : Int) (n : Int) = (q : Int) := by rw [← hq]; rfl
  have e60 : Int.tmod (P : Int) (n : Int) = (R : Int) := by rw [← hR]; rfl
  have n0 : ¬ (n : Int) = 0 := by omega
  have e72 : IntKind.i64.wrap ((a : Int) + (q : Int)) = (Q : Int) := by rw [wrap_in (by omega) (by omega)]; omega
  have e90 : IntKind.i64.wrap ((Q : Int) + 1) = ((Q + 1 : Nat) : Int) := by rw [wrap_in (by omega) (by omega)]; omega
  obtain ⟨x1, hx1⟩ : ∃ x, x = ((n : Int) - R) * iat s Q := ⟨_, rfl⟩
  obtain ⟨x2, hx2⟩ : ∃ x, x = (R : Int) * iat s (Q + 1) := ⟨_, rfl⟩
  rw [← hx1] at t1 hv0 hv1
  rw [← hx2] at t2 hv1
  have e75 : IntKind.i64.wrap (((n : Int) - R) * iat s Q) = x1 := by rw [← hx1]; exact wrap_in (by omega) (by omega)
  have e93 : IntKind.i64.wrap ((R : Int) * iat s (Q + 1)) = x2 := by rw [← hx2]; exact wrap_in (by omega) (by omega)
  obtain ⟨T, hT⟩ : ∃ T, T = avS s m n i k + x1 := ⟨_, rfl⟩
  have e76 : IntKind.i64.wrap (avS s m n i k + x1) = T := by rw [hT]; exact wrap_in (by omega) (by omega)
  have kq : (Q : Int) < (s.length : Int) := by omega
  have kq1 : ((Q + 1 : Nat) : Int) < (s.length : Int) := by omega
  have kn : (k : Int) < (n : Int) := by omega
  have k1n : k + 1 ≤ n := by omega
  have hlen := sumL_len s m n i k
  have hcl : (icells (sumL s m n i k)).length = n := by rw [icells_len]; exact hlen
  have hst1 := ic_t (sumL s m n i k) k T (by omega)
  have hcin := icells_in (sumL s m n i (k + 1))
  rcases Nat.eq_zero_or_pos R with hR0 | hR0
  · have hTS : T = avS s m n (i + 1) k := by rw [hT, ha1, hv0 hR0]
    rw [← hTS] at hset
    rw [hset] at hst1
    have q79 : decide ((R : Int) > 0) = false := decide_eq_false (by omega)
    generalize avS s m n i k = S0 at *
    generalize sumL s m n i k = L at *
    generalize hg1 : sumL s m n i (k + 1) = L1 at *
    (have hg : (987654321 : Nat) - 987654321 = 0 := rfl; have hr := hg; repeat' (first | refine aw_seq ?_ | (refine aw_skip ?_; with_reducible repeat' (first | refine thenQ_n ?_ | refine blockQ_n ?_ | refine thenQ_e ?_ | refine blockQ_t ?_ | refine blockQ_f (by decide) ?_)) | (refine aw_exit ?_; with_reducible repeat' (first | refine thenQ_n ?_ | refine blockQ_n ?_ | refine thenQ_e ?_ | refine blockQ_t ?_ | refine blockQ_f (by decide) ?_)) | refine aw_ret ?_ | refine aw_block ?_ | refine aw_condT rfl ?_ | refine aw_condF rfl ?_ | ((first | refine aw_hide fun K hK => aw_region ?_ | refine ago_if (by omega) ?_ | skip); simp (config := {maxSteps := 10000000}) (disch := first | exact okYes (by kernel_rfl) | omega) only [List.length, Nat.zero_add, Nat.mul_one, Nat.reduceAdd, dI, ARun_none, AOpRun, aexec, FSt.ev, St.F, eget_c, Nat.reduceBEq, ↓eget_h, cond_false, isSh, Bool.false_eq_true, ↓reduceIte, Option.map, abin, kn, decide_true, AGo_ok, St.app, putO, eput_c, eput_n, hups, List.map, ARun_nil, dropE_c, inL_n, dropE_n, Nat.reduceMul, inL_c, beq_self_eq_true, cond_true, e50, fits, e51, n0, e53, e60, Int.natCast_nonneg, and_self, Int.toNat_natCast, run1, hget_c, ↓hget_h, Nat.add_zero, gs, hget_n, List.getElem?_cons_zero, e72, sg, opt1, gq, e75, e76, D.isBot, D.cells, hcl, k1n, List.all, D.leaf, Bool.and_true, splice, hst1, hput_c, hput_n, q79]) | (subst hK; with_reducible repeat' (first | refine thenQ_n ?_ | refine blockQ_n ?_ | refine thenQ_e ?_ | refine blockQ_t ?_ | refine blockQ_f (by decide) ?_))))
    refine ⟨k + 1, by omega, by omega, ?_⟩
    rw [hg1]
    refine wk_to [] [(0, 0), (200, 200)] (by kernel_rfl) (by kernel_rfl) (by kernel_rfl) (by kernel_rfl) (by kernel_rfl) ?_ ?_ <;> repeat' (first | exact trivial | exact vr_val _ | exact vr_list _ | exact vr_vec _ _ _ _ rfl | exact vr_ptr _ _ _ rfl | refine And.intro ⟨_, rfl, .inl ⟨_, rfl, by decide, ?_⟩⟩ ?_ | apply And.intro | exact vrl_flat _ (by first | exact icells_in _ | exact rcells_in _ | exact scells_in _ | exact bcells_in _ | assumption))
    all_goals exact vrl_flat _ hcin
  · have q79 : decide ((R : Int) > 0) = true := decide_eq_true (by omega)
    have gs2 := ic_gd ((sumL s m n i k).set k T) k (by rw [List.length_set]; omega)
    rw [List.getElem?_set_self (by omega), Option.getD_some] at gs2
    have hcl2 : (icells ((sumL s m n i k).set k T)).length = n := by rw [icells_len, List.length_set]; exact hlen
    have hst2 := ic_t ((sumL s m n i k).set k T) k (avS s m n (i + 1) k) (by rw [List.length_set]; omega)
    rw [List.set_set, hset] at hst2
    have e94 : IntKind.i64.wrap (T + x2) = avS s m n (i + 1) k := by rw [hT, wrap_in (by omega) (by omega), ha1, hv1 hR0]; omega
    generalize avS s m n i k = S0 at *
    generalize avS s m n (i + 1) k = S1 at *
    generalize (sumL s m n i k).set k T = L' at *
    generalize sumL s m n i k = L at *
    generalize hg1 : sumL s m n i (k + 1) = L1 at *
    (have hg : (987654321 : Nat) - 987654321 = 0 := rfl; have hr := hg; repeat' (first | refine aw_seq ?_ | (refine aw_skip ?_; with_reducible repeat' (first | refine thenQ_n ?_ | refine blockQ_n ?_ | refine thenQ_e ?_ | refine blockQ_t ?_ | refine blockQ_f (by decide) ?_)) | (refine aw_exit ?_; with_reducible repeat' (first | refine thenQ_n ?_ | refine blockQ_n ?_ | refine thenQ_e ?_ | refine blockQ_t ?_ | refine blockQ_f (by decide) ?_)) | refine aw_ret ?_ | refine aw_block ?_ | refine aw_condT rfl ?_ | refine aw_condF rfl ?_ | ((first | refine aw_hide fun K hK => aw_region ?_ | refine ago_if (by omega) ?_ | skip); simp (config := {maxSteps := 10000000}) (disch := first | exact okYes (by kernel_rfl) | omega) only [List.length, Nat.zero_add, Nat.mul_one, Nat.reduceAdd, dI, ARun_none, AOpRun, aexec, FSt.ev, St.F, eget_c, Nat.reduceBEq, ↓eget_h, cond_false, isSh, Bool.false_eq_true, ↓reduceIte, Option.map, abin, kn, decide_true, AGo_ok, St.app, putO, eput_c, eput_n, hups, List.map, ARun_nil, dropE_c, inL_n, dropE_n, Nat.reduceMul, inL_c, beq_self_eq_true, cond_true, e50, fits, e51, n0, e53, e60, Int.natCast_nonneg, and_self, Int.toNat_natCast, run1, hget_c, ↓hget_h, Nat.add_zero, gs, hget_n, List.getElem?_cons_zero, e72, sg, opt1, gq, e75, e76, D.isBot, D.cells, hcl, k1n, List.all, D.leaf, Bool.and_true, splice, hst1, hput_c, hput_n, q79, gs2, e90, gq1, e93, e94, hcl2, hst2]) | (subst hK; with_reducible repeat' (first | refine thenQ_n ?_ | refine blockQ_n ?_ | refine thenQ_e ?_ | refine blockQ_t ?_ | refine blockQ_f (by decide) ?_))))
    refine ⟨k + 1, by omega, by omega, ?_⟩
    rw [hg1]
    refine wk_to [] [(0, 0), (200, 200)] (by kernel_rfl) (by kernel_rfl) (by kernel_rfl) (by kernel_rfl) (by kernel_rfl) ?_ ?_ <;> repeat' (first | exact trivial | exact vr_val _ | exact vr_list _ | exact vr_vec _ _ _ _ rfl | exact vr_ptr _ _ _ rfl | refine And.intro ⟨_, rfl, .inl ⟨_, rfl, by decide, ?_⟩⟩ ?_ | apply And.intro | exact vrl_flat _ (by first | exact icells_in _ | exact rcells_in _ | exact scells_in _ | exact bcells_in _ | assumption))
    all_goals exact vrl_flat _ hcin
set_option maxRecDepth 100000 in
set_option maxHeartbeats 4000000 in
theorem havg_ac (s m : List Int) (n : Int) (hs : s.length ≤ 1000000) (hm : m.length ≤ 1000000) : AC Try.prog 28 [.agg [.list (ints s), .list (ints m)], dI n] [] [] (.tup [.list (ints (avL s m n)), dI (avD s m n), dI (avE s m n)]) := by
  by_cases h : avE s m n = 0
  · obtain ⟨h0, h1, h2⟩ := avE_ok h
    have h3 := wI_t h2
    obtain ⟨k, rfl⟩ : ∃ k : Nat, n = k := ⟨n.toNat, by omega⟩
    have := havg_ok s m k h1 h0 (by omega) (by omega)
    have e1 : avL s m k = sumL s m k (m.length - 1) 0 := by unfold avL; rw [if_pos h, Int.toNat_natCast]
    have e2 : avD s m k = (k : Int) * ((m.length : Int) - 1) := if_pos h
    rw [e1, e2, h]
    exact this
  rw [avL_no h, avD_no h]
  refine khealth_Average.ac (n0 := 0) (by simp) ⟨in_vib _ _ _, .val _, trivial⟩ trivial rfl ?_
  unfold chealth_Average
  have c1 := hcheck_ac s m hs hm
  by_cases h0 : vibE s m = 0
  · have e : avE s m n = if wI n 1 24 = true then 0 else 1 := if_pos h0
    have c2 := hwithin_ac n 1 24
    cases hw : wI n 1 24 with
    | true => exact absurd (by rw [e, hw]; rfl) h
    | false =>
      rw [hw] at c2 e
      rw [h0] at c1
      rw [e, if_neg (by simp)]
      (have hg : (987654321 : Nat) - 987654321 = 0 := rfl; have hr := hg; repeat' (first | refine aw_seq ?_ | (refine aw_skip ?_; with_reducible repeat' (first | refine thenQ_n ?_ | refine blockQ_n ?_ | refine thenQ_e ?_ | refine blockQ_t ?_ | refine blockQ_f (by decide) ?_)) | (refine aw_exit ?_; with_reducible repeat' (first | refine thenQ_n ?_ | refine blockQ_n ?_ | refine thenQ_e ?_ | refine blockQ_t ?_ | refine blockQ_f (by decide) ?_)) | refine aw_ret ?_ | refine aw_block ?_ | refine aw_condT rfl ?_ | refine aw_condF rfl ?_ | ((first | refine aw_hide fun K hK => aw_region ?_ | refine acall0 (c1) ?_ | refine acall0 (c2) ?_ | refine ago_if (by omega) ?_ | skip); simp (config := {maxSteps := 10000000}) (disch := first | exact okYes (by kernel_rfl) | omega) only [List.length, Nat.zero_add, Nat.reduceAdd, Nat.reduceMul, envOf, dI, ARun_none, AOpRun, aexec, D.isBot, FSt.ev, St.F, ↓eget_h, Bool.false_eq_true, Option.isSome, hget_n, or_self, ↓reduceIte, D.cells, AGo_ok, St.app, putO, eput_c, Nat.reduceBEq, eput_n, cond_false, hups, hput_n, List.map, ARun_nil, dropE_c, inL_n, dropE_n, eget_c, hget_c, beq_self_eq_true, cond_true, Nat.reduceLeDiff, List.drop, List.take, inL_c, isSh, Option.map, abin, bne_self_eq_false, dB, Bool.not_false, thenQ]) | (subst hK; with_reducible repeat' (first | refine thenQ_n ?_ | refine blockQ_n ?_ | refine thenQ_e ?_ | refine blockQ_t ?_ | refine blockQ_f (by decide) ?_))))
      all_goals (refine end_to [] [] (by first | exact .inl rfl | exact .inr rfl) rfl (by kernel_rfl) (by kernel_rfl) (by kernel_rfl) ?_ ?_ <;> repeat' (first | exact trivial | exact vr_val _ | exact vr_nil | apply vr_tup | apply And.intro))
  · have e : avE s m n = vibE s m := if_neg h0
    rw [e]
    have q : (vibE s m != 0) = true := by simpa using h0
    generalize vibE s m = E at *
    (have hg : (987654321 : Nat) - 987654321 = 0 := rfl; have hr := hg; repeat' (first | refine aw_seq ?_ | (refine aw_skip ?_; with_reducible repeat' (first | refine thenQ_n ?_ | refine blockQ_n ?_ | refine thenQ_e ?_ | refine blockQ_t ?_ | refine blockQ_f (by decide) ?_)) | (refine aw_exit ?_; with_reducible repeat' (first | refine thenQ_n ?_ | refine blockQ_n ?_ | refine thenQ_e ?_ | refine blockQ_t ?_ | refine blockQ_f (by decide) ?_)) | refine aw_ret ?_ | refine aw_block ?_ | refine aw_condT rfl ?_ | refine aw_condF rfl ?_ | ((first | refine aw_hide fun K hK => aw_region ?_ | refine acall0 (c1) ?_ | refine ago_if (by omega) ?_ | skip); simp (config := {maxSteps := 10000000}) (disch := first | exact okYes (by kernel_rfl) | omega) only [List.length, Nat.zero_add, Nat.reduceAdd, Nat.reduceMul, envOf, dI, ARun_none, AOpRun, aexec, D.isBot, FSt.ev, St.F, ↓eget_h, Bool.false_eq_true, Option.isSome, hget_n, or_self, ↓reduceIte, D.cells, AGo_ok, St.app, putO, eput_c, Nat.reduceBEq, eput_n, cond_false, hups, hput_n, List.map, ARun_nil, dropE_c, inL_n, dropE_n, eget_c, hget_c, beq_self_eq_true, cond_true, Nat.reduceLeDiff, List.drop, List.take, inL_c, isSh, Option.map, abin, q, thenQ]) | (subst hK; with_reducible repeat' (first | refine thenQ_n ?_ | refine blockQ_n ?_ | refine thenQ_e ?_ | refine blockQ_t ?_ | refine blockQ_f (by decide) ?_))))
    all_goals (refine end_to [] [] (by first | exact .inl rfl | exact .inr rfl) rfl (by kernel_rfl) (by kernel_rfl) (by kernel_rfl) ?_ ?_ <;> repeat' (first | exact trivial | exact vr_val _ | exact vr_nil | apply vr_tup | apply And.intro))
end Go.Proofs.Ytgibbaadjbohdaa
/- The document of health: Check and Average of a vibration. No conditions. -/
set_option linter.unusedSimpArgs false
set_option linter.unusedVariables false
namespace Go.Proofs.Ytgibbaadjbohdaa
open Go.RowKit Lift

set_option maxRecDepth 100000 in
set_option maxHeartbeats 1000000 in
theorem gwithin_ac (n a b : Int) : AC Try.prog 103 [dI n, dI a, dI b] [] [] (dB (wI n a b)) := by
  refine kref08_within.ac (n0 := 0) (by simp) ⟨.val _, .val _, .val _, trivial⟩ trivial rfl ?_
  unfold cref08_within wI
  cases q1 : decide (a ≤ n) <;> cases q2 : decide (n ≤ b)
  all_goals
    (have hg : (987654321 : Nat) - 987654321 = 0 := rfl; have hr := hg; repeat' (first | refine aw_seq ?_ | (refine aw_skip ?_; try simp only [thenQ, blockQ, if_true, if_false, Nat.reduceEqDiff, reduceCtorEq]) | (refine aw_exit ?_; try simp only [thenQ, blockQ, if_true, if_false, Nat.reduceEqDiff, reduceCtorEq]) | refine aw_ret ?_ | refine aw_block ?_ | refine aw_condT rfl ?_ | refine aw_condF rfl ?_ | ((first | refine aw_region ?_ | refine ago_if (by omega) ?_ | skip); simp (config := {maxSteps := 10000000}) (disch := first | exact okYes (by kernel_rfl) | omega) only [thenQ, List.map, dB, Bool.and_false, List.length, Nat.zero_add, Nat.reduceMul, envOf, dI, Nat.reduceAdd, ARun_none, AOpRun, aexec, FSt.ev, AGo_ok, St.app, putO, eput_c, Nat.reduceBEq, eput_n, cond_false, hups, ARun_nil, dropE_c, inL_n, dropE_n, St.F, ↓eget_h, eget_c, isSh, Bool.false_eq_true, ↓reduceIte, Option.map, abin, ge_iff_le, q1, ARun_some, AG_ft, beq_self_eq_true, cond_true, inL_c, Bool.and_true, AG_tt, q2])))
    all_goals (refine end_to [] [] (by first | exact .inl rfl | exact .inr rfl) rfl (by kernel_rfl) (by kernel_rfl) (by kernel_rfl) ?_ ?_ <;> repeat' (first | exact trivial | exact vr_val _))
theorem vib_no_s {s m : List Int} {k : Nat} (hk : k < s.length) (h : wI (iat s k) (-100) 100 = false) : vibE s m = 80 := vib_no (by unfold vibB; rw [allI_no hk h]; simp)
theorem vib_no_m {s m : List Int} {k : Nat} (hk : k < m.length) (h : wI (iat m k) 0 ((s.length : Int) - 1) = false) : vibE s m = 80 := vib_no (by unfold vibB; rw [allI_no hk h]; simp)
theorem vib_no_r {s m : List Int} {k : Nat} (h0 : 0 < k) (hk : k < m.length) (h : iat m k ≤ iat m (k - 1)) : vibE s m = 80 := vib_no (by unfold vibB; rw [risI_no h0 hk h]; simp)
set_option maxRecDepth 100000 in
set_option maxHeartbeats 4000000 in
theorem gcheck_ac (s m : List Int) (hs : s.length ≤ 1000000) (hm : m.length ≤ 1000000) : AC Try.prog 102 [.agg [.list (ints s), .list (ints m)]] [] [] (dI (vibE s m)) := by
  refine kref08_Check.ac (n0 := 0) (by simp) ⟨in_vib _ _ _, trivial⟩ trivial rfl ?_
  unfold cref08_Check
  have c2 := gwithin_ac m.length 2 9
  have sl := ints_len s
  have ml := ints_len m
  have sg := ints_all s
  have mg := ints_all m
  cases q1 : decide ((s.length : Int) > 400) with
  | true =>
    have h1 := of_decide_eq_true q1
    rw [vib_no (by unfold vibB; rw [decide_eq_false (by omega)]; rfl)]
    (have hg : (987654321 : Nat) - 987654321 = 0 := rfl; have hr := hg; repeat' (first | refine aw_seq ?_ | (refine aw_skip ?_; with_reducible repeat' (first | refine thenQ_n ?_ | refine blockQ_n ?_ | refine thenQ_e ?_ | refine blockQ_t ?_ | refine blockQ_f (by decide) ?_)) | (refine aw_exit ?_; with_reducible repeat' (first | refine thenQ_n ?_ | refine blockQ_n ?_ | refine thenQ_e ?_ | refine blockQ_t ?_ | refine blockQ_f (by decide) ?_)) | refine aw_ret ?_ | refine aw_block ?_ | refine aw_condT rfl ?_ | refine aw_condF rfl ?_ | ((first | refine aw_hide fun K hK => aw_region ?_ | refine ago_if (by omega) ?_ | skip); simp (config := {maxSteps := 10000000}) (disch := first | exact okYes (by kernel_rfl) | omega) only [List.length, Nat.zero_add, Nat.reduceAdd, Nat.reduceMul, envOf, ARun_none, AOpRun, aexec, D.isBot, FSt.ev, St.F, ↓eget_h, Bool.false_eq_true, Option.isSome, hget_n, or_self, ↓reduceIte, D.cells, AGo_ok, St.app, putO, eput_c, Nat.reduceBEq, eput_n, cond_false, hups, hput_n, List.map, ARun_nil, dropE_c, inL_n, dropE_n, eget_c, Option.map, run1, hget_c, beq_self_eq_true, cond_true, List.getElem?_cons_zero, sl, isSh, abin, q1, ARun_some, AG_tf, inL_c, thenQ, dI]) | (subst hK; with_reducible repeat' (first | refine thenQ_n ?_ | refine blockQ_n ?_ | refine thenQ_e ?_ | refine blockQ_t ?_ | refine blockQ_f (by decide) ?_))))
    all_goals (refine end_to [] [] (by first | exact .inl rfl | exact .inr rfl) rfl (by kernel_rfl) (by kernel_rfl) (by kernel_rfl) ?_ ?_ <;> repeat' (first | exact trivial | exact vr_val _))
  | false =>
  have h1 := of_decide_eq_false q1
  cases q3 : wI (m.length : Int) 2 9 with
  | false =>
    rw [q3] at c2
    rw [vib_no (by unfold vibB; rw [q3]; simp)]
    (have hg : (987654321 : Nat) - 987654321 = 0 := rfl; have hr := hg; repeat' (first | refine aw_seq ?_ | (refine aw_skip ?_; with_reducible repeat' (first | refine thenQ_n ?_ | refine blockQ_n ?_ | refine thenQ_e ?_ | refine blockQ_t ?_ | refine blockQ_f (by decide) ?_)) | (refine aw_exit ?_; with_reducible repeat' (first | refine thenQ_n ?_ | refine blockQ_n ?_ | refine thenQ_e ?_ | refine blockQ_t ?_ | refine blockQ_f (by decide) ?_)) | refine aw_ret ?_ | refine aw_block ?_ | refine aw_condT rfl ?_ | refine aw_condF rfl ?_ | ((first | refine aw_hide fun K hK => aw_region ?_ | refine acall0 (c2) ?_ | refine ago_if (by omega) ?_ | skip); simp (config := {maxSteps := 10000000}) (disch := first | exact okYes (by kernel_rfl) | omega) only [List.length, Nat.zero_add, Nat.reduceAdd, Nat.reduceMul, envOf, ARun_none, AOpRun, aexec, D.isBot, FSt.ev, St.F, ↓eget_h, Bool.false_eq_true, Option.isSome, hget_n, or_self, ↓reduceIte, D.cells, AGo_ok, St.app, putO, eput_c, Nat.reduceBEq, eput_n, cond_false, hups, hput_n, List.map, ARun_nil, dropE_c, inL_n, dropE_n, eget_c, Option.map, run1, hget_c, beq_self_eq_true, cond_true, List.getElem?_cons_zero, sl, isSh, abin, q1, ARun_some, AG_ff, List.getElem?_cons_succ, ml, dB, Bool.not_false, inL_c, thenQ, dI]) | (subst hK; with_reducible repeat' (first | refine thenQ_n ?_ | refine blockQ_n ?_ | refine thenQ_e ?_ | refine blockQ_t ?_ | refine blockQ_f (by decide) ?_))))
    all_goals (refine end_to [] [] (by first | exact .inl rfl | exact .inr rfl) rfl (by kernel_rfl) (by kernel_rfl) (by kernel_rfl) ?_ ?_ <;> repeat' (first | exact trivial | exact vr_val _))
  | true =>
  rw [q3] at c2
  refine aw_seq (aw_region ?_)
  simp (config := {maxSteps := 10000000}) (disch := first | exact okYes (by kernel_rfl) | omega) only [thenQ, List.map, Int.reduceNeg, dI, List.length, Nat.zero_add, Nat.reduceAdd, Nat.reduceMul, envOf, ARun_none, AOpRun, aexec, D.isBot, FSt.ev, St.F, ↓eget_h, Bool.false_eq_true, Option.isSome, hget_n, or_self, ↓reduceIte, D.cells, AGo_ok, St.app, putO, eput_c, Nat.reduceBEq, eput_n, cond_false, hups, hput_n, ARun_nil, dropE_c, inL_n, dropE_n]
  refine aw_seq (aw_seq (aw_region ?_))
  simp (config := {maxSteps := 10000000}) (disch := first | exact okYes (by kernel_rfl) | omega) only [thenQ, Int.reduceNeg, List.length, Nat.zero_add, Nat.reduceAdd, Nat.reduceMul, ARun_none, AOpRun, aexec, FSt.ev, St.F, eget_c, Nat.reduceBEq, ↓eget_h, cond_false, AGo_ok, St.app, putO, eput_c, eput_n, hups, List.map, Option.map, run1, hget_c, beq_self_eq_true, hget_n, cond_true, List.getElem?_cons_zero, sl, isSh, Bool.false_eq_true, ↓reduceIte, abin, q1, ARun_some, AG_ff, List.getElem?_cons_succ, ml]
  refine acall0 c2 ?_
  simp (config := {maxSteps := 10000000}) (disch := first | exact okYes (by kernel_rfl) | omega) only [Int.reduceNeg, Nat.reduceAdd, St.app, putO, dB, eput_c, Nat.reduceBEq, eput_n, cond_false, hups, ARun_some, eget_c, ↓eget_h, AG_ff, AOpRun, aexec, FSt.ev, St.F, Bool.not_true, AGo_ok, List.map, ARun_none, Bool.false_eq_true, ↓reduceIte, ARun_nil, dropE_c, inL_c, inL_n, beq_self_eq_true, cond_true, dropE_n]
  refine aw_condF rfl (aw_skip ?_)
  refine aw_seq (aw_seq (aw_region ?_))
  simp (config := {maxSteps := 10000000}) (disch := first | exact okYes (by kernel_rfl) | omega) only [thenQ, Int.reduceNeg, List.length, Nat.zero_add, Nat.reduceMul, Nat.reduceAdd, ARun_none, AOpRun, aexec, FSt.ev, AGo_ok, St.app, putO, eput_c, Nat.reduceBEq, eput_n, cond_false, hups, List.map, ARun_nil, dropE_c, inL_n, dropE_n]
  refine aw_block (aw_loop (fun k : Nat => ⟨[(1, .ptr 0 0), (3, dI k)], [(0, [.list (ints s), .list (ints m)])], 400⟩) (fun k => k ≤ s.length ∧ ∀ j, j < k → wI (iat s j) (-100) 100 = true) (fun k => s.length - k) ⟨0, ⟨by omega, fun j hj => by omega⟩, ?_⟩ ?_)
  · unfold dI
    refine wk_to [] [(0, 0)] (by kernel_rfl) (by kernel_rfl) (by kernel_rfl) (by kernel_rfl) (by kernel_rfl) ?_ ?_ <;> repeat' (first | exact trivial | exact vr_val _ | exact vr_list _ | exact vr_ptr _ _ _ rfl | refine And.intro ⟨_, rfl, .inl ⟨_, rfl, by decide, ?_⟩⟩ ?_ | apply And.intro)
  rintro k ⟨hk, hin⟩
  by_cases hk2 : k < s.length
  case pos =>
    have g1 := ints_gd s k hk2
    rw [show s[k]?.getD 0 = iat s k from rfl] at g1
    have c3 := gwithin_ac (iat s k) (-100) 100
    have ki : (k : Int) < (s.length : Int) := by omega
    cases he : wI (iat s k) (-100) 100 with
    | false =>
      rw [he] at c3
      rw [vib_no_s hk2 he]
      (have hg : (987654321 : Nat) - 987654321 = 0 := rfl; have hr := hg; repeat' (first | refine aw_seq ?_ | (refine aw_skip ?_; with_reducible repeat' (first | refine thenQ_n ?_ | refine blockQ_n ?_ | refine thenQ_e ?_ | refine blockQ_t ?_ | refine blockQ_f (by decide) ?_)) | (refine aw_exit ?_; with_reducible repeat' (first | refine thenQ_n ?_ | refine blockQ_n ?_ | refine thenQ_e ?_ | refine blockQ_t ?_ | refine blockQ_f (by decide) ?_)) | refine aw_ret ?_ | refine aw_block ?_ | refine aw_condT rfl ?_ | refine aw_condF rfl ?_ | ((first | refine aw_hide fun K hK => aw_region ?_ | refine acall0 (c3) ?_ | refine ago_if (by omega) ?_ | skip); simp (config := {maxSteps := 10000000}) (disch := first | exact okYes (by kernel_rfl) | omega) only [List.length, Nat.zero_add, Nat.reduceAdd, Nat.reduceMul, dI, ARun_none, AOpRun, aexec, FSt.ev, St.F, eget_c, Nat.reduceBEq, ↓eget_h, cond_false, AGo_ok, St.app, putO, eput_c, eput_n, hups, List.map, Option.map, run1, hget_c, beq_self_eq_true, hget_n, cond_true, List.getElem?_cons_zero, sl, isSh, Bool.false_eq_true, ↓reduceIte, abin, ki, decide_true, ARun_nil, dropE_c, inL_c, inL_n, dropE_n, Int.reduceNeg, Int.natCast_nonneg, sg, and_self, opt1, Int.toNat_natCast, g1, dB, Bool.not_false, blockQ, thenQ]) | (subst hK; with_reducible repeat' (first | refine thenQ_n ?_ | refine blockQ_n ?_ | refine thenQ_e ?_ | refine blockQ_t ?_ | refine blockQ_f (by decide) ?_))))
      all_goals (refine end_to [] [] (by first | exact .inl rfl | exact .inr rfl) rfl (by kernel_rfl) (by kernel_rfl) (by kernel_rfl) ?_ ?_ <;> repeat' (first | exact trivial | exact vr_val _))
    | true =>
      rw [he] at c3
      (have hg : (987654321 : Nat) - 987654321 = 0 := rfl; have hr := hg; repeat' (first | refine aw_seq ?_ | (refine aw_skip ?_; with_reducible repeat' (first | refine thenQ_n ?_ | refine blockQ_n ?_ | refine thenQ_e ?_ | refine blockQ_t ?_ | refine blockQ_f (by decide) ?_)) | (refine aw_exit ?_; with_reducible repeat' (first | refine thenQ_n ?_ | refine blockQ_n ?_ | refine thenQ_e ?_ | refine blockQ_t ?_ | refine blockQ_f (by decide) ?_)) | refine aw_ret ?_ | refine aw_block ?_ | refine aw_condT rfl ?_ | refine aw_condF rfl ?_ | ((first | refine aw_hide fun K hK => aw_region ?_ | refine acall0 (c3) ?_ | refine ago_if (by omega) ?_ | skip); simp (config := {maxSteps := 10000000}) (disch := first | exact okYes (by kernel_rfl) | omega) only [List.length, Nat.zero_add, Nat.reduceAdd, Nat.reduceMul, dI, ARun_none, AOpRun, aexec, FSt.ev, St.F, eget_c, Nat.reduceBEq, ↓eget_h, cond_false, AGo_ok, St.app, putO, eput_c, eput_n, hups, List.map, Option.map, run1, hget_c, beq_self_eq_true, hget_n, cond_true, List.getElem?_cons_zero, sl, isSh, Bool.false_eq_true, ↓reduceIte, abin, ki, decide_true, ARun_nil, dropE_c, inL_c, inL_n, dropE_n, Int.reduceNeg, Int.natCast_nonneg, sg, and_self, opt1, Int.toNat_natCast, g1, dB, Bool.not_true, fits]) | (subst hK; with_reducible repeat' (first | refine thenQ_n ?_ | refine blockQ_n ?_ | refine thenQ_e ?_ | refine blockQ_t ?_ | refine blockQ_f (by decide) ?_))))
      refine ⟨k + 1, ⟨by omega, fun j hj => ?_⟩, by omega, ?_⟩
      · rcases (by omega : j < k ∨ j = k) with h | rfl
        · exact hin j h
        · exact he
      · refine wk_to [] [(0, 0)] (by kernel_rfl) (by kernel_rfl) (by kernel_rfl) (by kernel_rfl) (by kernel_rfl) ?_ ?_ <;> repeat' (first | exact trivial | exact vr_val _ | exact vr_list _ | exact vr_ptr _ _ _ rfl | refine And.intro ⟨_, rfl, .inl ⟨_, rfl, by decide, ?_⟩⟩ ?_ | apply And.intro)
  obtain rfl : k = s.length := by omega
  have q2 := allI_yes hin
  clear hin
  (have hg : (987654321 : Nat) - 987654321 = 0 := rfl; have hr := hg; repeat' (first | refine aw_seq ?_ | (refine aw_skip ?_; with_reducible repeat' (first | refine thenQ_n ?_ | refine blockQ_n ?_ | refine thenQ_e ?_ | refine blockQ_t ?_ | refine blockQ_f (by decide) ?_)) | (refine aw_exit ?_; with_reducible repeat' (first | refine thenQ_n ?_ | refine blockQ_n ?_ | refine thenQ_e ?_ | refine blockQ_t ?_ | refine blockQ_f (by decide) ?_)) | refine aw_ret ?_ | refine aw_block ?_ | refine aw_condT rfl ?_ | refine aw_condF rfl ?_ | (refine aw_cond rfl (fun hg => ?_) (fun hg => ?_) <;> (try (have hq := hg; simp only [Bool.not_eq_true', Bool.not_eq_false', Bool.and_eq_true, Bool.and_eq_false_iff, Bool.or_eq_true, Bool.or_eq_false_iff, decide_eq_true_eq, decide_eq_false_iff_not, bne_iff_ne, beq_iff_eq, beq_eq_false_iff_ne, bne_eq_false_iff_eq, ne_eq, Int.not_lt, Int.not_le, Decidable.not_not] at hq)) <;> (try (have hr := hg; simp only [decide_eq_true_eq, decide_eq_false_iff_not] at hr)) <;> (try (exfalso; omega))) | ((first | refine aw_hide fun K hK => aw_region ?_ | refine ago_if (by omega) ?_ | skip); simp (config := {maxSteps := 10000000}) (disch := first | exact okYes (by kernel_rfl) | omega) only [List.length, Nat.zero_add, Nat.reduceAdd, Nat.reduceMul, dI, ARun_none, AOpRun, aexec, FSt.ev, St.F, eget_c, Nat.reduceBEq, ↓eget_h, cond_false, AGo_ok, St.app, putO, eput_c, eput_n, hups, List.map, Option.map, run1, hget_c, beq_self_eq_true, hget_n, cond_true, List.getElem?_cons_zero, sl, isSh, Bool.false_eq_true, ↓reduceIte, abin, ARun_nil, dropE_c, inL_c, inL_n, dropE_n, hr, decide_false]) | (subst hK; with_reducible repeat' (first | refine thenQ_n ?_ | refine blockQ_n ?_ | refine thenQ_e ?_ | refine blockQ_t ?_ | refine blockQ_f (by decide) ?_))))
  refine aw_loop (fun k : Nat => ⟨[(1, .ptr 0 0), (4, dI k)], [(0, [.list (ints s), .list (ints m)])], 4000⟩) (fun k => k ≤ m.length ∧ (∀ j, j < k → wI (iat m j) 0 ((s.length : Int) - 1) = true) ∧ ∀ j, j < k → 0 < j → iat m (j - 1) < iat m j) (fun k => m.length - k) ⟨0, ⟨by omega, fun j hj => by omega, fun j hj => by omega⟩, ?_⟩ ?_
  · unfold dI
    refine wk_to [] [(0, 0)] (by kernel_rfl) (by kernel_rfl) (by kernel_rfl) (by kernel_rfl) (by kernel_rfl) ?_ ?_ <;> repeat' (first | exact trivial | exact vr_val _ | exact vr_list _ | exact vr_ptr _ _ _ rfl | refine And.intro ⟨_, rfl, .inl ⟨_, rfl, by decide, ?_⟩⟩ ?_ | apply And.intro)
  rintro k ⟨hk, hin, hri⟩
  by_cases hk2 : k < m.length
  case neg =>
    obtain rfl : k = m.length := by omega
    rw [vib_yes (by omega) q2 q3 (allI_yes hin) (risI_yes hri)]
    (have hg : (987654321 : Nat) - 987654321 = 0 := rfl; have hr := hg; repeat' (first | refine aw_seq ?_ | (refine aw_skip ?_; with_reducible repeat' (first | refine thenQ_n ?_ | refine blockQ_n ?_ | refine thenQ_e ?_ | refine blockQ_t ?_ | refine blockQ_f (by decide) ?_)) | (refine aw_exit ?_; with_reducible repeat' (first | refine thenQ_n ?_ | refine blockQ_n ?_ | refine thenQ_e ?_ | refine blockQ_t ?_ | refine blockQ_f (by decide) ?_)) | refine aw_ret ?_ | refine aw_block ?_ | refine aw_condT rfl ?_ | refine aw_condF rfl ?_ | (refine aw_cond rfl (fun hg => ?_) (fun hg => ?_) <;> (try (have hq := hg; simp only [Bool.not_eq_true', Bool.not_eq_false', Bool.and_eq_true, Bool.and_eq_false_iff, Bool.or_eq_true, Bool.or_eq_false_iff, decide_eq_true_eq, decide_eq_false_iff_not, bne_iff_ne, beq_iff_eq, beq_eq_false_iff_ne, bne_eq_false_iff_eq, ne_eq, Int.not_lt, Int.not_le, Decidable.not_not] at hq)) <;> (try (have hr := hg; simp only [decide_eq_true_eq, decide_eq_false_iff_not] at hr)) <;> (try (exfalso; omega))) | ((first | refine aw_hide fun K hK => aw_region ?_ | refine ago_if (by omega) ?_ | skip); simp (config := {maxSteps := 10000000}) (disch := first | exact okYes (by kernel_rfl) | omega) only [List.length, Nat.zero_add, Nat.reduceAdd, Nat.reduceMul, dI, ARun_none, AOpRun, aexec, FSt.ev, St.F, eget_c, Nat.reduceBEq, ↓eget_h, cond_false, AGo_ok, St.app, putO, eput_c, eput_n, hups, List.map, Option.map, run1, hget_c, beq_self_eq_true, hget_n, cond_true, List.getElem?_cons_succ, List.getElem?_cons_zero, ml, isSh, Bool.false_eq_true, ↓reduceIte, abin, ARun_nil, dropE_c, inL_c, inL_n, dropE_n, hr, decide_false]) | (subst hK; with_reducible repeat' (first | refine thenQ_n ?_ | refine blockQ_n ?_ | refine thenQ_e ?_ | refine blockQ_t ?_ | refine blockQ_f (by decide) ?_))))
    all_goals (refine end_to [] [] (by first | exact .inl rfl | exact .inr rfl) rfl (by kernel_rfl) (by kernel_rfl) (by kernel_rfl) ?_ ?_ <;> repeat' (first | exact trivial | exact vr_val _))
  have g1 := ints_gd m k hk2
  rw [show m[k]?.getD 0 = iat m k from rfl] at g1
  have c3 := gwithin_ac (iat m k) 0 ((s.length : Int) - 1)
  have ki : (k : Int) < (m.length : Int) := by omega
  cases he : wI (iat m k) 0 ((s.length : Int) - 1) with
  | false =>
    rw [he] at c3
    rw [vib_no_m hk2 he]
    (have hg : (987654321 : Nat) - 987654321 = 0 := rfl; have hr := hg; repeat' (first | refine aw_seq ?_ | (refine aw_skip ?_; with_reducible repeat' (first | refine thenQ_n ?_ | refine blockQ_n ?_ | refine thenQ_e ?_ | refine blockQ_t ?_ | refine blockQ_f (by decide) ?_)) | (refine aw_exit ?_; with_reducible repeat' (first | refine thenQ_n ?_ | refine blockQ_n ?_ | refine thenQ_e ?_ | refine blockQ_t ?_ | refine blockQ_f (by decide) ?_)) | refine aw_ret ?_ | refine aw_block ?_ | refine aw_condT rfl ?_ | refine aw_condF rfl ?_ | ((first | refine aw_hide fun K hK => aw_region ?_ | refine acall0 (c3) ?_ | refine ago_if (by omega) ?_ | skip); simp (config := {maxSteps := 10000000}) (disch := first | exact okYes (by kernel_rfl) | omega) only [List.length, Nat.zero_add, Nat.reduceAdd, Nat.reduceMul, dI, ARun_none, AOpRun, aexec, FSt.ev, St.F, eget_c, Nat.reduceBEq, ↓eget_h, cond_false, AGo_ok, St.app, putO, eput_c, eput_n, hups, List.map, Option.map, run1, hget_c, beq_self_eq_true, hget_n, cond_true, List.getElem?_cons_succ, List.getElem?_cons_zero, ml, isSh, Bool.false_eq_true, ↓reduceIte, abin, ki, decide_true, ARun_nil, dropE_c, inL_c, inL_n, dropE_n, Int.natCast_nonneg, mg, and_self, opt1, Int.toNat_natCast, g1, sl, fits, dB, Bool.not_false, ARun_some, AG_tf, AG_un, blockQ, thenQ]) | (subst hK; with_reducible repeat' (first | refine thenQ_n ?_ | refine blockQ_n ?_ | refine thenQ_e ?_ | refine blockQ_t ?_ | refine blockQ_f (by decide) ?_))))
    all_goals (refine end_to [] [] (by first | exact .inl rfl | exact .inr rfl) rfl (by kernel_rfl) (by kernel_rfl) (by kernel_rfl) ?_ ?_ <;> repeat' (first | exact trivial | exact vr_val _))
  | true =>
  rw [he] at c3
  have step1 : ∀ j, j < k + 1 → wI (iat m j) 0 ((s.length : Int) - 1) = true := fun j hj => by
    rcases (by omega : j < k ∨ j = k) with h | rfl
    · exact hin j h
    · exact he
  have step2 : (0 < k → iat m (k - 1) < iat m k) → ∀ j, j < k + 1 → 0 < j → iat m (j - 1) < iat m j := fun h j hj h0 => by
    rcases (by omega : j < k ∨ j = k) with h1 | rfl
    · exact hri j h1 h0
    · exact h h0
  rcases Nat.eq_zero_or_pos k with rfl | h0
  · (have hg : (987654321 : Nat) - 987654321 = 0 := rfl; have hr := hg; repeat' (first | refine aw_seq ?_ | (refine aw_skip ?_; with_reducible repeat' (first | refine thenQ_n ?_ | refine blockQ_n ?_ | refine thenQ_e ?_ | refine blockQ_t ?_ | refine blockQ_f (by decide) ?_)) | (refine aw_exit ?_; with_reducible repeat' (first | refine thenQ_n ?_ | refine blockQ_n ?_ | refine thenQ_e ?_ | refine blockQ_t ?_ | refine blockQ_f (by decide) ?_)) | refine aw_ret ?_ | refine aw_block ?_ | refine aw_condT rfl ?_ | refine aw_condF rfl ?_ | (refine aw_cond rfl (fun hg => ?_) (fun hg => ?_) <;> (try (have hq := hg; simp only [Bool.not_eq_true', Bool.not_eq_false', Bool.and_eq_true, Bool.and_eq_false_iff, Bool.or_eq_true, Bool.or_eq_false_iff, decide_eq_true_eq, decide_eq_false_iff_not, bne_iff_ne, beq_iff_eq, beq_eq_false_iff_ne, bne_eq_false_iff_eq, ne_eq, Int.not_lt, Int.not_le, Decidable.not_not] at hq)) <;> (try (have hr := hg; simp only [decide_eq_true_eq, decide_eq_false_iff_not] at hr)) <;> (try (exfalso; omega))) | (refine ag_bool (fun hg => ?_) (fun hg => ?_) <;> (try (have hq := hg; simp only [Bool.not_eq_true', Bool.not_eq_false', Bool.and_eq_true, Bool.and_eq_false_iff, Bool.or_eq_true, Bool.or_eq_false_iff, decide_eq_true_eq, decide_eq_false_iff_not, bne_iff_ne, beq_iff_eq, beq_eq_false_iff_ne, bne_eq_false_iff_eq, ne_eq, Int.not_lt, Int.not_le, Decidable.not_not] at hq)) <;> (try (have hr := hg; simp only [decide_eq_true_eq, decide_eq_false_iff_not] at hr)) <;> (try (exfalso; omega)) <;> simp (config := {maxSteps := 10000000}) (disch := first | exact okYes (by kernel_rfl) | omega) only [hr, decide_false, AG_ft, Nat.reduceAdd, St.app, putO, eput_c, Nat.reduceBEq, eput_n, cond_false, hups, ARun_some, eget_c, ↓eget_h, AG_ff, AOpRun, aexec, FSt.ev, St.F, Bool.false_eq_true, ↓reduceIte, AGo_ok, List.map, ARun_none, ARun_nil, dropE_c, inL_c, inL_n, beq_self_eq_true, cond_true, dropE_n]) | ((first | refine aw_hide fun K hK => aw_region ?_ | refine acall0 (c3) ?_ | refine ago_if (by omega) ?_ | skip); simp (config := {maxSteps := 10000000}) (disch := first | exact okYes (by kernel_rfl) | omega) only [List.length, Nat.zero_add, Nat.reduceAdd, Nat.reduceMul, dI, cast_lit, ARun_none, AOpRun, aexec, FSt.ev, St.F, eget_c, Nat.reduceBEq, ↓eget_h, cond_false, AGo_ok, St.app, putO, eput_c, eput_n, hups, List.map, Option.map, run1, hget_c, beq_self_eq_true, hget_n, cond_true, List.getElem?_cons_succ, List.getElem?_cons_zero, ml, isSh, Bool.false_eq_true, ↓reduceIte, abin, ARun_nil, dropE_c, inL_c, inL_n, dropE_n, hr, decide_true, Int.le_refl, mg, and_self, opt1, Int.toNat_zero, g1, sl, fits, dB, Bool.not_true, ARun_some, AG_ff, Int.reduceAdd]) | (subst hK; with_reducible repeat' (first | refine thenQ_n ?_ | refine blockQ_n ?_ | refine thenQ_e ?_ | refine blockQ_t ?_ | refine blockQ_f (by decide) ?_))))
    refine ⟨1, ⟨by omega, step1, step2 (fun h => by omega)⟩, by omega, ?_⟩
    refine wk_to [] [(0, 0)] (by kernel_rfl) (by kernel_rfl) (by kernel_rfl) (by kernel_rfl) (by kernel_rfl) ?_ ?_ <;> repeat' (first | exact trivial | exact vr_val _ | exact vr_list _ | exact vr_ptr _ _ _ rfl | refine And.intro ⟨_, rfl, .inl ⟨_, rfl, by decide, ?_⟩⟩ ?_ | apply And.intro)
  obtain ⟨j, rfl⟩ : ∃ j, k = j + 1 := ⟨k - 1, by omega⟩
  have g2 := ints_gd m j (by omega)
  rw [show m[j]?.getD 0 = iat m j from rfl] at g2
  have e1 : IntKind.i64.wrap (((j + 1 : Nat) : Int) - 1) = (j : Int) := by rw [wrap_in (by omega) (by omega)]; omega
  have e1' : ((j + 1 : Nat) : Int) - 1 = (j : Int) := by omega
  have kj : (j : Int) < (m.length : Int) := by omega
  have q0 : decide (((j + 1 : Nat) : Int) > 0) = true := decide_eq_true (by omega)
  have hst := step2
  generalize hk3 : j + 1 = k at *
  cases q7 : decide (iat m k ≤ iat m j) with
  | true =>
    rw [vib_no_r (k := k) (by omega) hk2 (by have := of_decide_eq_true q7; rw [show k - 1 = j by omega]; exact this)]
    (have hg : (987654321 : Nat) - 987654321 = 0 := rfl; have hr := hg; repeat' (first | refine aw_seq ?_ | (refine aw_skip ?_; with_reducible repeat' (first | refine thenQ_n ?_ | refine blockQ_n ?_ | refine thenQ_e ?_ | refine blockQ_t ?_ | refine blockQ_f (by decide) ?_)) | (refine aw_exit ?_; with_reducible repeat' (first | refine thenQ_n ?_ | refine blockQ_n ?_ | refine thenQ_e ?_ | refine blockQ_t ?_ | refine blockQ_f (by decide) ?_)) | refine aw_ret ?_ | refine aw_block ?_ | refine aw_condT rfl ?_ | refine aw_condF rfl ?_ | ((first | refine aw_hide fun K hK => aw_region ?_ | refine acall0 (c3) ?_ | refine ago_if (by omega) ?_ | skip); simp (config := {maxSteps := 10000000}) (disch := first | exact okYes (by kernel_rfl) | omega) only [List.length, Nat.zero_add, Nat.reduceAdd, Nat.reduceMul, dI, ARun_none, AOpRun, aexec, FSt.ev, St.F, eget_c, Nat.reduceBEq, ↓eget_h, cond_false, AGo_ok, St.app, putO, eput_c, eput_n, hups, List.map, Option.map, run1, hget_c, beq_self_eq_true, hget_n, cond_true, List.getElem?_cons_succ, List.getElem?_cons_zero, ml, isSh, Bool.false_eq_true, ↓reduceIte, abin, ki, decide_true, ARun_nil, dropE_c, inL_c, inL_n, dropE_n, Int.natCast_nonneg, mg, and_self, opt1, Int.toNat_natCast, g1, sl, fits, dB, Bool.not_true, ARun_some, AG_ff, q0, AG_tt, e1', g2, q7, blockQ, thenQ]) | (subst hK; with_reducible repeat' (first | refine thenQ_n ?_ | refine blockQ_n ?_ | refine thenQ_e ?_ | refine blockQ_t ?_ | refine blockQ_f (by decide) ?_))))
    all_goals (refine end_to [] [] (by first | exact .inl rfl | exact .inr rfl) rfl (by kernel_rfl) (by kernel_rfl) (by kernel_rfl) ?_ ?_ <;> repeat' (first | exact trivial | exact vr_val _))
  | false =>
    (have hg : (987654321 : Nat) - 987654321 = 0 := rfl; have hr := hg; repeat' (first | refine aw_seq ?_ | (refine aw_skip ?_; with_reducible repeat' (first | refine thenQ_n ?_ | refine blockQ_n ?_ | refine thenQ_e ?_ | refine blockQ_t ?_ | refine blockQ_f (by decide) ?_)) | (refine aw_exit ?_; with_reducible repeat' (first | refine thenQ_n ?_ | refine blockQ_n ?_ | refine thenQ_e ?_ | refine blockQ_t ?_ | refine blockQ_f (by decide) ?_)) | refine aw_ret ?_ | refine aw_block ?_ | refine aw_condT rfl ?_ | refine aw_condF rfl ?_ | ((first | refine aw_hide fun K hK => aw_region ?_ | refine acall0 (c3) ?_ | refine ago_if (by omega) ?_ | skip); simp (config := {maxSteps := 10000000}) (disch := first | exact okYes (by kernel_rfl) | omega) only [List.length, Nat.zero_add, Nat.reduceAdd, Nat.reduceMul, dI, ARun_none, AOpRun, aexec, FSt.ev, St.F, eget_c, Nat.reduceBEq, ↓eget_h, cond_false, AGo_ok, St.app, putO, eput_c, eput_n, hups, List.map, Option.map, run1, hget_c, beq_self_eq_true, hget_n, cond_true, List.getElem?_cons_succ, List.getElem?_cons_zero, ml, isSh, Bool.false_eq_true, ↓reduceIte, abin, ki, decide_true, ARun_nil, dropE_c, inL_c, inL_n, dropE_n, Int.natCast_nonneg, mg, and_self, opt1, Int.toNat_natCast, g1, sl, fits, dB, Bool.not_true, ARun_some, AG_ff, q0, AG_tt, e1', g2, q7]) | (subst hK; with_reducible repeat' (first | refine thenQ_n ?_ | refine blockQ_n ?_ | refine thenQ_e ?_ | refine blockQ_t ?_ | refine blockQ_f (by decide) ?_))))
    refine ⟨k + 1, ⟨by omega, step1, hst (fun _ => by have := of_decide_eq_false q7; rw [show k - 1 = j by omega]; omega)⟩, by omega, ?_⟩
    refine wk_to [] [(0, 0)] (by kernel_rfl) (by kernel_rfl) (by kernel_rfl) (by kernel_rfl) (by kernel_rfl) ?_ ?_ <;> repeat' (first | exact trivial | exact vr_val _ | exact vr_list _ | exact vr_ptr _ _ _ rfl | refine And.intro ⟨_, rfl, .inl ⟨_, rfl, by decide, ?_⟩⟩ ?_ | apply And.intro)
set_option maxRecDepth 100000 in
set_option maxHeartbeats 4000000 in
theorem gvalue_ac (s m : List Int) (n i k : Nat) (h : VibOk s m) (hi : i + 1 < m.length) (hk : k < n) (hn : n ≤ 24) : AC Try.prog 104 [.agg [.list (ints s), .list (ints m)], dI i, dI k, dI n] [] [] (dI (avV s m n i k)) := by
  refine kref08_value.ac (n0 := 0) (by simp) ⟨in_vib _ _ _, .val _, .val _, .val _, trivial⟩ trivial rfl ?_
  unfold cref08_value
  have sl := ints_len s
  have ml := ints_len m
  have sg := ints_all s
  have mg := ints_all m
  have hsl := h.sl
  have hml := h.ml
  have hmh := h.mh
  have g1 := ints_gd m i (by omega)
  have g2 := ints_gd m (i + 1) (by omega)
  rw [show m[i]?.getD 0 = iat m i from rfl] at g1
  rw [show m[i + 1]?.getD 0 = iat m (i + 1) from rfl] at g2
  obtain ⟨a, b, P, w, q, R, Q, ha, hb, hw, hP, hPl, hq, hR, hRl, hQ, hQl, hbl, hwl, hv0, hv1⟩ := point_ok (n := n) (k := k) h (i := i) hi hk hn
  rw [ha] at g1
  rw [hb] at g2
  have ki0 : (i : Int) < (m.length : Int) := by omega
  have ki1 : (i : Int) + 1 < (m.length : Int) := by omega
  have e39 : ((i : Int) + 1).toNat = i + 1 := by omega
  have kz : (0 : Int) ≤ (i : Int) + 1 := by omega
  have gq := ints_gd s Q (by omega)
  have gq1 := ints_gd s (Q + 1) (by omega)
  rw [show s[Q]?.getD 0 = iat s Q from rfl] at gq
  rw [show s[Q + 1]?.getD 0 = iat s (Q + 1) from rfl] at gq1
  have s1 := h.sb Q (by omega)
  have s2 := h.sb (Q + 1) (by omega)
  have t1 := mulB (A := 24) (B := 100) (a := (n : Int) - R) (b := iat s Q) (by omega) (by omega) s1.1 s1.2
  have t2 := mulB (A := 24) (B := 100) (a := (R : Int)) (b := iat s (Q + 1)) (by omega) (by omega) s2.1 s2.2
  have t3 := mulB (A := 24) (B := 100) (a := (n : Int)) (b := iat s Q) (by omega) (by omega) s1.1 s1.2
  have e50 : (b : Int) - (a : Int) = (w : Int) := hw
  have e51 : IntKind.i64.wrap ((k : Int) * (w : Int)) = (P : Int) := by rw [← Int.natCast_mul, hP]; exact wrap_in (by omega) (by omega)
  have e53 : Int.tdiv (P : Int) (n : Int) = (q : Int) := by rw [← hq]; rfl
  have e60 : Int.tmod (P : Int) (n : Int) = (R : Int) := by rw [← hR]; rfl
  have n0 : ¬ (n : Int) = 0 := by omega
  have e72 : IntKind.i64.wrap ((a : Int) + (q : Int)) = (Q : Int) := by rw [wrap_in (by omega) (by omega)]; omega
  have e90 : IntKind.i64.wrap ((Q : Int) + 1) = ((Q + 1 : Nat) : Int) := by rw [wrap_in (by omega) (by omega)]; omega
  have kq : (Q : Int) < (s.length : Int) := by omega
  have kq1 : ((Q + 1 : Nat) : Int) < (s.length : Int) := by omega
  rcases Nat.eq_zero_or_pos R with hR0 | hR0
  · rw [hv0 hR0, hR0, Int.natCast_zero, Int.sub_zero]
    have q39 : ((R : Int) == 0) = true := by rw [hR0]; rfl
    have e48 : IntKind.i64.wrap ((n : Int) * iat s Q) = (n : Int) * iat s Q := wrap_in (by omega) (by omega)
    (have hg : (987654321 : Nat) - 987654321 = 0 := rfl; have hr := hg; repeat' (first | refine aw_seq ?_ | (refine aw_skip ?_; with_reducible repeat' (first | refine thenQ_n ?_ | refine blockQ_n ?_ | refine thenQ_e ?_ | refine blockQ_t ?_ | refine blockQ_f (by decide) ?_)) | (refine aw_exit ?_; with_reducible repeat' (first | refine thenQ_n ?_ | refine blockQ_n ?_ | refine thenQ_e ?_ | refine blockQ_t ?_ | refine blockQ_f (by decide) ?_)) | refine aw_ret ?_ | refine aw_block ?_ | refine aw_condT rfl ?_ | refine aw_condF rfl ?_ | ((first | refine aw_hide fun K hK => aw_region ?_ | refine ago_if (by omega) ?_ | skip); simp (config := {maxSteps := 10000000}) (disch := first | exact okYes (by kernel_rfl) | omega) only [List.length, Nat.zero_add, Nat.reduceAdd, Nat.reduceMul, envOf, dI, ARun_none, AOpRun, aexec, D.isBot, FSt.ev, St.F, ↓eget_h, Bool.false_eq_true, Option.isSome, hget_n, or_self, ↓reduceIte, D.cells, AGo_ok, St.app, putO, eput_c, Nat.reduceBEq, eput_n, cond_false, hups, hput_n, List.map, ARun_nil, dropE_c, inL_n, dropE_n, eget_c, Option.map, run1, hget_c, beq_self_eq_true, cond_true, List.getElem?_cons_succ, List.getElem?_cons_zero, Int.natCast_nonneg, mg, and_self, opt1, Int.toNat_natCast, g1, isSh, abin, fits, kz, e39, g2, inL_c, e50, e51, n0, e53, e60, q39, e72, sg, gq, e48, thenQ]) | (subst hK; with_reducible repeat' (first | refine thenQ_n ?_ | refine blockQ_n ?_ | refine thenQ_e ?_ | refine blockQ_t ?_ | refine blockQ_f (by decide) ?_))))
    all_goals (refine end_to [] [] (by first | exact .inl rfl | exact .inr rfl) rfl (by kernel_rfl) (by kernel_rfl) (by kernel_rfl) ?_ ?_ <;> repeat' (first | exact trivial | exact vr_val _))
  · rw [hv1 hR0]
    have q39 : ((R : Int) == 0) = false := by simp only [beq_eq_false_iff_ne]; omega
    have e59 : IntKind.i64.wrap (((n : Int) - R) * iat s Q) = ((n : Int) - R) * iat s Q := wrap_in (by omega) (by omega)
    have e69 : IntKind.i64.wrap ((R : Int) * iat s (Q + 1)) = (R : Int) * iat s (Q + 1) := wrap_in (by omega) (by omega)
    have e70 : IntKind.i64.wrap (((n : Int) - R) * iat s Q + (R : Int) * iat s (Q + 1)) = ((n : Int) - R) * iat s Q + (R : Int) * iat s (Q + 1) := wrap_in (by omega) (by omega)
    (have hg : (987654321 : Nat) - 987654321 = 0 := rfl; have hr := hg; repeat' (first | refine aw_seq ?_ | (refine aw_skip ?_; with_reducible repeat' (first | refine thenQ_n ?_ | refine blockQ_n ?_ | refine thenQ_e ?_ | refine blockQ_t ?_ | refine blockQ_f (by decide) ?_)) | (refine aw_exit ?_; with_reducible repeat' (first | refine thenQ_n ?_ | refine blockQ_n ?_ | refine thenQ_e ?_ | refine blockQ_t ?_ | refine blockQ_f (by decide) ?_)) | refine aw_ret ?_ | refine aw_block ?_ | refine aw_condT rfl ?_ | refine aw_condF rfl ?_ | ((first | refine aw_hide fun K hK => aw_region ?_ | refine ago_if (by omega) ?_ | skip); simp (config := {maxSteps := 10000000}) (disch := first | exact okYes (by kernel_rfl) | omega) only [List.length, Nat.zero_add, Nat.reduceAdd, Nat.reduceMul, envOf, dI, ARun_none, AOpRun, aexec, D.isBot, FSt.ev, St.F, ↓eget_h, Bool.false_eq_true, Option.isSome, hget_n, or_self, ↓reduceIte, D.cells, AGo_ok, St.app, putO, eput_c, Nat.reduceBEq, eput_n, cond_false, hups, hput_n, List.map, ARun_nil, dropE_c, inL_n, dropE_n, eget_c, Option.map, run1, hget_c, beq_self_eq_true, cond_true, List.getElem?_cons_succ, List.getElem?_cons_zero, Int.natCast_nonneg, mg, and_self, opt1, Int.toNat_natCast, g1, isSh, abin, fits, kz, e39, g2, inL_c, e50, e51, n0, e53, e60, q39, e72, sg, gq, e59, e90, gq1, e69, e70]) | (subst hK; with_reducible repeat' (first | refine thenQ_n ?_ | refine blockQ_n ?_ | refine thenQ_e ?_ | refine blockQ_t ?_ | refine blockQ_f (by decide) ?_))))
    all_goals (refine end_to [] [] (by first | exact .inl rfl | exact .inr rfl) rfl (by kernel_rfl) (by kernel_rfl) (by kernel_rfl) ?_ ?_ <;> repeat' (first | exact trivial | exact vr_val _))
set_option maxRecDepth 100000 in
set_option maxHeartbeats 8000000 in
theorem gavg_ok (s m : List Int) (n : Nat) (h : VibOk s m) (h0 : vibE s m = 0) (hn0 : 1 ≤ n) (hn : n ≤ 24) : AC Try.prog 57 [.agg [.list (ints s), .list (ints m)], dI n] [] [] (.tup [.list (ints (sumL s m n (m.length - 1) 0)), dI ((n : Int) * ((m.length : Int) - 1)), dI 0]) := by
  refine kref08_Average.ac (n0 := 0) (by simp) ⟨in_vib _ _ _, .val _, trivial⟩ trivial rfl ?_
  unfold cref08_Average
  have hs := h.sl
  have hml := h.ml
  have hmh := h.mh
  have c1 := gcheck_ac s m (by omega) (by omega)
  rw [h0] at c1
  have c2 := gwithin_ac n 1 24
  rw [wI_y (by omega) (by omega)] at c2
  have ml := ints_len m
  have mg := ints_all m
  have hrz := rep_ic n
  have m1 : (0 : Int) ≤ (n : Int) := by omega
  have m2 : (n : Int) * 8 ≤ 2 ^ 48 := by omega
  have m3 : (n : Int) < 2 ^ 62 := by omega
  refine aw_seq (aw_region ?_)
  simp (config := {maxSteps := 10000000}) (disch := first | exact okYes (by kernel_rfl) | omega) only [thenQ, List.map, dI, List.length, Nat.zero_add, Nat.reduceAdd, Nat.reduceMul, envOf, ARun_none, AOpRun, aexec, D.isBot, FSt.ev, St.F, ↓eget_h, Bool.false_eq_true, Option.isSome, hget_n, or_self, ↓reduceIte, D.cells, AGo_ok, St.app, putO, eput_c, Nat.reduceBEq, eput_n, cond_false, hups, hput_n, ARun_nil, dropE_c, inL_n, dropE_n]
  refine aw_seq (aw_seq (aw_region ?_))
  simp (config := {maxSteps := 10000000}) (disch := first | exact okYes (by kernel_rfl) | omega) only [thenQ, List.length, Nat.zero_add, Nat.reduceAdd, Nat.reduceMul, ARun_none, AOpRun, aexec, FSt.ev, St.F, eget_c, Nat.reduceBEq, ↓eget_h, cond_false, hget_c, beq_self_eq_true, hget_n, cond_true, Nat.reduceLeDiff, ↓reduceIte, List.drop, List.take, AGo_ok, St.app, putO, eput_c, eput_n, hups, List.map]
  refine acall0 c1 ?_
  simp (config := {maxSteps := 10000000}) (disch := first | exact okYes (by kernel_rfl) | omega) only [Nat.reduceAdd, St.app, putO, dI, eput_c, Nat.reduceBEq, eput_n, cond_false, hups, ARun_none, AOpRun, aexec, FSt.ev, St.F, eget_c, ↓eget_h, AGo_ok, List.map, ARun_nil, dropE_c, inL_c, inL_n, beq_self_eq_true, cond_true, dropE_n]
  refine aw_seq (aw_region ?_)
  simp (config := {maxSteps := 10000000}) (disch := first | exact okYes (by kernel_rfl) | omega) only [thenQ, List.length, Nat.zero_add, Nat.reduceAdd, Nat.reduceMul, ARun_none, AOpRun, aexec, FSt.ev, St.F, eget_c, Nat.reduceBEq, ↓eget_h, cond_false, AGo_ok, St.app, putO, eput_c, eput_n, hups, List.map, isSh, Bool.false_eq_true, ↓reduceIte, Option.map, abin, bne_self_eq_false, ARun_nil, dropE_c, inL_c, inL_n, beq_self_eq_true, cond_true, dropE_n]
  refine aw_condF rfl (aw_skip ?_)
  refine aw_seq (aw_seq (aw_region ?_))
  simp (config := {maxSteps := 10000000}) (disch := first | exact okYes (by kernel_rfl) | omega) only [thenQ, List.length, Nat.zero_add, Nat.reduceAdd, Nat.reduceMul, ARun_none, AOpRun, aexec, FSt.ev, St.F, eget_c, Nat.reduceBEq, ↓eget_h, cond_false, AGo_ok, St.app, putO, eput_c, eput_n, hups, List.map]
  refine acall0 c2 ?_
  simp (config := {maxSteps := 10000000}) (disch := first | exact okYes (by kernel_rfl) | omega) only [Nat.reduceAdd, St.app, putO, dB, eput_c, Nat.reduceBEq, eput_n, cond_false, hups, ARun_none, AOpRun, aexec, FSt.ev, St.F, eget_c, ↓eget_h, Bool.not_true, AGo_ok, List.map, ARun_nil, dropE_c, inL_c, inL_n, beq_self_eq_true, cond_true, dropE_n]
  refine aw_condF rfl (aw_skip ?_)
  refine aw_seq (aw_region ?_)
  simp (config := {maxSteps := 10000000}) (disch := first | exact okYes (by kernel_rfl) | omega) only [thenQ, List.length, Nat.zero_add, Nat.reduceAdd, Nat.reduceMul, ARun_none, AOpRun, aexec, FSt.ev, St.F, eget_c, Nat.reduceBEq, ↓eget_h, cond_false, AGo_ok, St.app, putO, eput_c, eput_n, hups, List.map, m1, cast_lit, m2, m3, Option.isSome, hget_c, hget_n, and_self, ↓reduceIte, Int.toNat_natCast, hrz, hput_c, hput_n, ARun_nil, dropE_c, inL_c, inL_n, beq_self_eq_true, cond_true, dropE_n]
  refine aw_wk (s' := ⟨[(1, dI n), (2, .ptr 0 0), (8, .vec 200 n 1)], [(0, [.list (ints s), .list (ints m)]), (200, icells (sumL s m n 0 0))], 300⟩) ?_ ?_
  · rw [sumL_zero]
    unfold dI
    refine wk_to [] [(0, 0), (200, 104)] (by kernel_rfl) (by kernel_rfl) (by kernel_rfl) (by kernel_rfl) (by kernel_rfl) ?_ ?_ <;> repeat' (first | exact trivial | exact vr_val _ | exact vr_list _ | exact vr_vec _ _ _ _ rfl | exact vr_ptr _ _ _ rfl | refine And.intro ⟨_, rfl, .inl ⟨_, rfl, by decide, ?_⟩⟩ ?_ | apply And.intro | exact vrl_flat _ (by first | exact icells_in _ | exact rcells_in _ | exact scells_in _ | exact bcells_in _ | assumption))
  refine aw_seq (aw_region ?_)
  simp (config := {maxSteps := 10000000}) (disch := first | exact okYes (by kernel_rfl) | omega) only [thenQ, List.length, Nat.zero_add, Nat.reduceAdd, Nat.reduceMul, dI, ARun_none, AOpRun, aexec, FSt.ev, St.F, eget_c, Nat.reduceBEq, ↓eget_h, cond_false, AGo_ok, St.app, putO, eput_c, eput_n, hups, List.map, Option.map, run1, hget_c, beq_self_eq_true, hget_n, cond_true, List.getElem?_cons_succ, List.getElem?_cons_zero, ml, isSh, Bool.false_eq_true, ↓reduceIte, abin, fits, ARun_nil, dropE_c, inL_c, inL_n, dropE_n]
  refine aw_seq (aw_seq (aw_region ?_))
  simp (config := {maxSteps := 10000000}) (disch := first | exact okYes (by kernel_rfl) | omega) only [thenQ, List.length, Nat.zero_add, Nat.reduceMul, Nat.reduceAdd, ARun_none, AOpRun, aexec, FSt.ev, AGo_ok, St.app, putO, eput_c, Nat.reduceBEq, eput_n, cond_false, hups, List.map, ARun_nil, dropE_c, inL_n, dropE_n]
  refine aw_block (aw_loop (fun i : Nat => ⟨[(1, dI n), (2, .ptr 0 0), (8, .vec 200 n 1), (9, dI ((m.length : Int) - 1)), (10, dI i)], [(0, [.list (ints s), .list (ints m)]), (200, icells (sumL s m n i 0))], 1000⟩) (fun i => i ≤ m.length - 1) (fun i => m.length - 1 - i) ⟨0, by omega, ?_⟩ ?_)
  · unfold dI
    refine wk_to [] [(0, 0), (200, 200)] (by kernel_rfl) (by kernel_rfl) (by kernel_rfl) (by kernel_rfl) (by kernel_rfl) ?_ ?_ <;> repeat' (first | exact trivial | exact vr_val _ | exact vr_list _ | exact vr_vec _ _ _ _ rfl | exact vr_ptr _ _ _ rfl | refine And.intro ⟨_, rfl, .inl ⟨_, rfl, by decide, ?_⟩⟩ ?_ | apply And.intro | exact vrl_flat _ (by first | exact icells_in _ | exact rcells_in _ | exact scells_in _ | exact bcells_in _ | assumption))
    all_goals exact vrl_flat _ (icells_in _)
  intro i hi
  by_cases hi2 : i < m.length - 1
  case neg =>
    obtain rfl : i = m.length - 1 := by omega
    have ki : ¬ (((m.length - 1 : Nat) : Int) < (m.length : Int) - 1) := by omega
    have e104 : IntKind.i64.wrap ((n : Int) * ((m.length : Int) - 1)) = (n : Int) * ((m.length : Int) - 1) := by
      have := mulB (A := 24) (B := 9) (a := (n : Int)) (b := (m.length : Int) - 1) (by omega) (by omega) (by omega) (by omega)
      exact wrap_in (by omega) (by omega)
    have hll := sumL_len s m n (m.length - 1) 0
    generalize sumL s m n (m.length - 1) 0 = L at *
    (have hg : (987654321 : Nat) - 987654321 = 0 := rfl; have hr := hg; repeat' (first | refine aw_seq ?_ | (refine aw_skip ?_; with_reducible repeat' (first | refine thenQ_n ?_ | refine blockQ_n ?_ | refine thenQ_e ?_ | refine blockQ_t ?_ | refine blockQ_f (by decide) ?_)) | (refine aw_exit ?_; with_reducible repeat' (first | refine thenQ_n ?_ | refine blockQ_n ?_ | refine thenQ_e ?_ | refine blockQ_t ?_ | refine blockQ_f (by decide) ?_)) | refine aw_ret ?_ | refine aw_block ?_ | refine aw_condT rfl ?_ | refine aw_condF rfl ?_ | ((first | refine aw_hide fun K hK => aw_region ?_ | refine ago_if (by omega) ?_ | skip); simp (config := {maxSteps := 10000000}) (disch := first | exact okYes (by kernel_rfl) | omega) only [List.length, Nat.zero_add, Nat.reduceAdd, Nat.reduceMul, dI, ARun_none, AOpRun, aexec, FSt.ev, St.F, eget_c, Nat.reduceBEq, ↓eget_h, cond_false, AGo_ok, St.app, putO, eput_c, eput_n, hups, List.map, isSh, Bool.false_eq_true, ↓reduceIte, Option.map, abin, ki, decide_false, ARun_nil, dropE_c, inL_c, inL_n, beq_self_eq_true, cond_true, dropE_n, e104]) | (subst hK; with_reducible repeat' (first | refine thenQ_n ?_ | refine blockQ_n ?_ | refine thenQ_e ?_ | refine blockQ_t ?_ | refine blockQ_f (by decide) ?_))))
    refine end_to [200] [] (by first | exact .inl rfl | exact .inr rfl) rfl (by kernel_rfl) (by kernel_rfl) (by kernel_rfl) ?_ ?_ <;> repeat' (first | exact trivial | exact vr_val _ | apply vr_tup | refine vr_fl _ _ _ _ _ (by decide) rfl ?_ ?_ ?_ ?_ | apply And.intro)
    all_goals first | exact ints_one _ | exact (ints_len _).trans hll | exact ints_flat _ | exact icells_in _
  have ki : (i : Int) < (m.length : Int) - 1 := by omega
  refine aw_seq (aw_seq (aw_region ?_))
  simp (config := {maxSteps := 10000000}) (disch := first | exact okYes (by kernel_rfl) | omega) only [thenQ, dI, List.length, Nat.zero_add, Nat.reduceAdd, Nat.reduceMul, ARun_none, AOpRun, aexec, FSt.ev, St.F, eget_c, Nat.reduceBEq, ↓eget_h, cond_false, AGo_ok, St.app, putO, eput_c, eput_n, hups, List.map, isSh, Bool.false_eq_true, ↓reduceIte, Option.map, abin, ki, decide_true, ARun_nil, dropE_c, inL_c, inL_n, beq_self_eq_true, cond_true, dropE_n]
  refine aw_condT rfl (aw_skip ?_)
  refine aw_seq (aw_block (aw_seq (aw_region ?_)))
  simp (config := {maxSteps := 10000000}) (disch := first | exact okYes (by kernel_rfl) | omega) only [thenQ, List.length, Nat.zero_add, Nat.reduceMul, Nat.reduceAdd, ARun_none, AOpRun, aexec, FSt.ev, AGo_ok, St.app, putO, eput_c, Nat.reduceBEq, eput_n, cond_false, hups, List.map, ARun_nil, dropE_c, inL_n, dropE_n]
  refine aw_block (aw_loop (fun k : Nat => ⟨[(1, dI n), (2, .ptr 0 0), (8, .vec 200 n 1), (9, dI ((m.length : Int) - 1)), (10, dI i), (11, dI k)], [(0, [.list (ints s), .list (ints m)]), (200, icells (sumL s m n i k))], 2000⟩) (fun k => k ≤ n) (fun k => n - k) ⟨0, by omega, ?_⟩ ?_)
  · unfold dI
    refine wk_to [] [(0, 0), (200, 200)] (by kernel_rfl) (by kernel_rfl) (by kernel_rfl) (by kernel_rfl) (by kernel_rfl) ?_ ?_ <;> repeat' (first | exact trivial | exact vr_val _ | exact vr_list _ | exact vr_vec _ _ _ _ rfl | exact vr_ptr _ _ _ rfl | refine And.intro ⟨_, rfl, .inl ⟨_, rfl, by decide, ?_⟩⟩ ?_ | apply And.intro | exact vrl_flat _ (by first | exact icells_in _ | exact rcells_in _ | exact scells_in _ | exact bcells_in _ | assumption))
    all_goals exact vrl_flat _ (icells_in _)
  intro k hk
  by_cases hk2 : k < n
  case neg =>
    obtain rfl : k = n := by omega
    have hse := sumL_end s m k i
    generalize sumL s m k i k = L at *
    (have hg : (987654321 : Nat) - 987654321 = 0 := rfl; have hr := hg; repeat' (first | refine aw_seq ?_ | (refine aw_skip ?_; with_reducible repeat' (first | refine thenQ_n ?_ | refine blockQ_n ?_ | refine thenQ_e ?_ | refine blockQ_t ?_ | refine blockQ_f (by decide) ?_)) | (refine aw_exit ?_; with_reducible repeat' (first | refine thenQ_n ?_ | refine blockQ_n ?_ | refine thenQ_e ?_ | refine blockQ_t ?_ | refine blockQ_f (by decide) ?_)) | refine aw_ret ?_ | refine aw_block ?_ | refine aw_condT rfl ?_ | refine aw_condF rfl ?_ | (refine aw_cond rfl (fun hg => ?_) (fun hg => ?_) <;> (try (have hq := hg; simp only [Bool.not_eq_true', Bool.not_eq_false', Bool.and_eq_true, Bool.and_eq_false_iff, Bool.or_eq_true, Bool.or_eq_false_iff, decide_eq_true_eq, decide_eq_false_iff_not, bne_iff_ne, beq_iff_eq, beq_eq_false_iff_ne, bne_eq_false_iff_eq, ne_eq, Int.not_lt, Int.not_le, Decidable.not_not] at hq)) <;> (try (have hr := hg; simp only [decide_eq_true_eq, decide_eq_false_iff_not] at hr)) <;> (try (exfalso; omega))) | ((first | refine aw_hide fun K hK => aw_region ?_ | refine ago_if (by omega) ?_ | skip); simp (config := {maxSteps := 10000000}) (disch := first | exact okYes (by kernel_rfl) | omega) only [List.length, Nat.zero_add, Nat.reduceAdd, Nat.reduceMul, dI, ARun_none, AOpRun, aexec, FSt.ev, St.F, eget_c, Nat.reduceBEq, ↓eget_h, cond_false, AGo_ok, St.app, putO, eput_c, eput_n, hups, List.map, isSh, Bool.false_eq_true, ↓reduceIte, Option.map, abin, ARun_nil, dropE_c, inL_c, inL_n, beq_self_eq_true, cond_true, dropE_n, hr, decide_false, fits]) | (subst hK; with_reducible repeat' (first | refine thenQ_n ?_ | refine blockQ_n ?_ | refine thenQ_e ?_ | refine blockQ_t ?_ | refine blockQ_f (by decide) ?_))))
    refine ⟨i + 1, by omega, by omega, ?_⟩
    rw [← hse]
    refine wk_to [] [(0, 0), (200, 200)] (by kernel_rfl) (by kernel_rfl) (by kernel_rfl) (by kernel_rfl) (by kernel_rfl) ?_ ?_ <;> repeat' (first | exact trivial | exact vr_val _ | exact vr_list _ | exact vr_vec _ _ _ _ rfl | exact vr_ptr _ _ _ rfl | refine And.intro ⟨_, rfl, .inl ⟨_, rfl, by decide, ?_⟩⟩ ?_ | apply And.intro | exact vrl_flat _ (by first | exact icells_in _ | exact rcells_in _ | exact scells_in _ | exact bcells_in _ | assumption))
    all_goals exact vrl_flat _ (icells_in _)
  have cv := gvalue_ac s m n i k h (by omega) hk2 hn
  have a0 := avS_bd h hk2 hn i (by omega)
  have a1 := avS_bd h hk2 hn (i + 1) (by omega)
  have ha1 : avS s m n (i + 1) k = avS s m n i k + avV s m n i k := rfl
  have gs := ic_gd (sumL s m n i k) k (by rw [sumL_len]; exact hk2)
  rw [sumL_get s m n i k hk2] at gs
  have hset := sumL_set s m n i k hk2
  rw [← ha1] at hset
  have e45 : IntKind.i64.wrap (avS s m n i k + avV s m n i k) = avS s m n (i + 1) k := by rw [ha1]; exact wrap_in (by omega) (by omega)
  have kn : (k : Int) < (n : Int) := by omega
  have k1n : k + 1 ≤ n := by omega
  have hlen := sumL_len s m n i k
  have hcl : (icells (sumL s m n i k)).length = n := by rw [icells_len]; exact hlen
  have hst1 := ic_t (sumL s m n i k) k (avS s m n (i + 1) k) (by omega)
  rw [hset] at hst1
  have hcin := icells_in (sumL s m n i (k + 1))
  generalize avS s m n i k = S0 at *
  generalize avS s m n (i + 1) k = S1 at *
  generalize avV s m n i k = V at *
  generalize sumL s m n i k = L at *
  generalize hg1 : sumL s m n i (k + 1) = L1 at *
  (have hg : (987654321 : Nat) - 987654321 = 0 := rfl; have hr := hg; repeat' (first | refine aw_seq ?_ | (refine aw_skip ?_; with_reducible repeat' (first | refine thenQ_n ?_ | refine blockQ_n ?_ | refine thenQ_e ?_ | refine blockQ_t ?_ | refine blockQ_f (by decide) ?_)) | (refine aw_exit ?_; with_reducible repeat' (first | refine thenQ_n ?_ | refine blockQ_n ?_ | refine thenQ_e ?_ | refine blockQ_t ?_ | refine blockQ_f (by decide) ?_)) | refine aw_ret ?_ | refine aw_block ?_ | refine aw_condT rfl ?_ | refine aw_condF rfl ?_ | ((first | refine aw_hide fun K hK => aw_region ?_ | refine acall0 (cv) ?_ | refine ago_if (by omega) ?_ | skip); simp (config := {maxSteps := 10000000}) (disch := first | exact okYes (by kernel_rfl) | omega) only [List.length, Nat.zero_add, Nat.reduceAdd, Nat.reduceMul, dI, ARun_none, AOpRun, aexec, FSt.ev, St.F, eget_c, Nat.reduceBEq, ↓eget_h, cond_false, AGo_ok, St.app, putO, eput_c, eput_n, hups, List.map, isSh, Bool.false_eq_true, ↓reduceIte, Option.map, abin, kn, decide_true, ARun_nil, dropE_c, inL_c, inL_n, beq_self_eq_true, cond_true, dropE_n, Int.natCast_nonneg, and_self, Int.toNat_natCast, Nat.mul_one, run1, hget_c, ↓hget_h, Nat.add_zero, gs, hget_n, Nat.reduceLeDiff, List.drop, List.take, e45, D.isBot, D.cells, hcl, k1n, List.all, D.leaf, Bool.and_true, splice, hst1, hput_c, hput_n, fits]) | (subst hK; with_reducible repeat' (first | refine thenQ_n ?_ | refine blockQ_n ?_ | refine thenQ_e ?_ | refine blockQ_t ?_ | refine blockQ_f (by decide) ?_))))
  refine ⟨k + 1, by omega, by omega, ?_⟩
  rw [hg1]
  refine wk_to [] [(0, 0), (200, 200)] (by kernel_rfl) (by kernel_rfl) (by kernel_rfl) (by kernel_rfl) (by kernel_rfl) ?_ ?_ <;> repeat' (first | exact trivial | exact vr_val _ | exact vr_list _ | exact vr_vec _ _ _ _ rfl | exact vr_ptr _ _ _ rfl | refine And.intro ⟨_, rfl, .inl ⟨_, rfl, by decide, ?_⟩⟩ ?_ | apply And.intro | exact vrl_flat _ (by first | exact icells_in _ | exact rcells_in _ | exact scells_in _ | exact bcells_in _ | assumption))
  all_goals exact vrl_flat _ hcin
set_option maxRecDepth 100000 in
set_option maxHeartbeats 4000000 in
theorem gavg_ac (s m : List Int) (n : Int) (hs : s.length ≤ 1000000) (hm : m.length ≤ 1000000) : AC Try.prog 57 [.agg [.list (ints s), .list (ints m)], dI n] [] [] (.tup [.list (ints (avL s m n)), dI (avD s m n), dI (avE s m n)]) := by
  by_cases h : avE s m n = 0
  · obtain ⟨h0, h1, h2⟩ := avE_ok h
    have h3 := wI_t h2
    obtain ⟨k, rfl⟩ : ∃ k : Nat, n = k := ⟨n.toNat, by omega⟩
    have := gavg_ok s m k h1 h0 (by omega) (by omega)
    have e1 : avL s m k = sumL s m k (m.length - 1) 0 := by unfold avL; rw [if_pos h, Int.toNat_natCast]
    have e2 : avD s m k = (k : Int) * ((m.length : Int) - 1) := if_pos h
    rw [e1, e2, h]
    exact this
  rw [avL_no h, avD_no h]
  refine kref08_Average.ac (n0 := 0) (by simp) ⟨in_vib _ _ _, .val _, trivial⟩ trivial rfl ?_
  unfold cref08_Average
  have c1 := gcheck_ac s m hs hm
  by_cases h0 : vibE s m = 0
  · have e : avE s m n = if wI n 1 24 = true then 0 else 1 := if_pos h0
    have c2 := gwithin_ac n 1 24
    cases hw : wI n 1 24 with
    | true => exact absurd (by rw [e, hw]; rfl) h
    | false =>
      rw [hw] at c2 e
      rw [h0] at c1
      rw [e, if_neg (by simp)]
      (have hg : (987654321 : Nat) - 987654321 = 0 := rfl; have hr := hg; repeat' (first | refine aw_seq ?_ | (refine aw_skip ?_; with_reducible repeat' (first | refine thenQ_n ?_ | refine blockQ_n ?_ | refine thenQ_e ?_ | refine blockQ_t ?_ | refine blockQ_f (by decide) ?_)) | (refine aw_exit ?_; with_reducible repeat' (first | refine thenQ_n ?_ | refine blockQ_n ?_ | refine thenQ_e ?_ | refine blockQ_t ?_ | refine blockQ_f (by decide) ?_)) | refine aw_ret ?_ | refine aw_block ?_ | refine aw_condT rfl ?_ | refine aw_condF rfl ?_ | ((first | refine aw_hide fun K hK => aw_region ?_ | refine acall0 (c1) ?_ | refine acall0 (c2) ?_ | refine ago_if (by omega) ?_ | skip); simp (config := {maxSteps := 10000000}) (disch := first | exact okYes (by kernel_rfl) | omega) only [List.length, Nat.zero_add, Nat.reduceAdd, Nat.reduceMul, envOf, dI, ARun_none, AOpRun, aexec, D.isBot, FSt.ev, St.F, ↓eget_h, Bool.false_eq_true, Option.isSome, hget_n, or_self, ↓reduceIte, D.cells, AGo_ok, St.app, putO, eput_c, Nat.reduceBEq, eput_n, cond_false, hups, hput_n, List.map, ARun_nil, dropE_c, inL_n, dropE_n, eget_c, hget_c, beq_self_eq_true, cond_true, Nat.reduceLeDiff, List.drop, List.take, inL_c, isSh, Option.map, abin, bne_self_eq_false, dB, Bool.not_false, thenQ]) | (subst hK; with_reducible repeat' (first | refine thenQ_n ?_ | refine blockQ_n ?_ | refine thenQ_e ?_ | refine blockQ_t ?_ | refine blockQ_f (by decide) ?_))))
      all_goals (refine end_to [] [] (by first | exact .inl rfl | exact .inr rfl) rfl (by kernel_rfl) (by kernel_rfl) (by kernel_rfl) ?_ ?_ <;> repeat' (first | exact trivial | exact vr_val _ | exact vr_nil | apply vr_tup | apply And.intro))
  · have e : avE s m n = vibE s m := if_neg h0
    rw [e]
    have q : (vibE s m != 0) = true := by simpa using h0
    generalize vibE s m = E at *
    (have hg : (987654321 : Nat) - 987654321 = 0 := rfl; have hr := hg; repeat' (first | refine aw_seq ?_ | (refine aw_skip ?_; with_reducible repeat' (first | refine thenQ_n ?_ | refine blockQ_n ?_ | refine thenQ_e ?_ | refine blockQ_t ?_ | refine blockQ_f (by decide) ?_)) | (refine aw_exit ?_; with_reducible repeat' (first | refine thenQ_n ?_ | refine blockQ_n ?_ | refine thenQ_e ?_ | refine blockQ_t ?_ | refine blockQ_f (by decide) ?_)) | refine aw_ret ?_ | refine aw_block ?_ | refine aw_condT rfl ?_ | refine aw_condF rfl ?_ | ((first | refine aw_hide fun K hK => aw_region ?_ | refine acall0 (c1) ?_ | refine ago_if (by omega) ?_ | skip); simp (config := {maxSteps := 10000000}) (disch := first | exact okYes (by kernel_rfl) | omega) only [List.length, Nat.zero_add, Nat.reduceAdd, Nat.reduceMul, envOf, dI, ARun_none, AOpRun, aexec, D.isBot, FSt.ev, St.F, ↓eget_h, Bool.false_eq_true, Option.isSome, hget_n, or_self, ↓reduceIte, D.cells, AGo_ok, St.app, putO, eput_c, Nat.reduceBEq, eput_n, cond_false, hups, hput_n, List.map, ARun_nil, dropE_c, inL_n, dropE_n, eget_c, hget_c, beq_self_eq_true, cond_true, Nat.reduceLeDiff, List.drop, List.take, inL_c, isSh, Option.map, abin, q, thenQ]) | (subst hK; with_reducible repeat' (first | refine thenQ_n ?_ | refine blockQ_n ?_ | refine thenQ_e ?_ | refine blockQ_t ?_ | refine blockQ_f (by decide) ?_))))
    all_goals (refine end_to [] [] (by first | exact .inl rfl | exact .inr rfl) rfl (by kernel_rfl) (by kernel_rfl) (by kernel_rfl) ?_ ?_ <;> repeat' (first | exact trivial | exact vr_val _ | exact vr_nil | apply vr_tup | apply And.intro))
end Go.Proofs.Ytgibbaadjbohdaa
/- The functions' bodies, translated. Written by a program; no conditions. -/
namespace Go.Proofs.Ytgibbaadjbohdaa
open Go.RowKit Lift

/-- record_Shake -/
def crecord_Shake_B38 : ACode :=
  (.block 1
    (.region false [⟨some 40, .load1 (.tmp 14), none, []⟩,
      ⟨some 41, .mv (.tmp 15), none, []⟩,
      ⟨some 42, .mv (.tmp 16), none, []⟩,
      ⟨some 43, .bin .neq (.tmp 42) (.const (.int .i64 0)), none, []⟩,
      ⟨some 44, .iadS 1 (.tmp 40) (.tmp 41), none, []⟩,
      ⟨none, .store 1 (.tmp 44) (.tmp 43), none, []⟩] [40, 41, 42, 43, 44]))
def crecord_Shake_B48 : ACode :=
  (.block 3
    (.seq
     (.seq
      (.region false [⟨some 50, .load1 (.tmp 14), none, []⟩,
        ⟨some 51, .mv (.tmp 18), none, []⟩,
        ⟨some 52, .iadS 1 (.tmp 50) (.tmp 51), none, []⟩,
        ⟨some 53, .load1 (.tmp 52), none, []⟩] [50, 51, 52])
     (.cond (.tmp 53)
       (.region false [⟨some 54, .fad 1 (.tmp 17), none, []⟩,
         ⟨some 55, .load1 (.tmp 54), none, []⟩,
         ⟨some 56, .fad 0 (.tmp 17), none, []⟩,
         ⟨some 57, .load1 (.tmp 56), none, []⟩,
         ⟨some 58, .len_ (.tmp 57), none, []⟩,
         ⟨some 59, .buildSl 1 1 [(.val (.int .i64 0))] [(0, 1, (.tmp 58))], none, []⟩,
         ⟨some 60, .app 1 8 (.tmp 55) (.tmp 59), none, []⟩,
         ⟨some 61, .fad 1 (.tmp 17), none, []⟩,
         ⟨none, .store 1 (.tmp 61) (.tmp 60), none, []⟩] [54, 55, 56, 57, 58, 59, 60, 61])
       .skip))
    (.region false [⟨some 62, .fad 0 (.tmp 17), none, []⟩,
      ⟨some 63, .load1 (.tmp 62), none, []⟩,
      ⟨some 64, .mv (.tmp 19), none, []⟩,
      ⟨some 65, .buildSl 1 1 [(.val (.int .i64 0))] [(0, 1, (.tmp 64))], none, []⟩,
      ⟨some 66, .app 1 8 (.tmp 63) (.tmp 65), none, []⟩,
      ⟨some 67, .fad 0 (.tmp 17), none, []⟩,
      ⟨none, .store 1 (.tmp 67) (.tmp 66), none, []⟩] [62, 63, 64, 65, 66, 67])))
def crecord_Shake : ACode :=
  (.seq
   (.region false [⟨some 5, .box (.tmp 0), none, []⟩,
     ⟨some 10, .mv (.const (.slice none 0 0)), none, []⟩,
     ⟨some 11, .mv (.const (.int .i64 0)), none, []⟩,
     ⟨some 12, .mv (.const (.int .i64 0)), none, []⟩] [])
  (.seq
   (.region false [⟨some 21, .loadN 6 (.tmp 5), none, []⟩,
     ⟨some 22, .mv (.tmp 1), none, []⟩,
     ⟨some 23, .mv (.tmp 2), none, []⟩,
     ⟨some 24, .mv (.tmp 3), none, []⟩,
     ⟨some 25, .buildSl 1 2 [(.val (.int .i64 0)), (.val (.int .i64 0))] [(0, 1, (.tmp 23)), (1, 1, (.tmp 24))], none, []⟩,
     ⟨some 26, .call (.func 54) [(.tmp 21), (.tmp 22), (.tmp 25)], none, []⟩,
     ⟨some 20, .mv (.tmp 26), none, []⟩,
     ⟨some 27, .ext (.tmp 20) 0, none, []⟩,
     ⟨some 28, .ext (.tmp 20) 1, none, []⟩,
     ⟨some 13, .mv (.tmp 27), none, []⟩,
     ⟨some 12, .mv (.tmp 28), none, []⟩] [21, 22, 23, 24, 25, 26, 20, 27, 28])
  (.seq
   (.seq
    (.region false [⟨some 29, .mv (.tmp 12), none, []⟩,
      ⟨some 30, .bin .neq (.tmp 29) (.const (.int .i64 0)), none, []⟩] [29])
   (.cond (.tmp 30)
     (.seq
      (.region false [⟨some 31, .mv (.tmp 12), none, []⟩,
        ⟨some 10, .mv (.const (.slice none 0 0)), none, []⟩,
        ⟨some 11, .mv (.const (.int .i64 0)), none, []⟩,
        ⟨some 12, .mv (.tmp 31), none, []⟩] [31])
     .ret)
     .skip))
  (.seq
   (.region false [⟨some 32, .mv (.tmp 1), none, []⟩,
     ⟨some 33, .len_ (.tmp 32), none, []⟩,
     ⟨some 34, .mksl 1 1 [(.val (.bool false))] (.tmp 33) (.tmp 33), none, []⟩,
     ⟨some 14, .mem [(.val (.slice none 0 0))], none, []⟩,
     ⟨none, .store 1 (.tmp 14) (.tmp 34), none, []⟩] [32, 33, 34])
  (.seq
   (.seq
    (.region false [⟨some 35, .mv (.tmp 13), none, []⟩,
      ⟨some 36, .mv (.tmp 3), none, []⟩,
      ⟨some 37, .call (.func 55) [(.tmp 35), (.tmp 36)], none, []⟩] [35, 36])
   (.block 0
     (.rangeFunc (.tmp 37) [38, 39] [(15, 38), (16, 39)] crecord_Shake_B38)))
  (.seq
   (.region false [⟨some 17, .mem [(.val (.slice none 0 0)), (.val (.slice none 0 0))], none, []⟩] [])
  (.seq
   (.seq
    (.region false [⟨some 45, .mv (.tmp 13), none, []⟩,
      ⟨some 46, .mv (.tmp 2), none, []⟩,
      ⟨some 47, .call (.func 55) [(.tmp 45), (.tmp 46)], none, []⟩] [45, 46])
   (.block 2
     (.rangeFunc (.tmp 47) [48, 49] [(18, 48), (19, 49)] crecord_Shake_B48)))
  (.seq
   (.region false [⟨some 68, .loadN 2 (.tmp 17), none, []⟩,
     ⟨some 69, .mv (.tmp 4), none, []⟩,
     ⟨some 70, .call (.func 28) [(.tmp 68), (.tmp 69)], none, []⟩,
     ⟨some 71, .ext (.tmp 70) 0, none, []⟩,
     ⟨some 72, .ext (.tmp 70) 1, none, []⟩,
     ⟨some 73, .ext (.tmp 70) 2, none, []⟩,
     ⟨some 10, .mv (.tmp 71), none, []⟩,
     ⟨some 11, .mv (.tmp 72), none, []⟩,
     ⟨some 12, .mv (.tmp 73), none, []⟩] [68, 69, 70, 71, 72, 73])
  .ret))))))))
set_option maxRecDepth 100000 in
theorem krecord_Shake : IsCode Try.prog 24 74 crecord_Shake [.tmp 10, .tmp 11, .tmp 12] :=
  ⟨Try.f24, _, [53, 48, 49, 47, 38, 39, 37, 30, 0, 5, 1, 2, 3, 12, 13, 14, 15, 16, 18, 17, 19, 4, 10, 11], Try.func24, rfl, by decide, rfl, by kernel_rfl, by kernel_rfl⟩
/-- ref12_Series -/
def cref12_Series : ACode :=
  (.seq
   (.region false [⟨some 2, .mv (.const (.slice none 0 0)), none, []⟩] [])
  (.seq
   (.region false [⟨some 3, .mv (.const (.slice none 0 0)), none, []⟩] [])
  (.seq
   (.seq
    (.region false [⟨some 4, .mv (.const (.int .i64 0)), none, []⟩] [])
   (.block 0
     (.loop
       (.seq
        (.seq
         (.region false [⟨some 5, .mv (.tmp 4), none, []⟩,
           ⟨some 6, .mv (.tmp 0), none, []⟩,
           ⟨some 7, .len_ (.tmp 6), none, []⟩,
           ⟨some 8, .bin .lss (.tmp 5) (.tmp 7), none, []⟩] [5, 6, 7])
        (.cond (.tmp 8)
          .skip
          (.exit 0)))
       (.seq
        (.block 1
          (.region false [⟨some 11, .mv (.tmp 3), none, []⟩,
            ⟨some 12, .mv (.tmp 0), none, []⟩,
            ⟨some 13, .mv (.tmp 4), none, []⟩,
            ⟨some 14, .iadS 2 (.tmp 12) (.tmp 13), none, []⟩,
            ⟨some 15, .iadA 2 1 (.tmp 14) (.const (.int .i64 1)), none, []⟩,
            ⟨some 16, .load1 (.tmp 15), none, []⟩,
            ⟨some 17, .buildSl 1 1 [(.val (.int .i64 0))] [(0, 1, (.tmp 16))], none, []⟩,
            ⟨some 18, .app 1 8 (.tmp 11) (.tmp 17), none, []⟩,
            ⟨some 3, .mv (.tmp 18), none, []⟩] [11, 12, 13, 14, 15, 16, 17, 18]))
       (.region false [⟨some 9, .mv (.tmp 4), none, []⟩,
         ⟨some 10, .bin .add (.tmp 9) (.const (.int .i64 1)), none, []⟩,
         ⟨some 4, .mv (.tmp 10), none, []⟩] [9, 10]))))))
  (.seq
   (.region false [⟨some 19, .mv (.tmp 3), none, []⟩,
     ⟨some 2, .mv (.tmp 19), none, []⟩] [19])
  .ret))))
set_option maxRecDepth 100000 in
theorem kref12_Series : IsCode Try.prog 63 20 cref12_Series [.tmp 2] :=
  ⟨Try.f63, _, [8, 4, 0, 3, 2], Try.func63, rfl, by decide, rfl, by kernel_rfl, by kernel_rfl⟩
/-- ref12_Shaken -/
def cref12_Shaken : ACode :=
  (.seq
   (.region false [⟨some 4, .box (.tmp 0), none, []⟩,
     ⟨some 8, .mem [(.val (.slice none 0 0)), (.val (.slice none 0 0))], none, []⟩] [])
  (.seq
   (.region true [⟨some 14, .loadN 6 (.tmp 4), none, []⟩,
     ⟨some 15, .mv (.tmp 1), none, []⟩,
     ⟨some 16, .mv (.tmp 2), none, []⟩,
     ⟨some 17, .call (.func 62) [(.tmp 14), (.tmp 15), (.tmp 16)], none, [0, 1, 2]⟩,
     ⟨some 18, .loadN 6 (.tmp 4), none, []⟩,
     ⟨some 19, .mv (.tmp 1), none, []⟩,
     ⟨some 20, .mv (.tmp 3), none, []⟩,
     ⟨some 21, .call (.func 62) [(.tmp 18), (.tmp 19), (.tmp 20)], none, [4, 5, 6, 3, 0, 1, 2]⟩,
     ⟨some 9, .mv (.tmp 17), none, [3, 0, 1, 2, 7, 4, 5, 6]⟩,
     ⟨some 10, .mv (.tmp 21), none, [7, 4, 5, 6, 3, 0, 1, 2, 8]⟩] [14, 15, 16, 17, 18, 19, 20, 21])
  (.seq
   (.region false [⟨some 22, .mv (.tmp 9), none, []⟩,
     ⟨some 23, .call (.func 63) [(.tmp 22)], none, []⟩,
     ⟨some 24, .build [(.val (.slice none 0 0)), (.val (.slice none 0 0))] [(0, 1, (.tmp 23))], none, []⟩,
     ⟨some 11, .mem [(.val (.slice none 0 0)), (.val (.slice none 0 0))], none, []⟩,
     ⟨none, .store 2 (.tmp 11) (.tmp 24), none, []⟩] [22, 23, 24])
  (.seq
   (.seq
    (.region false [⟨some 12, .mv (.const (.int .i64 0)), none, []⟩] [])
   (.block 0
     (.loop
       (.seq
        (.seq
         (.region false [⟨some 25, .mv (.tmp 12), none, []⟩,
           ⟨some 26, .mv (.tmp 9), none, []⟩,
           ⟨some 27, .len_ (.tmp 26), none, []⟩,
           ⟨some 28, .bin .lss (.tmp 25) (.tmp 27), none, []⟩] [25, 26, 27])
        (.cond (.tmp 28)
          .skip
          (.exit 0)))
       (.seq
        (.block 1
          (.seq
           (.region false [⟨some 13, .mv (.const (.int .i64 0)), none, []⟩] [])
          (.block 2
            (.loop
              (.seq
               (.seq
                (.region false [⟨some 31, .mv (.tmp 13), none, []⟩,
                  ⟨some 32, .mv (.tmp 10), none, []⟩,
                  ⟨some 33, .len_ (.tmp 32), none, []⟩,
                  ⟨some 34, .bin .lss (.tmp 31) (.tmp 33), none, []⟩] [31, 32, 33])
               (.cond (.tmp 34)
                 .skip
                 (.exit 2)))
              (.seq
               (.block 3
                 (.seq
                  (.region true [⟨some 37, .mv (.tmp 10), none, []⟩,
                    ⟨some 38, .mv (.tmp 13), none, []⟩,
                    ⟨some 39, .iadS 2 (.tmp 37) (.tmp 38), none, [0, 1]⟩,
                    ⟨some 40, .iadA 2 1 (.tmp 39) (.const (.int .i64 0)), none, [2, 0, 1]⟩,
                    ⟨some 41, .load1 (.tmp 40), none, [3, 2, 0, 1]⟩,
                    ⟨some 42, .mv (.tmp 9), none, []⟩,
                    ⟨some 43, .mv (.tmp 12), none, []⟩,
                    ⟨some 44, .iadS 2 (.tmp 42) (.tmp 43), none, [5, 6]⟩,
                    ⟨some 45, .iadA 2 1 (.tmp 44) (.const (.int .i64 0)), none, [7, 5, 6]⟩,
                    ⟨some 46, .load1 (.tmp 45), none, [8, 7, 5, 6]⟩,
                    ⟨some 47, .bin .eql (.tmp 41) (.tmp 46), none, [4, 3, 2, 0, 1, 9, 8, 7, 5, 6]⟩,
                    ⟨some 48, .mv (.tmp 47), none, [10, 4, 3, 2, 0, 1, 9, 8, 7, 5, 6]⟩,
                    ⟨some 49, .mv (.tmp 10), (some (some 48, true)), [11, 10, 4, 3, 2, 0, 1, 9, 8, 7, 5, 6]⟩,
                    ⟨some 50, .mv (.tmp 13), (some (some 48, true)), [11, 10, 4, 3, 2, 0, 1, 9, 8, 7, 5, 6]⟩,
                    ⟨some 51, .iadS 2 (.tmp 49) (.tmp 50), (some (some 48, true)), [12, 11, 10, 4, 3, 2, 0, 1, 9, 8, 7, 5, 6, 13]⟩,
                    ⟨some 52, .iadA 2 1 (.tmp 51) (.const (.int .i64 1)), (some (some 48, true)), [14, 12, 11, 10, 4, 3, 2, 0, 1, 9, 8, 7, 5, 6, 13]⟩,
                    ⟨some 53, .load1 (.tmp 52), (some (some 48, true)), [15, 14, 12, 11, 10, 4, 3, 2, 0, 1, 9, 8, 7, 5, 6, 13]⟩,
                    ⟨some 54, .bin .neq (.tmp 53) (.const (.int .i64 0)), (some (some 48, true)), [16, 15, 14, 12, 11, 10, 4, 3, 2, 0, 1, 9, 8, 7, 5, 6, 13]⟩,
                    ⟨some 55, .pick (.tmp 48) (.tmp 54) (.const (.bool false)), none, [11, 10, 4, 3, 2, 0, 1, 9, 8, 7, 5, 6, 17, 16, 15, 14, 12, 13]⟩] [37, 38, 39, 40, 41, 42, 43, 44, 45, 46, 47, 48, 49, 50, 51, 52, 53, 54])
                 (.cond (.tmp 55)
                   (.region false [⟨some 56, .fad 1 (.tmp 11), none, []⟩,
                     ⟨some 57, .load1 (.tmp 56), none, []⟩,
                     ⟨some 58, .mv (.tmp 12), none, []⟩,
                     ⟨some 59, .buildSl 1 1 [(.val (.int .i64 0))] [(0, 1, (.tmp 58))], none, []⟩,
                     ⟨some 60, .app 1 8 (.tmp 57) (.tmp 59), none, []⟩,
                     ⟨some 61, .fad 1 (.tmp 11), none, []⟩,
                     ⟨none, .store 1 (.tmp 61) (.tmp 60), none, []⟩] [56, 57, 58, 59, 60, 61])
                   .skip)))
              (.region false [⟨some 35, .mv (.tmp 13), none, []⟩,
                ⟨some 36, .bin .add (.tmp 35) (.const (.int .i64 1)), none, []⟩,
                ⟨some 13, .mv (.tmp 36), none, []⟩] [35, 36])))))))
       (.region false [⟨some 29, .mv (.tmp 12), none, []⟩,
         ⟨some 30, .bin .add (.tmp 29) (.const (.int .i64 1)), none, []⟩,
         ⟨some 12, .mv (.tmp 30), none, []⟩] [29, 30]))))))
  (.seq
   (.region false [⟨some 62, .loadN 2 (.tmp 11), none, []⟩,
     ⟨none, .store 2 (.tmp 8) (.tmp 62), none, []⟩] [62])
  .ret)))))
set_option maxRecDepth 100000 in
theorem kref12_Shaken : IsCode Try.prog 29 63 cref12_Shaken [.cellN 8 2] :=
  ⟨Try.f29, _, [55, 34, 28, 0, 4, 1, 2, 3, 9, 12, 13, 10, 11, 8], Try.func29, rfl, by decide, rfl, by kernel_rfl, by kernel_rfl⟩
/-- ref12_Shake -/
def cref12_Shake : ACode :=
  (.seq
   (.region false [⟨some 5, .box (.tmp 0), none, []⟩,
     ⟨some 10, .mv (.const (.slice none 0 0)), none, []⟩,
     ⟨some 11, .mv (.const (.int .i64 0)), none, []⟩,
     ⟨some 12, .mv (.const (.int .i64 0)), none, []⟩] [])
  (.seq
   (.region false [⟨some 14, .loadN 6 (.tmp 5), none, []⟩,
     ⟨some 15, .mv (.tmp 1), none, []⟩,
     ⟨some 16, .call (.func 23) [(.tmp 14), (.tmp 15)], none, []⟩,
     ⟨some 13, .mv (.tmp 16), none, []⟩] [14, 15, 16])
  (.seq
   (.seq
    (.region false [⟨some 17, .mv (.tmp 13), none, []⟩,
      ⟨some 18, .bin .neq (.tmp 17) (.const (.int .i64 0)), none, []⟩] [17])
   (.cond (.tmp 18)
     (.seq
      (.region false [⟨some 19, .mv (.tmp 13), none, []⟩,
        ⟨some 10, .mv (.const (.slice none 0 0)), none, []⟩,
        ⟨some 11, .mv (.const (.int .i64 0)), none, []⟩,
        ⟨some 12, .mv (.tmp 19), none, []⟩] [19])
     .ret)
     .skip))
  (.seq
   (.seq
    (.region false [⟨some 20, .loadN 6 (.tmp 5), none, []⟩,
      ⟨some 21, .mv (.tmp 2), none, []⟩,
      ⟨some 22, .call (.func 56) [(.tmp 20), (.tmp 21)], none, []⟩,
      ⟨some 23, .un .not (.tmp 22), none, []⟩,
      ⟨some 24, .mv (.tmp 23), none, []⟩,
      ⟨some 25, .loadN 6 (.tmp 5), (some (some 24, false)), []⟩,
      ⟨some 26, .mv (.tmp 3), (some (some 24, false)), []⟩,
      ⟨some 27, .call (.func 56) [(.tmp 25), (.tmp 26)], (some (some 24, false)), []⟩,
      ⟨some 28, .un .not (.tmp 27), (some (some 24, false)), []⟩,
      ⟨some 29, .pick (.tmp 24) (.const (.bool true)) (.tmp 28), none, []⟩] [20, 21, 22, 23, 24, 25, 26, 27, 28])
   (.cond (.tmp 29)
     (.seq
      (.region false [⟨some 10, .mv (.const (.slice none 0 0)), none, []⟩,
        ⟨some 11, .mv (.const (.int .i64 0)), none, []⟩,
        ⟨some 12, .mv (.const (.int .i64 1)), none, []⟩] [])
     .ret)
     .skip))
  (.seq
   (.region false [⟨some 30, .loadN 6 (.tmp 5), none, []⟩,
     ⟨some 31, .mv (.tmp 1), none, []⟩,
     ⟨some 32, .mv (.tmp 2), none, []⟩,
     ⟨some 33, .mv (.tmp 3), none, []⟩,
     ⟨some 34, .call (.func 29) [(.tmp 30), (.tmp 31), (.tmp 32), (.tmp 33)], none, []⟩,
     ⟨some 35, .mv (.tmp 4), none, []⟩,
     ⟨some 36, .call (.func 57) [(.tmp 34), (.tmp 35)], none, []⟩,
     ⟨some 37, .ext (.tmp 36) 0, none, []⟩,
     ⟨some 38, .ext (.tmp 36) 1, none, []⟩,
     ⟨some 39, .ext (.tmp 36) 2, none, []⟩,
     ⟨some 10, .mv (.tmp 37), none, []⟩,
     ⟨some 11, .mv (.tmp 38), none, []⟩,
     ⟨some 12, .mv (.tmp 39), none, []⟩] [30, 31, 32, 33, 34, 35, 36, 37, 38, 39])
  .ret)))))
set_option maxRecDepth 100000 in
theorem kref12_Shake : IsCode Try.prog 26 40 cref12_Shake [.tmp 10, .tmp 11, .tmp 12] :=
  ⟨Try.f26, _, [29, 18, 0, 5, 1, 13, 2, 3, 4, 10, 11, 12], Try.func26, rfl, by decide, rfl, by kernel_rfl, by kernel_rfl⟩
end Go.Proofs.Ytgibbaadjbohdaa
