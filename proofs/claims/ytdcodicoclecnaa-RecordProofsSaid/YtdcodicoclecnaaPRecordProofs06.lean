/- Texts of the law RecordProofs, part 6. No conditions. -/
import Derived.Test.YtdcodicoclecnaaPRecordProofs05
/- The document's check of a case and a claim. No conditions. -/
set_option linter.unusedSimpArgs false
set_option linter.unusedVariables false
namespace Go.Proofs.Ytdcodicoclecnaa
open Go Go.RowKit Lift

set_option maxRecDepth 100000 in
set_option maxHeartbeats 1000000 in
theorem nfrom1_ac (n a b : Int) : AC Try.prog 150 [dI n, dI a, dI b] [] [] (dB (wI n a b)) := by
  refine kref01_From.ac (n0 := 0) (by simp) ⟨.val _, .val _, .val _, trivial⟩ trivial rfl ?_
  unfold cref01_From wI
  cases q1 : decide (a ≤ n) <;> cases q2 : decide (n ≤ b)
  all_goals
    (have hg : (987654321 : Nat) - 987654321 = 0 := rfl; have hr := hg; repeat' (first | refine aw_seq ?_ | (refine aw_skip ?_; try simp only [thenQ, blockQ, if_true, if_false, Nat.reduceEqDiff, reduceCtorEq]) | (refine aw_exit ?_; try simp only [thenQ, blockQ, if_true, if_false, Nat.reduceEqDiff, reduceCtorEq]) | refine aw_ret ?_ | refine aw_block ?_ | refine aw_condT rfl ?_ | refine aw_condF rfl ?_ | ((first | refine aw_region ?_ | refine ago_if (by omega) ?_ | skip); simp (config := {maxSteps := 10000000}) (disch := first | exact okYes (by kernel_rfl) | omega) only [thenQ, List.map, dB, Bool.and_false, List.length, Nat.zero_add, Nat.reduceMul, envOf, dI, Nat.reduceAdd, ARun_none, AOpRun, aexec, FSt.ev, AGo_ok, St.app, putO, eput_c, Nat.reduceBEq, eput_n, cond_false, hups, ARun_nil, dropE_c, inL_n, dropE_n, St.F, ↓eget_h, eget_c, isSh, Bool.false_eq_true, ↓reduceIte, Option.map, abin, ge_iff_le, q1, ARun_some, AG_ft, beq_self_eq_true, cond_true, inL_c, Bool.and_true, AG_tt, q2])))
    all_goals (refine end_to [] [] (by first | exact .inl rfl | exact .inr rfl) rfl (by kernel_rfl) (by kernel_rfl) (by kernel_rfl) ?_ ?_ <;> repeat' (first | exact trivial | exact vr_val _))
theorem nspVB_two (x : Int × Int) : spVB x = (wI x.1 (-1000000) 1000000 && wI x.2 x.1 1000000) := by
  unfold spVB wI
  rw [Bool.eq_iff_iff]
  simp only [Bool.and_eq_true, decide_eq_true_eq]
  omega
set_option maxRecDepth 100000 in
set_option maxHeartbeats 1000000 in
theorem nvalid1_ac (x : Int × Int) : AC Try.prog 123 [.agg [dI x.1, dI x.2]] [] [] (dB (spVB x)) := by
  refine kref01_Valid.ac (n0 := 0) (by simp) ⟨in_sp _ _ _, trivial⟩ trivial rfl ?_
  unfold cref01_Valid
  rw [nspVB_two]
  have c1 := nfrom1_ac x.1 (-1000000) 1000000
  have c2 := nfrom1_ac x.2 x.1 1000000
  cases q1 : wI x.1 (-1000000) 1000000
  all_goals
    rw [q1] at c1
    generalize wI x.2 x.1 1000000 = b at *
    (have hg : (987654321 : Nat) - 987654321 = 0 := rfl; have hr := hg; repeat' (first | refine aw_seq ?_ | (refine aw_skip ?_; repeat' (first | with_reducible refine thenQ_n ?_ | with_reducible refine blockQ_n ?_ | with_reducible refine thenQ_e ?_ | with_reducible refine blockQ_t ?_ | with_reducible refine blockQ_f (by decide) ?_)) | (refine aw_exit ?_; repeat' (first | with_reducible refine thenQ_n ?_ | with_reducible refine blockQ_n ?_ | with_reducible refine thenQ_e ?_ | with_reducible refine blockQ_t ?_ | with_reducible refine blockQ_f (by decide) ?_)) | refine aw_ret ?_ | refine aw_block ?_ | refine aw_condT rfl ?_ | refine aw_condF rfl ?_ | ((first | refine aw_hide fun K hK => aw_region ?_ | refine acall0 (c1) ?_ | refine acall0 (c2) ?_ | refine ago_if (by omega) ?_ | skip); simp (config := {maxSteps := 10000000}) (disch := first | exact okYes (by kernel_rfl) | omega) only [List.length, Nat.zero_add, Nat.reduceAdd, Nat.reduceMul, envOf, dI, ARun_none, AOpRun, aexec, D.isBot, FSt.ev, St.F, ↓eget_h, Bool.false_eq_true, Option.isSome, hget_n, or_self, ↓reduceIte, D.cells, AGo_ok, St.app, putO, eput_c, Nat.reduceBEq, eput_n, cond_false, hups, hput_n, List.map, ARun_nil, dropE_c, inL_n, dropE_n, Int.reduceNeg, eget_c, Option.map, run1, hget_c, beq_self_eq_true, cond_true, List.getElem?_cons_zero, dB, ARun_some, AG_ft, inL_c, Bool.false_and, AG_tt, List.getElem?_cons_succ, Bool.true_and]) | (subst hK; repeat' (first | with_reducible refine thenQ_n ?_ | with_reducible refine blockQ_n ?_ | with_reducible refine thenQ_e ?_ | with_reducible refine blockQ_t ?_ | with_reducible refine blockQ_f (by decide) ?_))))
    all_goals (refine end_to [] [] (by first | exact .inl rfl | exact .inr rfl) rfl (by kernel_rfl) (by kernel_rfl) (by kernel_rfl) ?_ ?_ <;> repeat' (first | exact trivial | exact vr_val _))
set_option maxRecDepth 100000 in
set_option maxHeartbeats 2000000 in
theorem rising_ac (l : List Int) (b : Int) (hl : l.length ≤ 1000000) : AC Try.prog 122 [.list (ints l), dI b] [] [] (dB (decide (Asc l (b + 1)))) := by
  refine kref12_rising.ac (n0 := 0) (by simp) ⟨.list _, .val _, trivial⟩ trivial rfl ?_
  unfold cref12_rising
  (have hg : (987654321 : Nat) - 987654321 = 0 := rfl; have hr := hg; repeat' (first | refine aw_seq ?_ | (refine aw_skip ?_; repeat' (first | with_reducible refine thenQ_n ?_ | with_reducible refine blockQ_n ?_ | with_reducible refine thenQ_e ?_ | with_reducible refine blockQ_t ?_ | with_reducible refine blockQ_f (by decide) ?_)) | (refine aw_exit ?_; repeat' (first | with_reducible refine thenQ_n ?_ | with_reducible refine blockQ_n ?_ | with_reducible refine thenQ_e ?_ | with_reducible refine blockQ_t ?_ | with_reducible refine blockQ_f (by decide) ?_)) | refine aw_ret ?_ | refine aw_block ?_ | refine aw_condT rfl ?_ | refine aw_condF rfl ?_ | ((first | refine aw_hide fun K hK => aw_region ?_ | refine ago_if (by omega) ?_ | skip); simp (config := {maxSteps := 10000000}) (disch := first | exact okYes (by kernel_rfl) | omega) only [List.length, Nat.zero_add, Nat.reduceMul, envOf, dI, ARun_none, AOpRun, aexec, FSt.ev, AGo_ok, St.app, putO, eput_c, Nat.reduceBEq, eput_n, cond_false, hups, List.map, ARun_nil, dropE_c, inL_n, dropE_n, Nat.reduceAdd, dB]) | (subst hK; repeat' (first | with_reducible refine thenQ_n ?_ | with_reducible refine blockQ_n ?_ | with_reducible refine thenQ_e ?_ | with_reducible refine blockQ_t ?_ | with_reducible refine blockQ_f (by decide) ?_))))
  refine aw_loop (fun k : Nat => ⟨[(0, .list (ints l)), (1, dI b), (5, dI k)], [], 400⟩) (fun k => k ≤ l.length ∧ AscK l (b + 1) k) (fun k => l.length - k) ⟨0, ⟨by omega, fun i hi => by omega⟩, ?_⟩ ?_
  · unfold dI
    refine wk_to [] [] (by kernel_rfl) (by kernel_rfl) (by kernel_rfl) (by kernel_rfl) (by kernel_rfl) ?_ ?_ <;> repeat' (first | exact trivial | exact vr_val _ | exact vr_list _ | apply And.intro)
  rintro k ⟨hk, hp⟩
  by_cases hk2 : k < l.length
  case neg =>
    obtain rfl : k = l.length := by omega
    rw [decide_eq_true (show Asc l (b + 1) from hp)]
    (have hg : (987654321 : Nat) - 987654321 = 0 := rfl; have hr := hg; repeat' (first | refine aw_seq ?_ | (refine aw_skip ?_; repeat' (first | with_reducible refine thenQ_n ?_ | with_reducible refine blockQ_n ?_ | with_reducible refine thenQ_e ?_ | with_reducible refine blockQ_t ?_ | with_reducible refine blockQ_f (by decide) ?_)) | (refine aw_exit ?_; repeat' (first | with_reducible refine thenQ_n ?_ | with_reducible refine blockQ_n ?_ | with_reducible refine thenQ_e ?_ | with_reducible refine blockQ_t ?_ | with_reducible refine blockQ_f (by decide) ?_)) | refine aw_ret ?_ | refine aw_block ?_ | refine aw_condT rfl ?_ | refine aw_condF rfl ?_ | (refine aw_cond rfl (fun hg => ?_) (fun hg => ?_) <;> (try (have hq := hg; simp only [Bool.not_eq_true', Bool.not_eq_false', Bool.and_eq_true, Bool.and_eq_false_iff, Bool.or_eq_true, Bool.or_eq_false_iff, decide_eq_true_eq, decide_eq_false_iff_not, bne_iff_ne, beq_iff_eq, beq_eq_false_iff_ne, bne_eq_false_iff_eq, ne_eq, Int.not_lt, Int.not_le, Decidable.not_not] at hq)) <;> (try (have hr := hg; simp only [decide_eq_true_eq, decide_eq_false_iff_not] at hr)) <;> (try (exfalso; omega))) | ((first | refine aw_hide fun K hK => aw_region ?_ | refine ago_if (by omega) ?_ | skip); simp (config := {maxSteps := 10000000}) (disch := first | exact okYes (by kernel_rfl) | omega) only [List.length, Nat.zero_add, Nat.reduceAdd, Nat.reduceMul, dI, ARun_none, AOpRun, aexec, FSt.ev, St.F, eget_c, Nat.reduceBEq, ↓eget_h, cond_false, AGo_ok, St.app, putO, eput_c, eput_n, hups, List.map, ints_len, isSh, Bool.false_eq_true, ↓reduceIte, Option.map, abin, ARun_nil, dropE_c, inL_c, inL_n, beq_self_eq_true, cond_true, dropE_n, hr, decide_false]) | (subst hK; repeat' (first | with_reducible refine thenQ_n ?_ | with_reducible refine blockQ_n ?_ | with_reducible refine thenQ_e ?_ | with_reducible refine blockQ_t ?_ | with_reducible refine blockQ_f (by decide) ?_))))
    all_goals (refine end_to [] [] (by first | exact .inl rfl | exact .inr rfl) rfl (by kernel_rfl) (by kernel_rfl) (by kernel_rfl) ?_ ?_ <;> repeat' (first | exact trivial | exact vr_val _))
  have g1 := ints_gd l k hk2
  have ki : (k : Int) < (l.length : Int) := by omega
  have hno := asc_no hk2 hp
  have hyes := asc_yes hp
  have cf := from_ac (l[k]?.getD 0) 0 b
  have la := ints_all l
  by_cases h0 : k = 0
  · subst h0
    have el : lastA l 0 = -1 := rfl
    rw [el] at hno hyes
    generalize l[0]?.getD 0 = x at *
    cases q : wI x 0 b with
    | false =>
      rw [q] at cf
      rw [decide_eq_false (hno fun h => by have := wI_f q; omega)]
      (have hg : (987654321 : Nat) - 987654321 = 0 := rfl; have hr := hg; repeat' (first | refine aw_seq ?_ | (refine aw_skip ?_; repeat' (first | with_reducible refine thenQ_n ?_ | with_reducible refine blockQ_n ?_ | with_reducible refine thenQ_e ?_ | with_reducible refine blockQ_t ?_ | with_reducible refine blockQ_f (by decide) ?_)) | (refine aw_exit ?_; repeat' (first | with_reducible refine thenQ_n ?_ | with_reducible refine blockQ_n ?_ | with_reducible refine thenQ_e ?_ | with_reducible refine blockQ_t ?_ | with_reducible refine blockQ_f (by decide) ?_)) | refine aw_ret ?_ | refine aw_block ?_ | refine aw_condT rfl ?_ | refine aw_condF rfl ?_ | (refine aw_cond rfl (fun hg => ?_) (fun hg => ?_) <;> (try (have hq := hg; simp only [Bool.not_eq_true', Bool.not_eq_false', Bool.and_eq_true, Bool.and_eq_false_iff, Bool.or_eq_true, Bool.or_eq_false_iff, decide_eq_true_eq, decide_eq_false_iff_not, bne_iff_ne, beq_iff_eq, beq_eq_false_iff_ne, bne_eq_false_iff_eq, ne_eq, Int.not_lt, Int.not_le, Decidable.not_not] at hq)) <;> (try (have hr := hg; simp only [decide_eq_true_eq, decide_eq_false_iff_not] at hr)) <;> (try (exfalso; omega))) | ((first | refine aw_hide fun K hK => aw_region ?_ | refine acall0 (cf) ?_ | refine ago_if (by omega) ?_ | skip); simp (config := {maxSteps := 10000000}) (disch := first | exact okYes (by kernel_rfl) | omega) only [List.length, Nat.zero_add, Nat.reduceAdd, Nat.reduceMul, dI, cast_lit, ARun_none, AOpRun, aexec, FSt.ev, St.F, eget_c, Nat.reduceBEq, ↓eget_h, cond_false, AGo_ok, St.app, putO, eput_c, eput_n, hups, List.map, ints_len, isSh, Bool.false_eq_true, ↓reduceIte, Option.map, abin, ARun_nil, dropE_c, inL_c, inL_n, beq_self_eq_true, cond_true, dropE_n, hr, decide_true, Int.le_refl, la, and_self, opt1, Int.toNat_zero, g1, run1, List.getElem?_cons_zero, dB, Bool.not_false, ARun_some, AG_tf, AG_un, blockQ, thenQ]) | (subst hK; repeat' (first | with_reducible refine thenQ_n ?_ | with_reducible refine blockQ_n ?_ | with_reducible refine thenQ_e ?_ | with_reducible refine blockQ_t ?_ | with_reducible refine blockQ_f (by decide) ?_))))
      all_goals (refine end_to [] [] (by first | exact .inl rfl | exact .inr rfl) rfl (by kernel_rfl) (by kernel_rfl) (by kernel_rfl) ?_ ?_ <;> repeat' (first | exact trivial | exact vr_val _))
    | true =>
      rw [q] at cf
      have := wI_t q
      (have hg : (987654321 : Nat) - 987654321 = 0 := rfl; have hr := hg; repeat' (first | refine aw_seq ?_ | (refine aw_skip ?_; repeat' (first | with_reducible refine thenQ_n ?_ | with_reducible refine blockQ_n ?_ | with_reducible refine thenQ_e ?_ | with_reducible refine blockQ_t ?_ | with_reducible refine blockQ_f (by decide) ?_)) | (refine aw_exit ?_; repeat' (first | with_reducible refine thenQ_n ?_ | with_reducible refine blockQ_n ?_ | with_reducible refine thenQ_e ?_ | with_reducible refine blockQ_t ?_ | with_reducible refine blockQ_f (by decide) ?_)) | refine aw_ret ?_ | refine aw_block ?_ | refine aw_condT rfl ?_ | refine aw_condF rfl ?_ | (refine aw_cond rfl (fun hg => ?_) (fun hg => ?_) <;> (try (have hq := hg; simp only [Bool.not_eq_true', Bool.not_eq_false', Bool.and_eq_true, Bool.and_eq_false_iff, Bool.or_eq_true, Bool.or_eq_false_iff, decide_eq_true_eq, decide_eq_false_iff_not, bne_iff_ne, beq_iff_eq, beq_eq_false_iff_ne, bne_eq_false_iff_eq, ne_eq, Int.not_lt, Int.not_le, Decidable.not_not] at hq)) <;> (try (have hr := hg; simp only [decide_eq_true_eq, decide_eq_false_iff_not] at hr)) <;> (try (exfalso; omega))) | (refine ag_bool (fun hg => ?_) (fun hg => ?_) <;> (try (have hq := hg; simp only [Bool.not_eq_true', Bool.not_eq_false', Bool.and_eq_true, Bool.and_eq_false_iff, Bool.or_eq_true, Bool.or_eq_false_iff, decide_eq_true_eq, decide_eq_false_iff_not, bne_iff_ne, beq_iff_eq, beq_eq_false_iff_ne, bne_eq_false_iff_eq, ne_eq, Int.not_lt, Int.not_le, Decidable.not_not] at hq)) <;> (try (have hr := hg; simp only [decide_eq_true_eq, decide_eq_false_iff_not] at hr)) <;> (try (exfalso; omega)) <;> simp (config := {maxSteps := 10000000}) (disch := first | exact okYes (by kernel_rfl) | omega) only [hr, decide_false, AG_ft, Nat.reduceAdd, St.app, putO, eput_c, Nat.reduceBEq, eput_n, cond_false, hups, ARun_some, eget_c, ↓eget_h, AG_ff, AOpRun, aexec, FSt.ev, St.F, Bool.false_eq_true, ↓reduceIte, AGo_ok, List.map, ARun_none, ARun_nil, dropE_c, inL_c, inL_n, beq_self_eq_true, cond_true, dropE_n]) | ((first | refine aw_hide fun K hK => aw_region ?_ | refine acall0 (cf) ?_ | refine ago_if (by omega) ?_ | skip); simp (config := {maxSteps := 10000000}) (disch := first | exact okYes (by kernel_rfl) | omega) only [List.length, Nat.zero_add, Nat.reduceAdd, Nat.reduceMul, dI, cast_lit, ARun_none, AOpRun, aexec, FSt.ev, St.F, eget_c, Nat.reduceBEq, ↓eget_h, cond_false, AGo_ok, St.app, putO, eput_c, eput_n, hups, List.map, ints_len, isSh, Bool.false_eq_true, ↓reduceIte, Option.map, abin, ARun_nil, dropE_c, inL_c, inL_n, beq_self_eq_true, cond_true, dropE_n, hr, decide_true, Int.le_refl, la, and_self, opt1, Int.toNat_zero, g1, run1, List.getElem?_cons_zero, dB, Bool.not_true, ARun_some, AG_ff, Int.reduceAdd, fits]) | (subst hK; repeat' (first | with_reducible refine thenQ_n ?_ | with_reducible refine blockQ_n ?_ | with_reducible refine thenQ_e ?_ | with_reducible refine blockQ_t ?_ | with_reducible refine blockQ_f (by decide) ?_))))
      refine ⟨1, ⟨by omega, hyes (by omega) (by omega)⟩, by omega, ?_⟩
      refine wk_to [] [] (by kernel_rfl) (by kernel_rfl) (by kernel_rfl) (by kernel_rfl) (by kernel_rfl) ?_ ?_ <;> repeat' (first | exact trivial | exact vr_val _ | exact vr_list _ | apply And.intro)
  · have el : lastA l k = l[k - 1]?.getD 0 := by unfold lastA; rw [if_neg h0]
    rw [el] at hno hyes
    have g2 := ints_gd l (k - 1) (by omega)
    have e1 : ((k : Int) - 1).toNat = k - 1 := by omega
    have kp : (0 : Int) ≤ (k : Int) - 1 := by omega
    have kq : (k : Int) - 1 < (l.length : Int) := by omega
    have kz : decide ((k : Int) > 0) = true := decide_eq_true (by omega)
    have hy0 : 0 ≤ l[k - 1]?.getD 0 := (hp (k - 1) (by omega)).1
    generalize l[k]?.getD 0 = x at *
    generalize l[k - 1]?.getD 0 = y at *
    cases q : wI x 0 b with
    | false =>
      rw [q] at cf
      rw [decide_eq_false (hno fun h => by rcases wI_f q with h1 | h1 <;> omega)]
      (have hg : (987654321 : Nat) - 987654321 = 0 := rfl; have hr := hg; repeat' (first | refine aw_seq ?_ | (refine aw_skip ?_; repeat' (first | with_reducible refine thenQ_n ?_ | with_reducible refine blockQ_n ?_ | with_reducible refine thenQ_e ?_ | with_reducible refine blockQ_t ?_ | with_reducible refine blockQ_f (by decide) ?_)) | (refine aw_exit ?_; repeat' (first | with_reducible refine thenQ_n ?_ | with_reducible refine blockQ_n ?_ | with_reducible refine thenQ_e ?_ | with_reducible refine blockQ_t ?_ | with_reducible refine blockQ_f (by decide) ?_)) | refine aw_ret ?_ | refine aw_block ?_ | refine aw_condT rfl ?_ | refine aw_condF rfl ?_ | ((first | refine aw_hide fun K hK => aw_region ?_ | refine acall0 (cf) ?_ | refine ago_if (by omega) ?_ | skip); simp (config := {maxSteps := 10000000}) (disch := first | exact okYes (by kernel_rfl) | omega) only [List.length, Nat.zero_add, Nat.reduceAdd, Nat.reduceMul, dI, ARun_none, AOpRun, aexec, FSt.ev, St.F, eget_c, Nat.reduceBEq, ↓eget_h, cond_false, AGo_ok, St.app, putO, eput_c, eput_n, hups, List.map, ints_len, isSh, Bool.false_eq_true, ↓reduceIte, Option.map, abin, ki, decide_true, ARun_nil, dropE_c, inL_c, inL_n, beq_self_eq_true, cond_true, dropE_n, Int.natCast_nonneg, la, and_self, opt1, Int.toNat_natCast, g1, run1, List.getElem?_cons_zero, dB, Bool.not_false, ARun_some, AG_tf, AG_un, blockQ, thenQ]) | (subst hK; repeat' (first | with_reducible refine thenQ_n ?_ | with_reducible refine blockQ_n ?_ | with_reducible refine thenQ_e ?_ | with_reducible refine blockQ_t ?_ | with_reducible refine blockQ_f (by decide) ?_))))
      all_goals (refine end_to [] [] (by first | exact .inl rfl | exact .inr rfl) rfl (by kernel_rfl) (by kernel_rfl) (by kernel_rfl) ?_ ?_ <;> repeat' (first | exact trivial | exact vr_val _))
    | true =>
      rw [q] at cf
      have hw := wI_t q
      cases q2 : decide (x ≤ y) with
      | true =>
        rw [decide_eq_false (hno fun h => by have := of_decide_eq_true q2; omega)]
        (have hg : (987654321 : Nat) - 987654321 = 0 := rfl; have hr := hg; repeat' (first | refine aw_seq ?_ | (refine aw_skip ?_; repeat' (first | with_reducible refine thenQ_n ?_ | with_reducible refine blockQ_n ?_ | with_reducible refine thenQ_e ?_ | with_reducible refine blockQ_t ?_ | with_reducible refine blockQ_f (by decide) ?_)) | (refine aw_exit ?_; repeat' (first | with_reducible refine thenQ_n ?_ | with_reducible refine blockQ_n ?_ | with_reducible refine thenQ_e ?_ | with_reducible refine blockQ_t ?_ | with_reducible refine blockQ_f (by decide) ?_)) | refine aw_ret ?_ | refine aw_block ?_ | refine aw_condT rfl ?_ | refine aw_condF rfl ?_ | ((first | refine aw_hide fun K hK => aw_region ?_ | refine acall0 (cf) ?_ | refine ago_if (by omega) ?_ | skip); simp (config := {maxSteps := 10000000}) (disch := first | exact okYes (by kernel_rfl) | omega) only [List.length, Nat.zero_add, Nat.reduceAdd, Nat.reduceMul, dI, ARun_none, AOpRun, aexec, FSt.ev, St.F, eget_c, Nat.reduceBEq, ↓eget_h, cond_false, AGo_ok, St.app, putO, eput_c, eput_n, hups, List.map, ints_len, isSh, Bool.false_eq_true, ↓reduceIte, Option.map, abin, ki, decide_true, ARun_nil, dropE_c, inL_c, inL_n, beq_self_eq_true, cond_true, dropE_n, Int.natCast_nonneg, la, and_self, opt1, Int.toNat_natCast, g1, run1, List.getElem?_cons_zero, dB, Bool.not_true, ARun_some, AG_ff, kz, AG_tt, fits, kp, e1, g2, q2, blockQ, thenQ]) | (subst hK; repeat' (first | with_reducible refine thenQ_n ?_ | with_reducible refine blockQ_n ?_ | with_reducible refine thenQ_e ?_ | with_reducible refine blockQ_t ?_ | with_reducible refine blockQ_f (by decide) ?_))))
        all_goals (refine end_to [] [] (by first | exact .inl rfl | exact .inr rfl) rfl (by kernel_rfl) (by kernel_rfl) (by kernel_rfl) ?_ ?_ <;> repeat' (first | exact trivial | exact vr_val _))
      | false =>
        have := of_decide_eq_false q2
        (have hg : (987654321 : Nat) - 987654321 = 0 := rfl; have hr := hg; repeat' (first | refine aw_seq ?_ | (refine aw_skip ?_; repeat' (first | with_reducible refine thenQ_n ?_ | with_reducible refine blockQ_n ?_ | with_reducible refine thenQ_e ?_ | with_reducible refine blockQ_t ?_ | with_reducible refine blockQ_f (by decide) ?_)) | (refine aw_exit ?_; repeat' (first | with_reducible refine thenQ_n ?_ | with_reducible refine blockQ_n ?_ | with_reducible refine thenQ_e ?_ | with_reducible refine blockQ_t ?_ | with_reducible refine blockQ_f (by decide) ?_)) | refine aw_ret ?_ | refine aw_block ?_ | refine aw_condT rfl ?_ | refine aw_condF rfl ?_ | ((first | refine aw_hide fun K hK => aw_region ?_ | refine acall0 (cf) ?_ | refine ago_if (by omega) ?_ | skip); simp (config := {maxSteps := 10000000}) (disch := first | exact okYes (by kernel_rfl) | omega) only [List.length, Nat.zero_add, Nat.reduceAdd, Nat.reduceMul, dI, ARun_none, AOpRun, aexec, FSt.ev, St.F, eget_c, Nat.reduceBEq, ↓eget_h, cond_false, AGo_ok, St.app, putO, eput_c, eput_n, hups, List.map, ints_len, isSh, Bool.false_eq_true, ↓reduceIte, Option.map, abin, ki, decide_true, ARun_nil, dropE_c, inL_c, inL_n, beq_self_eq_true, cond_true, dropE_n, Int.natCast_nonneg, la, and_self, opt1, Int.toNat_natCast, g1, run1, List.getElem?_cons_zero, dB, Bool.not_true, ARun_some, AG_ff, kz, AG_tt, fits, kp, e1, g2, q2]) | (subst hK; repeat' (first | with_reducible refine thenQ_n ?_ | with_reducible refine blockQ_n ?_ | with_reducible refine thenQ_e ?_ | with_reducible refine blockQ_t ?_ | with_reducible refine blockQ_f (by decide) ?_))))
        refine ⟨k + 1, ⟨by omega, hyes (by omega) (by omega)⟩, by omega, ?_⟩
        refine wk_to [] [] (by kernel_rfl) (by kernel_rfl) (by kernel_rfl) (by kernel_rfl) (by kernel_rfl) ?_ ?_ <;> repeat' (first | exact trivial | exact vr_val _ | exact vr_list _ | apply And.intro)
set_option maxRecDepth 100000 in
set_option maxHeartbeats 4000000 in
theorem rcase_ac (c : Cas) (hc : CasIn c) : AC Try.prog 92 [casD c] [] [] (dI (casE c 122)) := by
  refine kref12_CheckCase.ac (n0 := 0) (by simp) ⟨in_cas _ _, trivial⟩ trivial rfl ?_
  unfold cref12_CheckCase casD
  have cll := cls_len c.cl
  have cla := cls_all c.cl
  have pfl := sps_len c.pf
  have pfa := sps_all c.pf
  cases q1 : decide ((c.cl.length : Int) > 16) with
  | true =>
    rw [casE_no fun h => by have := h.n1; have := of_decide_eq_true q1; omega]
    (have hg : (987654321 : Nat) - 987654321 = 0 := rfl; have hr := hg; repeat' (first | refine aw_seq ?_ | (refine aw_skip ?_; repeat' (first | with_reducible refine thenQ_n ?_ | with_reducible refine blockQ_n ?_ | with_reducible refine thenQ_e ?_ | with_reducible refine blockQ_t ?_ | with_reducible refine blockQ_f (by decide) ?_)) | (refine aw_exit ?_; repeat' (first | with_reducible refine thenQ_n ?_ | with_reducible refine blockQ_n ?_ | with_reducible refine thenQ_e ?_ | with_reducible refine blockQ_t ?_ | with_reducible refine blockQ_f (by decide) ?_)) | refine aw_ret ?_ | refine aw_block ?_ | refine aw_condT rfl ?_ | refine aw_condF rfl ?_ | ((first | refine aw_hide fun K hK => aw_region ?_ | refine ago_if (by omega) ?_ | skip); simp (config := {maxSteps := 10000000}) (disch := first | exact okYes (by kernel_rfl) | omega) only [List.length, Nat.zero_add, Nat.reduceAdd, Nat.reduceMul, envOf, ARun_none, AOpRun, aexec, D.isBot, FSt.ev, St.F, ↓eget_h, Bool.false_eq_true, Option.isSome, hget_n, or_self, ↓reduceIte, D.cells, AGo_ok, St.app, putO, eput_c, Nat.reduceBEq, eput_n, cond_false, hups, hput_n, List.map, ARun_nil, dropE_c, inL_n, dropE_n, eget_c, Option.map, run1, hget_c, beq_self_eq_true, cond_true, List.getElem?_cons_zero, cll, isSh, abin, q1, ARun_some, AG_tf, inL_c, thenQ, dI]) | (subst hK; repeat' (first | with_reducible refine thenQ_n ?_ | with_reducible refine blockQ_n ?_ | with_reducible refine thenQ_e ?_ | with_reducible refine blockQ_t ?_ | with_reducible refine blockQ_f (by decide) ?_))))
    all_goals (refine end_to [] [] (by first | exact .inl rfl | exact .inr rfl) rfl (by kernel_rfl) (by kernel_rfl) (by kernel_rfl) ?_ ?_ <;> repeat' (first | exact trivial | exact vr_val _))
  | false =>
  have n1 := of_decide_eq_false q1
  cases q2 : decide ((c.pf.length : Int) > 12) with
  | true =>
    rw [casE_no fun h => by have := h.n2; have := of_decide_eq_true q2; omega]
    (have hg : (987654321 : Nat) - 987654321 = 0 := rfl; have hr := hg; repeat' (first | refine aw_seq ?_ | (refine aw_skip ?_; repeat' (first | with_reducible refine thenQ_n ?_ | with_reducible refine blockQ_n ?_ | with_reducible refine thenQ_e ?_ | with_reducible refine blockQ_t ?_ | with_reducible refine blockQ_f (by decide) ?_)) | (refine aw_exit ?_; repeat' (first | with_reducible refine thenQ_n ?_ | with_reducible refine blockQ_n ?_ | with_reducible refine thenQ_e ?_ | with_reducible refine blockQ_t ?_ | with_reducible refine blockQ_f (by decide) ?_)) | refine aw_ret ?_ | refine aw_block ?_ | refine aw_condT rfl ?_ | refine aw_condF rfl ?_ | ((first | refine aw_hide fun K hK => aw_region ?_ | refine ago_if (by omega) ?_ | skip); simp (config := {maxSteps := 10000000}) (disch := first | exact okYes (by kernel_rfl) | omega) only [List.length, Nat.zero_add, Nat.reduceAdd, Nat.reduceMul, envOf, ARun_none, AOpRun, aexec, D.isBot, FSt.ev, St.F, ↓eget_h, Bool.false_eq_true, Option.isSome, hget_n, or_self, ↓reduceIte, D.cells, AGo_ok, St.app, putO, eput_c, Nat.reduceBEq, eput_n, cond_false, hups, hput_n, List.map, ARun_nil, dropE_c, inL_n, dropE_n, eget_c, Option.map, run1, hget_c, beq_self_eq_true, cond_true, List.getElem?_cons_zero, cll, isSh, abin, q1, ARun_some, AG_ff, List.getElem?_cons_succ, pfl, q2, inL_c, thenQ, dI]) | (subst hK; repeat' (first | with_reducible refine thenQ_n ?_ | with_reducible refine blockQ_n ?_ | with_reducible refine thenQ_e ?_ | with_reducible refine blockQ_t ?_ | with_reducible refine blockQ_f (by decide) ?_))))
    all_goals (refine end_to [] [] (by first | exact .inl rfl | exact .inr rfl) rfl (by kernel_rfl) (by kernel_rfl) (by kernel_rfl) ?_ ?_ <;> repeat' (first | exact trivial | exact vr_val _))
  | false =>
  have n2 := of_decide_eq_false q2
  (have hg : (987654321 : Nat) - 987654321 = 0 := rfl; have hr := hg; repeat' (first | refine aw_seq ?_ | (refine aw_skip ?_; repeat' (first | with_reducible refine thenQ_n ?_ | with_reducible refine blockQ_n ?_ | with_reducible refine thenQ_e ?_ | with_reducible refine blockQ_t ?_ | with_reducible refine blockQ_f (by decide) ?_)) | (refine aw_exit ?_; repeat' (first | with_reducible refine thenQ_n ?_ | with_reducible refine blockQ_n ?_ | with_reducible refine thenQ_e ?_ | with_reducible refine blockQ_t ?_ | with_reducible refine blockQ_f (by decide) ?_)) | refine aw_ret ?_ | refine aw_block ?_ | refine aw_condT rfl ?_ | refine aw_condF rfl ?_ | ((first | refine aw_hide fun K hK => aw_region ?_ | refine ago_if (by omega) ?_ | skip); simp (config := {maxSteps := 10000000}) (disch := first | exact okYes (by kernel_rfl) | omega) only [List.length, Nat.zero_add, Nat.reduceAdd, Nat.reduceMul, envOf, ARun_none, AOpRun, aexec, D.isBot, FSt.ev, St.F, ↓eget_h, Bool.false_eq_true, Option.isSome, hget_n, or_self, ↓reduceIte, D.cells, AGo_ok, St.app, putO, eput_c, Nat.reduceBEq, eput_n, cond_false, hups, hput_n, List.map, ARun_nil, dropE_c, inL_n, dropE_n, eget_c, Option.map, run1, hget_c, beq_self_eq_true, cond_true, List.getElem?_cons_zero, cll, isSh, abin, q1, ARun_some, AG_ff, List.getElem?_cons_succ, pfl, q2, inL_c, dI]) | (subst hK; repeat' (first | with_reducible refine thenQ_n ?_ | with_reducible refine blockQ_n ?_ | with_reducible refine thenQ_e ?_ | with_reducible refine blockQ_t ?_ | with_reducible refine blockQ_f (by decide) ?_))))
  refine aw_loop (fun k : Nat => ⟨[(1, .ptr 0 0), (3, dI k)], [(0, [.list (cls c.cl), .list (sps c.pf)])], 400⟩) (fun k => k ≤ c.cl.length ∧ ∀ i, i < k → Asc (clAt c i).needs i ∧ Asc (clAt c i).proofs c.pf.length) (fun k => c.cl.length - k) ⟨0, ⟨by omega, fun i hi => by omega⟩, ?_⟩ ?_
  · unfold dI
    refine wk_to [] [(0, 0)] (by kernel_rfl) (by kernel_rfl) (by kernel_rfl) (by kernel_rfl) (by kernel_rfl) ?_ ?_ <;> repeat' (first | exact trivial | exact vr_val _ | exact vr_list _ | exact vr_ptr _ _ _ rfl | refine And.intro ⟨_, rfl, .inl ⟨_, rfl, by decide, ?_⟩⟩ ?_ | apply And.intro)
  rintro k ⟨hk, hp⟩
  by_cases hk2 : k < c.cl.length
  case neg =>
    obtain rfl : k = c.cl.length := by omega
    clear hk hk2 q1 q2
    have hyes : (∀ i, i < c.pf.length → pfOk (pfAt c i)) → casE c 122 = 0 := fun h => casE_ok ⟨by omega, by omega, hp, h⟩
    have hno : ∀ i, i < c.pf.length → ¬ pfOk (pfAt c i) → casE c 122 = 122 := fun i hi h => casE_no fun hh => h (hh.pf i hi)
    (have hg : (987654321 : Nat) - 987654321 = 0 := rfl; have hr := hg; repeat' (first | refine aw_seq ?_ | (refine aw_skip ?_; repeat' (first | with_reducible refine thenQ_n ?_ | with_reducible refine blockQ_n ?_ | with_reducible refine thenQ_e ?_ | with_reducible refine blockQ_t ?_ | with_reducible refine blockQ_f (by decide) ?_)) | (refine aw_exit ?_; repeat' (first | with_reducible refine thenQ_n ?_ | with_reducible refine blockQ_n ?_ | with_reducible refine thenQ_e ?_ | with_reducible refine blockQ_t ?_ | with_reducible refine blockQ_f (by decide) ?_)) | refine aw_ret ?_ | refine aw_block ?_ | refine aw_condT rfl ?_ | refine aw_condF rfl ?_ | (refine aw_cond rfl (fun hg => ?_) (fun hg => ?_) <;> (try (have hq := hg; simp only [Bool.not_eq_true', Bool.not_eq_false', Bool.and_eq_true, Bool.and_eq_false_iff, Bool.or_eq_true, Bool.or_eq_false_iff, decide_eq_true_eq, decide_eq_false_iff_not, bne_iff_ne, beq_iff_eq, beq_eq_false_iff_ne, bne_eq_false_iff_eq, ne_eq, Int.not_lt, Int.not_le, Decidable.not_not] at hq)) <;> (try (have hr := hg; simp only [decide_eq_true_eq, decide_eq_false_iff_not] at hr)) <;> (try (exfalso; omega))) | ((first | refine aw_hide fun K hK => aw_region ?_ | refine ago_if (by omega) ?_ | skip); simp (config := {maxSteps := 10000000}) (disch := first | exact okYes (by kernel_rfl) | omega) only [List.length, Nat.zero_add, Nat.reduceAdd, Nat.reduceMul, dI, ARun_none, AOpRun, aexec, FSt.ev, St.F, eget_c, Nat.reduceBEq, ↓eget_h, cond_false, AGo_ok, St.app, putO, eput_c, eput_n, hups, List.map, Option.map, run1, hget_c, beq_self_eq_true, hget_n, cond_true, List.getElem?_cons_zero, cll, isSh, Bool.false_eq_true, ↓reduceIte, abin, ARun_nil, dropE_c, inL_c, inL_n, dropE_n, hr, decide_false]) | (subst hK; repeat' (first | with_reducible refine thenQ_n ?_ | with_reducible refine blockQ_n ?_ | with_reducible refine thenQ_e ?_ | with_reducible refine blockQ_t ?_ | with_reducible refine blockQ_f (by decide) ?_))))
    refine aw_loop (fun k : Nat => ⟨[(1, .ptr 0 0), (4, dI k)], [(0, [.list (cls c.cl), .list (sps c.pf)])], 400⟩) (fun k => k ≤ c.pf.length ∧ ∀ i, i < k → pfOk (pfAt c i)) (fun k => c.pf.length - k) ⟨0, ⟨by omega, fun i hi => by omega⟩, ?_⟩ ?_
    · unfold dI
      refine wk_to [] [(0, 0)] (by kernel_rfl) (by kernel_rfl) (by kernel_rfl) (by kernel_rfl) (by kernel_rfl) ?_ ?_ <;> repeat' (first | exact trivial | exact vr_val _ | exact vr_list _ | exact vr_ptr _ _ _ rfl | refine And.intro ⟨_, rfl, .inl ⟨_, rfl, by decide, ?_⟩⟩ ?_ | apply And.intro)
    rintro k ⟨hk, hq⟩
    by_cases hk2 : k < c.pf.length
    case neg =>
      obtain rfl : k = c.pf.length := by omega
      rw [hyes hq]
      (have hg : (987654321 : Nat) - 987654321 = 0 := rfl; have hr := hg; repeat' (first | refine aw_seq ?_ | (refine aw_skip ?_; repeat' (first | with_reducible refine thenQ_n ?_ | with_reducible refine blockQ_n ?_ | with_reducible refine thenQ_e ?_ | with_reducible refine blockQ_t ?_ | with_reducible refine blockQ_f (by decide) ?_)) | (refine aw_exit ?_; repeat' (first | with_reducible refine thenQ_n ?_ | with_reducible refine blockQ_n ?_ | with_reducible refine thenQ_e ?_ | with_reducible refine blockQ_t ?_ | with_reducible refine blockQ_f (by decide) ?_)) | refine aw_ret ?_ | refine aw_block ?_ | refine aw_condT rfl ?_ | refine aw_condF rfl ?_ | (refine aw_cond rfl (fun hg => ?_) (fun hg => ?_) <;> (try (have hq := hg; simp only [Bool.not_eq_true', Bool.not_eq_false', Bool.and_eq_true, Bool.and_eq_false_iff, Bool.or_eq_true, Bool.or_eq_false_iff, decide_eq_true_eq, decide_eq_false_iff_not, bne_iff_ne, beq_iff_eq, beq_eq_false_iff_ne, bne_eq_false_iff_eq, ne_eq, Int.not_lt, Int.not_le, Decidable.not_not] at hq)) <;> (try (have hr := hg; simp only [decide_eq_true_eq, decide_eq_false_iff_not] at hr)) <;> (try (exfalso; omega))) | ((first | refine aw_hide fun K hK => aw_region ?_ | refine ago_if (by omega) ?_ | skip); simp (config := {maxSteps := 10000000}) (disch := first | exact okYes (by kernel_rfl) | omega) only [List.length, Nat.zero_add, Nat.reduceAdd, Nat.reduceMul, dI, ARun_none, AOpRun, aexec, FSt.ev, St.F, eget_c, Nat.reduceBEq, ↓eget_h, cond_false, AGo_ok, St.app, putO, eput_c, eput_n, hups, List.map, Option.map, run1, hget_c, beq_self_eq_true, hget_n, cond_true, List.getElem?_cons_succ, List.getElem?_cons_zero, pfl, isSh, Bool.false_eq_true, ↓reduceIte, abin, ARun_nil, dropE_c, inL_c, inL_n, dropE_n, hr, decide_false]) | (subst hK; repeat' (first | with_reducible refine thenQ_n ?_ | with_reducible refine blockQ_n ?_ | with_reducible refine thenQ_e ?_ | with_reducible refine blockQ_t ?_ | with_reducible refine blockQ_f (by decide) ?_))))
      all_goals (refine end_to [] [] (by first | exact .inl rfl | exact .inr rfl) rfl (by kernel_rfl) (by kernel_rfl) (by kernel_rfl) ?_ ?_ <;> repeat' (first | exact trivial | exact vr_val _))
    have g1 : (sps c.pf)[k]? = some [dI (pfAt c k).1, dI (pfAt c k).2] := sp_at c.pf k hk2
    have v1 := nvalid1_ac (pfAt c k)
    have hi := spv_iff (pfAt c k)
    have hno := hno k hk2
    have hnx : pfOk (pfAt c k) → ∀ i, i < k + 1 → pfOk (pfAt c i) := fun h i hi => by
      rcases (by omega : i < k ∨ i = k) with h1 | rfl
      · exact hq i h1
      · exact h
    have ki : (k : Int) < (c.pf.length : Int) := by omega
    clear hp hq hyes
    generalize pfAt c k = x at *
    cases h1 : spVB x with
    | false =>
      rw [h1] at v1
      rw [hno fun h => by rw [hi, h1] at h; cases h.1]
      (have hg : (987654321 : Nat) - 987654321 = 0 := rfl; have hr := hg; repeat' (first | refine aw_seq ?_ | (refine aw_skip ?_; repeat' (first | with_reducible refine thenQ_n ?_ | with_reducible refine blockQ_n ?_ | with_reducible refine thenQ_e ?_ | with_reducible refine blockQ_t ?_ | with_reducible refine blockQ_f (by decide) ?_)) | (refine aw_exit ?_; repeat' (first | with_reducible refine thenQ_n ?_ | with_reducible refine blockQ_n ?_ | with_reducible refine thenQ_e ?_ | with_reducible refine blockQ_t ?_ | with_reducible refine blockQ_f (by decide) ?_)) | refine aw_ret ?_ | refine aw_block ?_ | refine aw_condT rfl ?_ | refine aw_condF rfl ?_ | ((first | refine aw_hide fun K hK => aw_region ?_ | refine acall0 (v1) ?_ | refine ago_if (by omega) ?_ | skip); simp (config := {maxSteps := 10000000}) (disch := first | exact okYes (by kernel_rfl) | omega) only [List.length, Nat.zero_add, Nat.reduceAdd, Nat.reduceMul, dI, ARun_none, AOpRun, aexec, FSt.ev, St.F, eget_c, Nat.reduceBEq, ↓eget_h, cond_false, AGo_ok, St.app, putO, eput_c, eput_n, hups, List.map, Option.map, run1, hget_c, beq_self_eq_true, hget_n, cond_true, List.getElem?_cons_succ, List.getElem?_cons_zero, pfl, isSh, Bool.false_eq_true, ↓reduceIte, abin, ki, decide_true, ARun_nil, dropE_c, inL_c, inL_n, dropE_n, Int.natCast_nonneg, pfa, and_self, opt1, Int.toNat_natCast, g1, Nat.reduceLeDiff, List.take, dB, Bool.not_false, ARun_some, AG_tf, blockQ, thenQ]) | (subst hK; repeat' (first | with_reducible refine thenQ_n ?_ | with_reducible refine blockQ_n ?_ | with_reducible refine thenQ_e ?_ | with_reducible refine blockQ_t ?_ | with_reducible refine blockQ_f (by decide) ?_))))
      all_goals (refine end_to [] [] (by first | exact .inl rfl | exact .inr rfl) rfl (by kernel_rfl) (by kernel_rfl) (by kernel_rfl) ?_ ?_ <;> repeat' (first | exact trivial | exact vr_val _))
    | true =>
      rw [h1] at v1
      cases h2 : decide (x.1 < 0) with
      | true =>
        rw [hno fun h => by have := (hi.1 h).2.1; have := of_decide_eq_true h2; omega]
        (have hg : (987654321 : Nat) - 987654321 = 0 := rfl; have hr := hg; repeat' (first | refine aw_seq ?_ | (refine aw_skip ?_; repeat' (first | with_reducible refine thenQ_n ?_ | with_reducible refine blockQ_n ?_ | with_reducible refine thenQ_e ?_ | with_reducible refine blockQ_t ?_ | with_reducible refine blockQ_f (by decide) ?_)) | (refine aw_exit ?_; repeat' (first | with_reducible refine thenQ_n ?_ | with_reducible refine blockQ_n ?_ | with_reducible refine thenQ_e ?_ | with_reducible refine blockQ_t ?_ | with_reducible refine blockQ_f (by decide) ?_)) | refine aw_ret ?_ | refine aw_block ?_ | refine aw_condT rfl ?_ | refine aw_condF rfl ?_ | ((first | refine aw_hide fun K hK => aw_region ?_ | refine acall0 (v1) ?_ | refine ago_if (by omega) ?_ | skip); simp (config := {maxSteps := 10000000}) (disch := first | exact okYes (by kernel_rfl) | omega) only [List.length, Nat.zero_add, Nat.reduceAdd, Nat.reduceMul, dI, ARun_none, AOpRun, aexec, FSt.ev, St.F, eget_c, Nat.reduceBEq, ↓eget_h, cond_false, AGo_ok, St.app, putO, eput_c, eput_n, hups, List.map, Option.map, run1, hget_c, beq_self_eq_true, hget_n, cond_true, List.getElem?_cons_succ, List.getElem?_cons_zero, pfl, isSh, Bool.false_eq_true, ↓reduceIte, abin, ki, decide_true, ARun_nil, dropE_c, inL_c, inL_n, dropE_n, Int.natCast_nonneg, pfa, and_self, opt1, Int.toNat_natCast, g1, Nat.reduceLeDiff, List.take, dB, Bool.not_true, ARun_some, AG_ff, List.drop, h2, AG_tf, blockQ, thenQ]) | (subst hK; repeat' (first | with_reducible refine thenQ_n ?_ | with_reducible refine blockQ_n ?_ | with_reducible refine thenQ_e ?_ | with_reducible refine blockQ_t ?_ | with_reducible refine blockQ_f (by decide) ?_))))
        all_goals (refine end_to [] [] (by first | exact .inl rfl | exact .inr rfl) rfl (by kernel_rfl) (by kernel_rfl) (by kernel_rfl) ?_ ?_ <;> repeat' (first | exact trivial | exact vr_val _))
      | false =>
        cases h3 : decide (x.2 > 2000) with
        | true =>
          rw [hno fun h => by have := (hi.1 h).2.2; have := of_decide_eq_true h3; omega]
          (have hg : (987654321 : Nat) - 987654321 = 0 := rfl; have hr := hg; repeat' (first | refine aw_seq ?_ | (refine aw_skip ?_; repeat' (first | with_reducible refine thenQ_n ?_ | with_reducible refine blockQ_n ?_ | with_reducible refine thenQ_e ?_ | with_reducible refine blockQ_t ?_ | with_reducible refine blockQ_f (by decide) ?_)) | (refine aw_exit ?_; repeat' (first | with_reducible refine thenQ_n ?_ | with_reducible refine blockQ_n ?_ | with_reducible refine thenQ_e ?_ | with_reducible refine blockQ_t ?_ | with_reducible refine blockQ_f (by decide) ?_)) | refine aw_ret ?_ | refine aw_block ?_ | refine aw_condT rfl ?_ | refine aw_condF rfl ?_ | ((first | refine aw_hide fun K hK => aw_region ?_ | refine acall0 (v1) ?_ | refine ago_if (by omega) ?_ | skip); simp (config := {maxSteps := 10000000}) (disch := first | exact okYes (by kernel_rfl) | omega) only [List.length, Nat.zero_add, Nat.reduceAdd, Nat.reduceMul, dI, ARun_none, AOpRun, aexec, FSt.ev, St.F, eget_c, Nat.reduceBEq, ↓eget_h, cond_false, AGo_ok, St.app, putO, eput_c, eput_n, hups, List.map, Option.map, run1, hget_c, beq_self_eq_true, hget_n, cond_true, List.getElem?_cons_succ, List.getElem?_cons_zero, pfl, isSh, Bool.false_eq_true, ↓reduceIte, abin, ki, decide_true, ARun_nil, dropE_c, inL_c, inL_n, dropE_n, Int.natCast_nonneg, pfa, and_self, opt1, Int.toNat_natCast, g1, Nat.reduceLeDiff, List.take, dB, Bool.not_true, ARun_some, AG_ff, List.drop, h2, h3, blockQ, thenQ]) | (subst hK; repeat' (first | with_reducible refine thenQ_n ?_ | with_reducible refine blockQ_n ?_ | with_reducible refine thenQ_e ?_ | with_reducible refine blockQ_t ?_ | with_reducible refine blockQ_f (by decide) ?_))))
          all_goals (refine end_to [] [] (by first | exact .inl rfl | exact .inr rfl) rfl (by kernel_rfl) (by kernel_rfl) (by kernel_rfl) ?_ ?_ <;> repeat' (first | exact trivial | exact vr_val _))
        | false =>
          have n3 := of_decide_eq_false h2
          have n4 := of_decide_eq_false h3
          have hok : pfOk x := hi.2 ⟨h1, by omega, by omega⟩
          (have hg : (987654321 : Nat) - 987654321 = 0 := rfl; have hr := hg; repeat' (first | refine aw_seq ?_ | (refine aw_skip ?_; repeat' (first | with_reducible refine thenQ_n ?_ | with_reducible refine blockQ_n ?_ | with_reducible refine thenQ_e ?_ | with_reducible refine blockQ_t ?_ | with_reducible refine blockQ_f (by decide) ?_)) | (refine aw_exit ?_; repeat' (first | with_reducible refine thenQ_n ?_ | with_reducible refine blockQ_n ?_ | with_reducible refine thenQ_e ?_ | with_reducible refine blockQ_t ?_ | with_reducible refine blockQ_f (by decide) ?_)) | refine aw_ret ?_ | refine aw_block ?_ | refine aw_condT rfl ?_ | refine aw_condF rfl ?_ | ((first | refine aw_hide fun K hK => aw_region ?_ | refine acall0 (v1) ?_ | refine ago_if (by omega) ?_ | skip); simp (config := {maxSteps := 10000000}) (disch := first | exact okYes (by kernel_rfl) | omega) only [List.length, Nat.zero_add, Nat.reduceAdd, Nat.reduceMul, dI, ARun_none, AOpRun, aexec, FSt.ev, St.F, eget_c, Nat.reduceBEq, ↓eget_h, cond_false, AGo_ok, St.app, putO, eput_c, eput_n, hups, List.map, Option.map, run1, hget_c, beq_self_eq_true, hget_n, cond_true, List.getElem?_cons_succ, List.getElem?_cons_zero, pfl, isSh, Bool.false_eq_true, ↓reduceIte, abin, ki, decide_true, ARun_nil, dropE_c, inL_c, inL_n, dropE_n, Int.natCast_nonneg, pfa, and_self, opt1, Int.toNat_natCast, g1, Nat.reduceLeDiff, List.take, dB, Bool.not_true, ARun_some, AG_ff, List.drop, h2, h3, fits]) | (subst hK; repeat' (first | with_reducible refine thenQ_n ?_ | with_reducible refine blockQ_n ?_ | with_reducible refine thenQ_e ?_ | with_reducible refine blockQ_t ?_ | with_reducible refine blockQ_f (by decide) ?_))))
          refine ⟨k + 1, ⟨by omega, hnx hok⟩, by omega, ?_⟩
          refine wk_to [] [(0, 0)] (by kernel_rfl) (by kernel_rfl) (by kernel_rfl) (by kernel_rfl) (by kernel_rfl) ?_ ?_ <;> repeat' (first | exact trivial | exact vr_val _ | exact vr_list _ | exact vr_ptr _ _ _ rfl | refine And.intro ⟨_, rfl, .inl ⟨_, rfl, by decide, ?_⟩⟩ ?_ | apply And.intro)
  have g1 : (cls c.cl)[k]? = some (clC (clAt c k)) := cls_gd c.cl k hk2
  unfold clC at g1
  have l1 := hc.l1 k
  have l2 := hc.l2 k
  have hyes : Asc (clAt c k).needs k → Asc (clAt c k).proofs c.pf.length → ∀ i, i < k + 1 → Asc (clAt c i).needs i ∧ Asc (clAt c i).proofs c.pf.length := fun h1 h2 i hi => by
    rcases (by omega : i < k ∨ i = k) with h | rfl
    · exact hp i h
    · exact ⟨h1, h2⟩
  have hno : ¬ (Asc (clAt c k).needs k ∧ Asc (clAt c k).proofs c.pf.length) → casE c 122 = 122 := fun h => casE_no fun hh => h (hh.asc k hk2)
  have ki : (k : Int) < (c.cl.length : Int) := by omega
  clear hp
  generalize clAt c k = x at g1 l1 l2 hyes hno
  have a1 := rising_ac x.needs ((k : Int) - 1) l1
  have a2 := rising_ac x.proofs ((c.pf.length : Int) - 1) l2
  rw [Int.sub_add_cancel] at a1 a2
  by_cases h1 : Asc x.needs k
  case neg =>
    rw [decide_eq_false h1] at a1
    rw [hno fun h => h1 h.1]
    (have hg : (987654321 : Nat) - 987654321 = 0 := rfl; have hr := hg; repeat' (first | refine aw_seq ?_ | (refine aw_skip ?_; repeat' (first | with_reducible refine thenQ_n ?_ | with_reducible refine blockQ_n ?_ | with_reducible refine thenQ_e ?_ | with_reducible refine blockQ_t ?_ | with_reducible refine blockQ_f (by decide) ?_)) | (refine aw_exit ?_; repeat' (first | with_reducible refine thenQ_n ?_ | with_reducible refine blockQ_n ?_ | with_reducible refine thenQ_e ?_ | with_reducible refine blockQ_t ?_ | with_reducible refine blockQ_f (by decide) ?_)) | refine aw_ret ?_ | refine aw_block ?_ | refine aw_condT rfl ?_ | refine aw_condF rfl ?_ | ((first | refine aw_hide fun K hK => aw_region ?_ | refine acall0 (a1) ?_ | refine ago_if (by omega) ?_ | skip); simp (config := {maxSteps := 10000000}) (disch := first | exact okYes (by kernel_rfl) | omega) only [List.length, Nat.zero_add, Nat.reduceAdd, Nat.reduceMul, dI, ARun_none, AOpRun, aexec, FSt.ev, St.F, eget_c, Nat.reduceBEq, ↓eget_h, cond_false, AGo_ok, St.app, putO, eput_c, eput_n, hups, List.map, Option.map, run1, hget_c, beq_self_eq_true, hget_n, cond_true, List.getElem?_cons_zero, cll, isSh, Bool.false_eq_true, ↓reduceIte, abin, ki, decide_true, ARun_nil, dropE_c, inL_c, inL_n, dropE_n, Int.natCast_nonneg, cla, and_self, opt1, Int.toNat_natCast, g1, dB, List.drop, fits, Bool.not_false, ARun_some, AG_tf, blockQ, thenQ]) | (subst hK; repeat' (first | with_reducible refine thenQ_n ?_ | with_reducible refine blockQ_n ?_ | with_reducible refine thenQ_e ?_ | with_reducible refine blockQ_t ?_ | with_reducible refine blockQ_f (by decide) ?_))))
    all_goals (refine end_to [] [] (by first | exact .inl rfl | exact .inr rfl) rfl (by kernel_rfl) (by kernel_rfl) (by kernel_rfl) ?_ ?_ <;> repeat' (first | exact trivial | exact vr_val _))
  by_cases h2 : Asc x.proofs c.pf.length
  case neg =>
    rw [decide_eq_true h1] at a1
    rw [decide_eq_false h2] at a2
    rw [hno fun h => h2 h.2]
    (have hg : (987654321 : Nat) - 987654321 = 0 := rfl; have hr := hg; repeat' (first | refine aw_seq ?_ | (refine aw_skip ?_; repeat' (first | with_reducible refine thenQ_n ?_ | with_reducible refine blockQ_n ?_ | with_reducible refine thenQ_e ?_ | with_reducible refine blockQ_t ?_ | with_reducible refine blockQ_f (by decide) ?_)) | (refine aw_exit ?_; repeat' (first | with_reducible refine thenQ_n ?_ | with_reducible refine blockQ_n ?_ | with_reducible refine thenQ_e ?_ | with_reducible refine blockQ_t ?_ | with_reducible refine blockQ_f (by decide) ?_)) | refine aw_ret ?_ | refine aw_block ?_ | refine aw_condT rfl ?_ | refine aw_condF rfl ?_ | ((first | refine aw_hide fun K hK => aw_region ?_ | refine acall0 (a1) ?_ | refine acall0 (a2) ?_ | refine ago_if (by omega) ?_ | skip); simp (config := {maxSteps := 10000000}) (disch := first | exact okYes (by kernel_rfl) | omega) only [List.length, Nat.zero_add, Nat.reduceAdd, Nat.reduceMul, dI, ARun_none, AOpRun, aexec, FSt.ev, St.F, eget_c, Nat.reduceBEq, ↓eget_h, cond_false, AGo_ok, St.app, putO, eput_c, eput_n, hups, List.map, Option.map, run1, hget_c, beq_self_eq_true, hget_n, cond_true, List.getElem?_cons_zero, cll, isSh, Bool.false_eq_true, ↓reduceIte, abin, ki, decide_true, ARun_nil, dropE_c, inL_c, inL_n, dropE_n, Int.natCast_nonneg, cla, and_self, opt1, Int.toNat_natCast, g1, dB, List.drop, fits, Bool.not_true, ARun_some, AG_ff, List.getElem?_cons_succ, pfl, Bool.not_false, blockQ, thenQ]) | (subst hK; repeat' (first | with_reducible refine thenQ_n ?_ | with_reducible refine blockQ_n ?_ | with_reducible refine thenQ_e ?_ | with_reducible refine blockQ_t ?_ | with_reducible refine blockQ_f (by decide) ?_))))
    all_goals (refine end_to [] [] (by first | exact .inl rfl | exact .inr rfl) rfl (by kernel_rfl) (by kernel_rfl) (by kernel_rfl) ?_ ?_ <;> repeat' (first | exact trivial | exact vr_val _))
  rw [decide_eq_true h1] at a1
  rw [decide_eq_true h2] at a2
  (have hg : (987654321 : Nat) - 987654321 = 0 := rfl; have hr := hg; repeat' (first | refine aw_seq ?_ | (refine aw_skip ?_; repeat' (first | with_reducible refine thenQ_n ?_ | with_reducible refine blockQ_n ?_ | with_reducible refine thenQ_e ?_ | with_reducible refine blockQ_t ?_ | with_reducible refine blockQ_f (by decide) ?_)) | (refine aw_exit ?_; repeat' (first | with_reducible refine thenQ_n ?_ | with_reducible refine blockQ_n ?_ | with_reducible refine thenQ_e ?_ | with_reducible refine blockQ_t ?_ | with_reducible refine blockQ_f (by decide) ?_)) | refine aw_ret ?_ | refine aw_block ?_ | refine aw_condT rfl ?_ | refine aw_condF rfl ?_ | ((first | refine aw_hide fun K hK => aw_region ?_ | refine acall0 (a1) ?_ | refine acall0 (a2) ?_ | refine ago_if (by omega) ?_ | skip); simp (config := {maxSteps := 10000000}) (disch := first | exact okYes (by kernel_rfl) | omega) only [List.length, Nat.zero_add, Nat.reduceAdd, Nat.reduceMul, dI, ARun_none, AOpRun, aexec, FSt.ev, St.F, eget_c, Nat.reduceBEq, ↓eget_h, cond_false, AGo_ok, St.app, putO, eput_c, eput_n, hups, List.map, Option.map, run1, hget_c, beq_self_eq_true, hget_n, cond_true, List.getElem?_cons_zero, cll, isSh, Bool.false_eq_true, ↓reduceIte, abin, ki, decide_true, ARun_nil, dropE_c, inL_c, inL_n, dropE_n, Int.natCast_nonneg, cla, and_self, opt1, Int.toNat_natCast, g1, dB, List.drop, fits, Bool.not_true, ARun_some, AG_ff, List.getElem?_cons_succ, pfl]) | (subst hK; repeat' (first | with_reducible refine thenQ_n ?_ | with_reducible refine blockQ_n ?_ | with_reducible refine thenQ_e ?_ | with_reducible refine blockQ_t ?_ | with_reducible refine blockQ_f (by decide) ?_))))
  refine ⟨k + 1, ⟨by omega, hyes h1 h2⟩, by omega, ?_⟩
  refine wk_to [] [(0, 0)] (by kernel_rfl) (by kernel_rfl) (by kernel_rfl) (by kernel_rfl) (by kernel_rfl) ?_ ?_ <;> repeat' (first | exact trivial | exact vr_val _ | exact vr_list _ | exact vr_ptr _ _ _ rfl | refine And.intro ⟨_, rfl, .inl ⟨_, rfl, by decide, ?_⟩⟩ ?_ | apply And.intro)
set_option maxRecDepth 100000 in
set_option maxHeartbeats 4000000 in
theorem rclaim_ac (c : Cas) (hc : CasIn c) (claim tick : Int) : AC Try.prog 43 [casD c, dI claim, dI tick] [] [] (dI (clmE c claim tick 122 1)) := by
  refine kref12_CheckClaim.ac (n0 := 0) (by simp) ⟨in_cas _ _, .val _, .val _, trivial⟩ trivial rfl ?_
  have cv := rcase_ac c hc
  have cll := cls_len c.cl
  unfold cref12_CheckClaim clmE
  have hmax : maxLen = 9223372036854775807 := rfl
  have m1 := hc.n1
  unfold casD at *
  by_cases h0 : casE c 122 = 0
  case neg =>
    rw [if_pos h0]
    have q : (casE c 122 != 0) = true := by simpa using h0
    generalize casE c 122 = E at *
    (have hg : (987654321 : Nat) - 987654321 = 0 := rfl; have hr := hg; repeat' (first | refine aw_seq ?_ | (refine aw_skip ?_; repeat' (first | with_reducible refine thenQ_n ?_ | with_reducible refine blockQ_n ?_ | with_reducible refine thenQ_e ?_ | with_reducible refine blockQ_t ?_ | with_reducible refine blockQ_f (by decide) ?_)) | (refine aw_exit ?_; repeat' (first | with_reducible refine thenQ_n ?_ | with_reducible refine blockQ_n ?_ | with_reducible refine thenQ_e ?_ | with_reducible refine blockQ_t ?_ | with_reducible refine blockQ_f (by decide) ?_)) | refine aw_ret ?_ | refine aw_block ?_ | refine aw_condT rfl ?_ | refine aw_condF rfl ?_ | ((first | refine aw_hide fun K hK => aw_region ?_ | refine acall0 (cv) ?_ | refine ago_if (by omega) ?_ | skip); simp (config := {maxSteps := 10000000}) (disch := first | exact okYes (by kernel_rfl) | omega) only [List.length, Nat.zero_add, Nat.reduceAdd, Nat.reduceMul, envOf, dI, ARun_none, AOpRun, aexec, D.isBot, FSt.ev, St.F, ↓eget_h, Bool.false_eq_true, Option.isSome, hget_n, or_self, ↓reduceIte, D.cells, AGo_ok, St.app, putO, eput_c, Nat.reduceBEq, eput_n, cond_false, hups, hput_n, List.map, ARun_nil, dropE_c, inL_n, dropE_n, eget_c, hget_c, beq_self_eq_true, cond_true, Nat.reduceLeDiff, List.drop, List.take, inL_c, isSh, Option.map, abin, q, thenQ]) | (subst hK; repeat' (first | with_reducible refine thenQ_n ?_ | with_reducible refine blockQ_n ?_ | with_reducible refine thenQ_e ?_ | with_reducible refine blockQ_t ?_ | with_reducible refine blockQ_f (by decide) ?_))))
    all_goals (refine end_to [] [] (by first | exact .inl rfl | exact .inr rfl) rfl (by kernel_rfl) (by kernel_rfl) (by kernel_rfl) ?_ ?_ <;> repeat' (first | exact trivial | exact vr_val _))
  rw [h0] at cv
  rw [if_neg (by simp [h0])]
  have w1 := from_ac claim 0 ((c.cl.length : Int) - 1)
  have w2 := from_ac tick 0 2000
  cases h1 : wI claim 0 ((c.cl.length : Int) - 1) with
  | false =>
    rw [h1] at w1
    rw [if_neg fun h => by have := wI_f h1; omega]
    (have hg : (987654321 : Nat) - 987654321 = 0 := rfl; have hr := hg; repeat' (first | refine aw_seq ?_ | (refine aw_skip ?_; repeat' (first | with_reducible refine thenQ_n ?_ | with_reducible refine blockQ_n ?_ | with_reducible refine thenQ_e ?_ | with_reducible refine blockQ_t ?_ | with_reducible refine blockQ_f (by decide) ?_)) | (refine aw_exit ?_; repeat' (first | with_reducible refine thenQ_n ?_ | with_reducible refine blockQ_n ?_ | with_reducible refine thenQ_e ?_ | with_reducible refine blockQ_t ?_ | with_reducible refine blockQ_f (by decide) ?_)) | refine aw_ret ?_ | refine aw_block ?_ | refine aw_condT rfl ?_ | refine aw_condF rfl ?_ | ((first | refine aw_hide fun K hK => aw_region ?_ | refine acall0 (cv) ?_ | refine acall0 (w1) ?_ | refine ago_if (by omega) ?_ | skip); simp (config := {maxSteps := 10000000}) (disch := first | exact okYes (by kernel_rfl) | omega) only [List.length, Nat.zero_add, Nat.reduceAdd, Nat.reduceMul, envOf, dI, ARun_none, AOpRun, aexec, D.isBot, FSt.ev, St.F, ↓eget_h, Bool.false_eq_true, Option.isSome, hget_n, or_self, ↓reduceIte, D.cells, AGo_ok, St.app, putO, eput_c, Nat.reduceBEq, eput_n, cond_false, hups, hput_n, List.map, ARun_nil, dropE_c, inL_n, dropE_n, eget_c, hget_c, beq_self_eq_true, cond_true, Nat.reduceLeDiff, List.drop, List.take, inL_c, isSh, Option.map, abin, bne_self_eq_false, run1, List.getElem?_cons_zero, cll, fits, dB, Bool.not_false, ARun_some, AG_tf, thenQ]) | (subst hK; repeat' (first | with_reducible refine thenQ_n ?_ | with_reducible refine blockQ_n ?_ | with_reducible refine thenQ_e ?_ | with_reducible refine blockQ_t ?_ | with_reducible refine blockQ_f (by decide) ?_))))
    all_goals (refine end_to [] [] (by first | exact .inl rfl | exact .inr rfl) rfl (by kernel_rfl) (by kernel_rfl) (by kernel_rfl) ?_ ?_ <;> repeat' (first | exact trivial | exact vr_val _))
  | true =>
    rw [h1] at w1
    cases h2 : wI tick 0 2000 with
    | false =>
      rw [h2] at w2
      rw [if_neg fun h => by have := wI_f h2; omega]
      (have hg : (987654321 : Nat) - 987654321 = 0 := rfl; have hr := hg; repeat' (first | refine aw_seq ?_ | (refine aw_skip ?_; repeat' (first | with_reducible refine thenQ_n ?_ | with_reducible refine blockQ_n ?_ | with_reducible refine thenQ_e ?_ | with_reducible refine blockQ_t ?_ | with_reducible refine blockQ_f (by decide) ?_)) | (refine aw_exit ?_; repeat' (first | with_reducible refine thenQ_n ?_ | with_reducible refine blockQ_n ?_ | with_reducible refine thenQ_e ?_ | with_reducible refine blockQ_t ?_ | with_reducible refine blockQ_f (by decide) ?_)) | refine aw_ret ?_ | refine aw_block ?_ | refine aw_condT rfl ?_ | refine aw_condF rfl ?_ | ((first | refine aw_hide fun K hK => aw_region ?_ | refine acall0 (cv) ?_ | refine acall0 (w1) ?_ | refine acall0 (w2) ?_ | refine ago_if (by omega) ?_ | skip); simp (config := {maxSteps := 10000000}) (disch := first | exact okYes (by kernel_rfl) | omega) only [List.length, Nat.zero_add, Nat.reduceAdd, Nat.reduceMul, envOf, dI, ARun_none, AOpRun, aexec, D.isBot, FSt.ev, St.F, ↓eget_h, Bool.false_eq_true, Option.isSome, hget_n, or_self, ↓reduceIte, D.cells, AGo_ok, St.app, putO, eput_c, Nat.reduceBEq, eput_n, cond_false, hups, hput_n, List.map, ARun_nil, dropE_c, inL_n, dropE_n, eget_c, hget_c, beq_self_eq_true, cond_true, Nat.reduceLeDiff, List.drop, List.take, inL_c, isSh, Option.map, abin, bne_self_eq_false, run1, List.getElem?_cons_zero, cll, fits, dB, Bool.not_true, ARun_some, AG_ff, Bool.not_false, thenQ]) | (subst hK; repeat' (first | with_reducible refine thenQ_n ?_ | with_reducible refine blockQ_n ?_ | with_reducible refine thenQ_e ?_ | with_reducible refine blockQ_t ?_ | with_reducible refine blockQ_f (by decide) ?_))))
      all_goals (refine end_to [] [] (by first | exact .inl rfl | exact .inr rfl) rfl (by kernel_rfl) (by kernel_rfl) (by kernel_rfl) ?_ ?_ <;> repeat' (first | exact trivial | exact vr_val _))
    | true =>
      rw [h2] at w2
      rw [if_pos (by have := wI_t h1; have := wI_t h2; omega)]
      (have hg : (987654321 : Nat) - 987654321 = 0 := rfl; have hr := hg; repeat' (first | refine aw_seq ?_ | (refine aw_skip ?_; repeat' (first | with_reducible refine thenQ_n ?_ | with_reducible refine blockQ_n ?_ | with_reducible refine thenQ_e ?_ | with_reducible refine blockQ_t ?_ | with_reducible refine blockQ_f (by decide) ?_)) | (refine aw_exit ?_; repeat' (first | with_reducible refine thenQ_n ?_ | with_reducible refine blockQ_n ?_ | with_reducible refine thenQ_e ?_ | with_reducible refine blockQ_t ?_ | with_reducible refine blockQ_f (by decide) ?_)) | refine aw_ret ?_ | refine aw_block ?_ | refine aw_condT rfl ?_ | refine aw_condF rfl ?_ | ((first | refine aw_hide fun K hK => aw_region ?_ | refine acall0 (cv) ?_ | refine acall0 (w1) ?_ | refine acall0 (w2) ?_ | refine ago_if (by omega) ?_ | skip); simp (config := {maxSteps := 10000000}) (disch := first | exact okYes (by kernel_rfl) | omega) only [List.length, Nat.zero_add, Nat.reduceAdd, Nat.reduceMul, envOf, dI, ARun_none, AOpRun, aexec, D.isBot, FSt.ev, St.F, ↓eget_h, Bool.false_eq_true, Option.isSome, hget_n, or_self, ↓reduceIte, D.cells, AGo_ok, St.app, putO, eput_c, Nat.reduceBEq, eput_n, cond_false, hups, hput_n, List.map, ARun_nil, dropE_c, inL_n, dropE_n, eget_c, hget_c, beq_self_eq_true, cond_true, Nat.reduceLeDiff, List.drop, List.take, inL_c, isSh, Option.map, abin, bne_self_eq_false, run1, List.getElem?_cons_zero, cll, fits, dB, Bool.not_true, ARun_some, AG_ff]) | (subst hK; repeat' (first | with_reducible refine thenQ_n ?_ | with_reducible refine blockQ_n ?_ | with_reducible refine thenQ_e ?_ | with_reducible refine blockQ_t ?_ | with_reducible refine blockQ_f (by decide) ?_))))
      all_goals (refine end_to [] [] (by first | exact .inl rfl | exact .inr rfl) rfl (by kernel_rfl) (by kernel_rfl) (by kernel_rfl) ?_ ?_ <;> repeat' (first | exact trivial | exact vr_val _))
end Go.Proofs.Ytdcodicoclecnaa
/- A weaker state within a region that draws its order. No conditions. -/
namespace Go.Proofs.Ytdcodicoclecnaa.Lift
open Go Go.RowKit

theorem wpAny_cut {P : Program} {ops : Array Oper} {base : Nat} {C : Ctx} {K fuel2 : Nat} {L0 : Array Bool} {R : FSt → Prop} {Q' : Exit → Act → World → Prop} (hd : ∀ o ∈ ops, ∀ d, o.dst = some d → d < C.n) (hpl : ∀ o ∈ ops, ∀ c, o.op ≠ .defer c)
    (hR : ∀ s a w β Z, RelS C β Z s a w → FreeB base (fun j => L0.getD j false = true) β → R s → wpAnyIn (Fw C.r) 0 P .any ops Q' fuel2 L0 a w) : ∀ (m : Nat) (listed : Array Bool) (s : FSt) (log : Log) (a : Act) (w : World) (β : Bet) (Z : Blk), listed.size = ops.size →
    RelS C β Z s a w → FreeB base (fun j => listed.getD j false = true) β → aUpTo P ops base K L0 R m listed s log → wpAnyIn (Fw C.r) 0 P .any ops Q' (m + fuel2) listed a w := by
  intro m
  induction m with
  | zero =>
    intro listed s log a w β Z hl h hf ha
    obtain ⟨rfl, h1, h2, h3⟩ := ha
    rw [Nat.zero_add]
    exact hR _ _ _ _ _ h hf h3
  | succ m ih =>
    intro listed s log a w β Z hl h hf ha
    obtain ⟨h1, ⟨j0, h2⟩, h3⟩ := ha
    rw [show m + 1 + fuel2 = (m + fuel2) + 1 by omega]
    refine ⟨fun h0 => (by rw [h0] at h2; cases h2), fun i hi => ?_⟩
    obtain ⟨hun, o, ho, _⟩ := mem_ready.1 hi
    obtain ⟨s', log', hst, hK⟩ := h3 i hi o ho
    have hlt : i < listed.size := by rw [hl]; exact (Array.getElem?_eq_some_iff.1 ho).1
    refine stepA_wpOp (done' := fun j => (listed.setIfInBounds i true).getD j false = true) ho h hd hpl hf ?_ (fun j hj => getD_set_true hj) (by simp [hlt]) hst fun β' Z' a' w' hr hf' => ih _ _ _ _ _ β' Z' (by simp [hl]) hr hf' hK
    simp [hlt] at hun ⊢
    exact hun
/-- the first operations lie before a certain one in each order, the others behind it: between them the state may be made weaker -/
theorem aw_region_cutD {rd : Rd} {P : Program} {n : Nat} {pre : List Nat} {Q : AExit → St → Prop} {s : St} (ops1 : List AOper) (o2 : AOper) (ops2 : List AOper) {drop : List Nat}
    (hg1 : (List.range ops1.length).all (fun i => o2.anc.contains i) = true) (hg2 : ops2.all (fun o => o.anc.contains ops1.length) = true)
    (h : ARun P true s.nx (fun s' => ∃ s0, Wk pre ⟨s'.env, s'.hp, s.nx + 8 * ops1.length⟩ s0 ∧ 8 * ops1.length ≤ s0.nx ∧ ARun P true (s0.nx - 8 * ops1.length) (fun s2 => Q .norm ⟨dropE s2.env drop, s2.hp, s0.nx + 8 * (ops2.length + 1)⟩) (o2 :: ops2) ops1.length s0 []) ops1 0 s []) :
    AWb rd P n pre (.region true (ops1 ++ o2 :: ops2) drop) Q s := fun code keep hc C a w hn hp hd hr => by
  cases code with
  | region id oa draw =>
    simp only [compCode] at hc
    split at hc
    · rename_i al hal
      split at hc
      · rename_i hcond
        cases hc
        obtain ⟨β, Z, hR0, hβ⟩ := hr
        simp only [if_true] at hal
        obtain ⟨hm1, hlexB⟩ := hcond.resolve_left (by simp)
        obtain ⟨ans, hans0⟩ : ∃ ans, ancGo oa.toList [] = ans := ⟨_, rfl⟩
        have hans : ∀ i j, j ∈ (ans[i]?).getD [] → Anc .any oa i j := hans0 ▸ ancGo_sound oa.toList [] (by simp) (by simp)
        rw [hans0] at hal
        obtain ⟨hd', hlen⟩ := compOps_dst _ _ _ hal
        have hpl := compOps_plain _ _ _ hal
        obtain ⟨l1, l2, hl, e1, e2, e3, e4⟩ := compOps_app _ _ _ _ hal
        rw [Nat.zero_add] at e4
        have hdo : ∀ o ∈ oa, ∀ d, o.dst = some d → d < C.n := fun o ho d hdd => hn ▸ hd' o (by simpa using ho) d hdd
        have hplo : ∀ o ∈ oa, ∀ c, o.op ≠ .defer c := fun o ho => hpl o (by simpa using ho)
        have hsz : oa.size = l1.length + l2.length := by have := congrArg List.length hl; simpa using this
        have hl2 : l2.length = ops2.length + 1 := by simpa using e2
        have hget : ∀ j, oa[j]? = (l1 ++ l2)[j]? := fun j => by rw [← hl, Array.getElem?_toList]
        have hKlt : l1.length < oa.size := by omega
        have hancK : o2.anc = (ans[ops1.length]?).getD [] := by
          have := compOps_anc _ _ _ hal ops1.length (by simp)
          simpa using this
        have hanc : ∀ i, i < l1.length → Anc .any oa l1.length i := fun i hi => by
          refine hans _ _ ?_
          rw [e1, ← hancK]
          have := List.all_eq_true.1 hg1 i (by simp; omega)
          simpa using this
        have hdesc : ∀ j, l1.length < j → j < oa.size → Anc .any oa j l1.length := fun j hj hjs => by
          obtain ⟨m, rfl⟩ : ∃ m, j = l1.length + (m + 1) := ⟨j - l1.length - 1, by omega⟩
          have hm : m < ops2.length := by omega
          have h1 := compOps_anc _ _ _ hal (ops1.length + (m + 1)) (by simp; omega)
          rw [List.getElem_append_right (by omega)] at h1
          simp only [Nat.add_sub_cancel_left, List.getElem_cons_succ, Nat.zero_add] at h1
          refine hans _ _ ?_
          rw [e1, ← h1]
          have := List.all_eq_true.1 hg2 _ (List.getElem_mem hm)
          simpa using this
        have hlex : Region.lexFrom .any oa oa.size 0 (firstL oa.size 0) = true := by
          simp only [Region.lexB, Bool.and_eq_true] at hlexB
          rw [firstL_zero]; simpa using hlexB.2
        have hR : RelS C β Z s.F a { w with drawn := w.drawn + 1 } := by
          have h := hR0
          have f : Fr (fun _ => False) w { w with drawn := w.drawn + 1 } := Fr.drawn _ _ _
          exact ⟨h.size, ⟨h.defers.1, fun d hd => (h.defers.2 d hd).mono f (fun _ _ h => h.elim) (fun _ _ h => h)⟩, fun t => (h.env t).mono f (fun _ _ h => h.elim) (Ext.refl β) (fun _ _ h => h), fun g c hc => (h.objs g c hc).mono f (fun _ _ h => h.elim) (fun _ _ h => h) (Ext.refl β) (fun h => h) (fun _ _ => Iff.rfl), h.inj,
            h.fr.trans f (fun _ _ h => h.elim), h.z0, h.old, h.orig, h.ext, h.zlt⟩
        refine wpIn_region_any hm1 ?_
        have hup := wpAny_cut (P := P) (ops := oa) (base := s.nx) (C := C) (K := l1.length) (fuel2 := l2.length) (L0 := firstL oa.size l1.length) (Q' := PostQ C Q) hdo hplo ?_ l1.length (firstL oa.size 0) s.F (fun _ _ => False) a { w with drawn := w.drawn + 1 } β Z (firstL_size _ _) hR (fun g hg hn => absurd (hβ g hg) hn)
          (aUpTo_lex hanc hdesc hKlt l1 0 s.F _ (by simp) (lex_at hlex 0 (by omega)).1 (fun j hj => by rw [Nat.zero_add, hget, List.getElem?_append_left hj]) (by simpa using hlex) (arun_lex hans l1 ops1 0 s [] _ e3 (fun j ef hf => hf.elim) h))
        · rw [firstL_zero, ← hsz] at hup; exact hup
        rintro fs a1 w1 β1 Z1 hR1 hF ⟨s1, rfl, _, s0, hwk, hge, hrun⟩
        obtain ⟨β0, Z0, hR2, hβ0⟩ := hwk C a1 w1 hp ⟨β1, Z1, hR1, fun g hg => by
          cases hb : β1 g with
          | none => rfl
          | some B =>
            simp only at hg
            obtain ⟨j, hj, h1, h2⟩ := hF g (by omega) (by rw [hb]; simp)
            rw [firstL_get] at hj
            split at hj
            · have := of_decide_eq_true hj; omega
            · cases hj⟩
        refine wpAny_of_aAny (P := P) (ops := oa) (dr := true) (base := s0.nx - 8 * ops1.length) (C := C) (Q' := PostQ C Q) hdo hplo
          (Q := fun fs => ∃ s3 : St, fs = s3.F ∧ s3.nx = s0.nx ∧ Q .norm ⟨dropE s3.env _, s3.hp, s0.nx + 8 * (ops2.length + 1)⟩) ?_ l2.length (firstL oa.size l1.length) _ (fun _ _ => False) _ _ β0 Z0 (firstL_size _ _) hR2 (fun g' hg' hn0 => by
            by_cases hgn : s0.nx ≤ g'
            · exact absurd (hβ0 g' hgn) hn0
            · refine ⟨(g' - (s0.nx - 8 * ops1.length)) / 8, ?_, ?_, ?_⟩
              · show (firstL _ _).getD _ _ = true; rw [firstL_get, if_pos (by omega)]; exact decide_eq_true (by omega)
              · omega
              · omega)
          (aAny_lex rfl l2 l1.length _ _ _ (lex_at hlex l1.length (by omega)).1 (fun j => by rw [hget, List.getElem?_append_right (by omega)]; simp)
            (by have := (lex_at hlex l1.length (by omega)).2; rwa [show oa.size - l1.length = l2.length by omega] at this)
            (arun_lex hans l2 (o2 :: ops2) l1.length s0 [] _ (by rw [e1]; exact e4) (fun j ef hf => hf.elim) (by rw [e1]; exact hrun)))
        rintro fs a4 w5 β4 Z4 hR5 hF5 ⟨s3, rfl, _, hQ⟩
        refine ⟨_, hQ, β4, Z4, ⟨hR5.size, hR5.defers, fun t => ?_, hR5.objs, hR5.inj, hR5.fr, hR5.z0, hR5.old, hR5.orig, hR5.ext, hR5.zlt⟩, fun g' hg' => ?_⟩
        · show Rep w5 β4 Z4 _ (eget (dropE s3.env _) t)
          rcases get_drop s3.env _ t with h1 | h1
          · rw [h1]; exact hR5.env t
          · rw [h1]; exact .bot _
        · cases hb : β4 g' with
          | none => rfl
          | some B =>
            simp only at hg'
            obtain ⟨j, hj, h1, h2⟩ := hF5 g' (by omega) (by rw [hb]; simp)
            omega
      · cases hc
    · cases hc
  | seq a b => simp only [compCode] at hc; split at hc <;> cases hc
  | cond c a b => simp only [compCode] at hc; split at hc <;> cases hc
  | block id a => simp [compCode] at hc
  | loop a => simp [compCode] at hc
  | rangeFunc x1 x2 x3 x4 => simp only [compCode] at hc; repeat' (first | (cases hc; done) | split at hc)
  | _ => cases hc
end Go.Proofs.Ytdcodicoclecnaa.Lift
/- law12: a case that is too large; a case in new memory. No conditions. -/
set_option linter.unusedSimpArgs false
set_option linter.unusedVariables false
namespace Go.Proofs.Ytdcodicoclecnaa
open Go Go.RowKit Lift

def farCl (x : Clm) : Bool := decide ((x.needs.length : Int) > 30) || decide ((x.proofs.length : Int) > 30)
def farCas (c : Cas) : Bool := decide ((c.cl.length : Int) > 20) || (decide ((c.pf.length : Int) > 16) || c.cl.any farCl)
/-- what a case has that came in -/
structure CasRaw (c : Cas) : Prop where
  n1 : c.cl.length ≤ maxLen
  n2 : c.pf.length ≤ maxLen
  l1 : ∀ i, (clAt c i).needs.length ≤ maxLen
  l2 : ∀ i, (clAt c i).proofs.length ≤ maxLen
theorem far_no {c : Cas} (h : farCas c = false) : c.cl.length ≤ 20 ∧ c.pf.length ≤ 16 ∧ ∀ i, (clAt c i).needs.length ≤ 30 ∧ (clAt c i).proofs.length ≤ 30 := by
  unfold farCas at h
  simp only [Bool.or_eq_false_iff, decide_eq_false_iff_not, List.any_eq_false] at h
  obtain ⟨h1, h2, h3⟩ := h
  refine ⟨by omega, by omega, fun i => ?_⟩
  unfold clAt
  by_cases hi : i < c.cl.length
  · have := h3 _ (List.getElem_mem hi)
    unfold farCl at this
    simp only [Bool.not_eq_true, Bool.or_eq_false_iff, decide_eq_false_iff_not] at this
    rw [List.getElem?_eq_getElem hi]
    exact ⟨by have := this.1; simp only [Option.getD_some]; omega, by have := this.2; simp only [Option.getD_some]; omega⟩
  · rw [List.getElem?_eq_none (by omega)]
    simp [cl0]
theorem far_in {c : Cas} (h : farCas c = false) : CasIn c := by
  obtain ⟨h1, h2, h3⟩ := far_no h
  have hmax : maxLen = 9223372036854775807 := rfl
  exact ⟨by omega, by omega, fun i => by have := (h3 i).1; omega, fun i => by have := (h3 i).2; omega⟩
set_option maxRecDepth 100000 in
set_option maxHeartbeats 2000000 in
theorem farC_ac (c : Cas) (hw : CasRaw c) : AC Try.prog 33 [casD c] [] [] (dB (farCas c)) := by
  refine klaw12_FarCase.ac (n0 := 0) (by simp) ⟨in_cas _ _, trivial⟩ trivial rfl ?_
  unfold claw12_FarCase casD farCas
  have hmax : maxLen = 9223372036854775807 := rfl
  have m1 := hw.n1
  have m2 := hw.n2
  have cll := cls_len c.cl
  have cla := cls_all c.cl
  have pfl := sps_len c.pf
  cases q1 : decide ((c.cl.length : Int) > 20) with
  | true =>
    simp only [Bool.true_or]
    (have hg : (987654321 : Nat) - 987654321 = 0 := rfl; have hr := hg; repeat' (first | refine aw_seq ?_ | (refine aw_skip ?_; repeat' (first | with_reducible refine thenQ_n ?_ | with_reducible refine blockQ_n ?_ | with_reducible refine thenQ_e ?_ | with_reducible refine blockQ_t ?_ | with_reducible refine blockQ_f (by decide) ?_)) | (refine aw_exit ?_; repeat' (first | with_reducible refine thenQ_n ?_ | with_reducible refine blockQ_n ?_ | with_reducible refine thenQ_e ?_ | with_reducible refine blockQ_t ?_ | with_reducible refine blockQ_f (by decide) ?_)) | refine aw_ret ?_ | refine aw_block ?_ | refine aw_condT rfl ?_ | refine aw_condF rfl ?_ | ((first | refine aw_hide fun K hK => aw_region ?_ | refine ago_if (by omega) ?_ | skip); simp (config := {maxSteps := 10000000}) (disch := first | exact okYes (by kernel_rfl) | omega) only [List.length, Nat.zero_add, Nat.reduceAdd, Nat.reduceMul, envOf, ARun_none, AOpRun, aexec, D.isBot, FSt.ev, St.F, ↓eget_h, Bool.false_eq_true, Option.isSome, hget_n, or_self, ↓reduceIte, D.cells, AGo_ok, St.app, putO, eput_c, Nat.reduceBEq, eput_n, cond_false, hups, hput_n, List.map, ARun_nil, dropE_c, inL_n, dropE_n, eget_c, Option.map, run1, hget_c, beq_self_eq_true, cond_true, List.getElem?_cons_zero, cll, isSh, abin, q1, ARun_some, AG_tf, inL_c, thenQ, dB]) | (subst hK; repeat' (first | with_reducible refine thenQ_n ?_ | with_reducible refine blockQ_n ?_ | with_reducible refine thenQ_e ?_ | with_reducible refine blockQ_t ?_ | with_reducible refine blockQ_f (by decide) ?_))))
    all_goals (refine end_to [] [] (by first | exact .inl rfl | exact .inr rfl) rfl (by kernel_rfl) (by kernel_rfl) (by kernel_rfl) ?_ ?_ <;> repeat' (first | exact trivial | exact vr_val _))
  | false =>
  cases q2 : decide ((c.pf.length : Int) > 16) with
  | true =>
    simp only [Bool.true_or, Bool.or_true]
    (have hg : (987654321 : Nat) - 987654321 = 0 := rfl; have hr := hg; repeat' (first | refine aw_seq ?_ | (refine aw_skip ?_; repeat' (first | with_reducible refine thenQ_n ?_ | with_reducible refine blockQ_n ?_ | with_reducible refine thenQ_e ?_ | with_reducible refine blockQ_t ?_ | with_reducible refine blockQ_f (by decide) ?_)) | (refine aw_exit ?_; repeat' (first | with_reducible refine thenQ_n ?_ | with_reducible refine blockQ_n ?_ | with_reducible refine thenQ_e ?_ | with_reducible refine blockQ_t ?_ | with_reducible refine blockQ_f (by decide) ?_)) | refine aw_ret ?_ | refine aw_block ?_ | refine aw_condT rfl ?_ | refine aw_condF rfl ?_ | ((first | refine aw_hide fun K hK => aw_region ?_ | refine ago_if (by omega) ?_ | skip); simp (config := {maxSteps := 10000000}) (disch := first | exact okYes (by kernel_rfl) | omega) only [List.length, Nat.zero_add, Nat.reduceAdd, Nat.reduceMul, envOf, ARun_none, AOpRun, aexec, D.isBot, FSt.ev, St.F, ↓eget_h, Bool.false_eq_true, Option.isSome, hget_n, or_self, ↓reduceIte, D.cells, AGo_ok, St.app, putO, eput_c, Nat.reduceBEq, eput_n, cond_false, hups, hput_n, List.map, ARun_nil, dropE_c, inL_n, dropE_n, eget_c, Option.map, run1, hget_c, beq_self_eq_true, cond_true, List.getElem?_cons_zero, cll, isSh, abin, q1, ARun_some, AG_ff, List.getElem?_cons_succ, pfl, q2, inL_c, thenQ, dB]) | (subst hK; repeat' (first | with_reducible refine thenQ_n ?_ | with_reducible refine blockQ_n ?_ | with_reducible refine thenQ_e ?_ | with_reducible refine blockQ_t ?_ | with_reducible refine blockQ_f (by decide) ?_))))
    all_goals (refine end_to [] [] (by first | exact .inl rfl | exact .inr rfl) rfl (by kernel_rfl) (by kernel_rfl) (by kernel_rfl) ?_ ?_ <;> repeat' (first | exact trivial | exact vr_val _))
  | false =>
  simp only [Bool.false_or]
  (have hg : (987654321 : Nat) - 987654321 = 0 := rfl; have hr := hg; repeat' (first | refine aw_seq ?_ | (refine aw_skip ?_; repeat' (first | with_reducible refine thenQ_n ?_ | with_reducible refine blockQ_n ?_ | with_reducible refine thenQ_e ?_ | with_reducible refine blockQ_t ?_ | with_reducible refine blockQ_f (by decide) ?_)) | (refine aw_exit ?_; repeat' (first | with_reducible refine thenQ_n ?_ | with_reducible refine blockQ_n ?_ | with_reducible refine thenQ_e ?_ | with_reducible refine blockQ_t ?_ | with_reducible refine blockQ_f (by decide) ?_)) | refine aw_ret ?_ | refine aw_block ?_ | refine aw_condT rfl ?_ | refine aw_condF rfl ?_ | ((first | refine aw_hide fun K hK => aw_region ?_ | refine ago_if (by omega) ?_ | skip); simp (config := {maxSteps := 10000000}) (disch := first | exact okYes (by kernel_rfl) | omega) only [List.length, Nat.zero_add, Nat.reduceAdd, Nat.reduceMul, envOf, ARun_none, AOpRun, aexec, D.isBot, FSt.ev, St.F, ↓eget_h, Bool.false_eq_true, Option.isSome, hget_n, or_self, ↓reduceIte, D.cells, AGo_ok, St.app, putO, eput_c, Nat.reduceBEq, eput_n, cond_false, hups, hput_n, List.map, ARun_nil, dropE_c, inL_n, dropE_n, eget_c, Option.map, run1, hget_c, beq_self_eq_true, cond_true, List.getElem?_cons_zero, cll, isSh, abin, q1, ARun_some, AG_ff, List.getElem?_cons_succ, pfl, q2, inL_c, dB]) | (subst hK; repeat' (first | with_reducible refine thenQ_n ?_ | with_reducible refine blockQ_n ?_ | with_reducible refine thenQ_e ?_ | with_reducible refine blockQ_t ?_ | with_reducible refine blockQ_f (by decide) ?_))))
  refine aw_loop (fun k : Nat => ⟨[(1, .ptr 0 0), (3, dI k)], [(0, [.list (cls c.cl), .list (sps c.pf)])], 400⟩) (fun k => k ≤ c.cl.length ∧ ∀ j, j < k → farCl (clAt c j) = false) (fun k => c.cl.length - k) ⟨0, ⟨by omega, fun j hj => by omega⟩, ?_⟩ ?_
  · unfold dI
    refine wk_to [] [(0, 0)] (by kernel_rfl) (by kernel_rfl) (by kernel_rfl) (by kernel_rfl) (by kernel_rfl) ?_ ?_ <;> repeat' (first | exact trivial | exact vr_val _ | exact vr_list _ | exact vr_ptr _ _ _ rfl | refine And.intro ⟨_, rfl, .inl ⟨_, rfl, by decide, ?_⟩⟩ ?_ | apply And.intro)
  rintro k ⟨hk, hin⟩
  by_cases hk2 : k < c.cl.length
  case neg =>
    obtain rfl : k = c.cl.length := by omega
    have e : c.cl.any farCl = false := List.any_eq_false.2 fun x hx => by
      obtain ⟨j, hj, rfl⟩ := List.getElem_of_mem hx
      have := hin j hj
      simp only [clAt, hj, List.getElem?_eq_getElem, Option.getD_some] at this
      rw [this]; simp
    rw [e]
    (have hg : (987654321 : Nat) - 987654321 = 0 := rfl; have hr := hg; repeat' (first | refine aw_seq ?_ | (refine aw_skip ?_; repeat' (first | with_reducible refine thenQ_n ?_ | with_reducible refine blockQ_n ?_ | with_reducible refine thenQ_e ?_ | with_reducible refine blockQ_t ?_ | with_reducible refine blockQ_f (by decide) ?_)) | (refine aw_exit ?_; repeat' (first | with_reducible refine thenQ_n ?_ | with_reducible refine blockQ_n ?_ | with_reducible refine thenQ_e ?_ | with_reducible refine blockQ_t ?_ | with_reducible refine blockQ_f (by decide) ?_)) | refine aw_ret ?_ | refine aw_block ?_ | refine aw_condT rfl ?_ | refine aw_condF rfl ?_ | (refine aw_cond rfl (fun hg => ?_) (fun hg => ?_) <;> (try (have hq := hg; simp only [Bool.not_eq_true', Bool.not_eq_false', Bool.and_eq_true, Bool.and_eq_false_iff, Bool.or_eq_true, Bool.or_eq_false_iff, decide_eq_true_eq, decide_eq_false_iff_not, bne_iff_ne, beq_iff_eq, beq_eq_false_iff_ne, bne_eq_false_iff_eq, ne_eq, Int.not_lt, Int.not_le, Decidable.not_not] at hq)) <;> (try (have hr := hg; simp only [decide_eq_true_eq, decide_eq_false_iff_not] at hr)) <;> (try (exfalso; omega))) | ((first | refine aw_hide fun K hK => aw_region ?_ | refine ago_if (by omega) ?_ | skip); simp (config := {maxSteps := 10000000}) (disch := first | exact okYes (by kernel_rfl) | omega) only [List.length, Nat.zero_add, Nat.reduceAdd, Nat.reduceMul, dI, ARun_none, AOpRun, aexec, FSt.ev, St.F, eget_c, Nat.reduceBEq, ↓eget_h, cond_false, AGo_ok, St.app, putO, eput_c, eput_n, hups, List.map, Option.map, run1, hget_c, beq_self_eq_true, hget_n, cond_true, List.getElem?_cons_zero, cll, isSh, Bool.false_eq_true, ↓reduceIte, abin, ARun_nil, dropE_c, inL_c, inL_n, dropE_n, hr, decide_false]) | (subst hK; repeat' (first | with_reducible refine thenQ_n ?_ | with_reducible refine blockQ_n ?_ | with_reducible refine thenQ_e ?_ | with_reducible refine blockQ_t ?_ | with_reducible refine blockQ_f (by decide) ?_))))
    all_goals (refine end_to [] [] (by first | exact .inl rfl | exact .inr rfl) rfl (by kernel_rfl) (by kernel_rfl) (by kernel_rfl) ?_ ?_ <;> repeat' (first | exact trivial | exact vr_val _))
  have g1 : (cls c.cl)[k]? = some (clC (clAt c k)) := cls_gd c.cl k hk2
  unfold clC at g1
  have l1 := hw.l1 k
  have l2 := hw.l2 k
  have ki : (k : Int) < (c.cl.length : Int) := by omega
  have hno : farCl (clAt c k) = true → c.cl.any farCl = true := fun h => List.any_eq_true.2 ⟨c.cl[k], List.getElem_mem hk2, by
    simp only [clAt, hk2, List.getElem?_eq_getElem, Option.getD_some] at h
    exact h⟩
  have hyes : farCl (clAt c k) = false → ∀ j, j < k + 1 → farCl (clAt c j) = false := fun h j hj => by
    rcases (by omega : j < k ∨ j = k) with h1 | rfl
    · exact hin j h1
    · exact h
  clear hin
  unfold farCl at hno hyes
  generalize clAt c k = x at g1 l1 l2 hno hyes
  have nl := ints_len x.needs
  have pl := ints_len x.proofs
  cases h1 : decide ((x.needs.length : Int) > 30) with
  | true =>
    have e := hno (by rw [h1]; rfl)
    unfold farCl at e ⊢
    rw [e]
    (have hg : (987654321 : Nat) - 987654321 = 0 := rfl; have hr := hg; repeat' (first | refine aw_seq ?_ | (refine aw_skip ?_; repeat' (first | with_reducible refine thenQ_n ?_ | with_reducible refine blockQ_n ?_ | with_reducible refine thenQ_e ?_ | with_reducible refine blockQ_t ?_ | with_reducible refine blockQ_f (by decide) ?_)) | (refine aw_exit ?_; repeat' (first | with_reducible refine thenQ_n ?_ | with_reducible refine blockQ_n ?_ | with_reducible refine thenQ_e ?_ | with_reducible refine blockQ_t ?_ | with_reducible refine blockQ_f (by decide) ?_)) | refine aw_ret ?_ | refine aw_block ?_ | refine aw_condT rfl ?_ | refine aw_condF rfl ?_ | ((first | refine aw_hide fun K hK => aw_region ?_ | refine ago_if (by omega) ?_ | skip); simp (config := {maxSteps := 10000000}) (disch := first | exact okYes (by kernel_rfl) | omega) only [List.length, Nat.zero_add, Nat.reduceAdd, Nat.reduceMul, dI, ARun_none, AOpRun, aexec, FSt.ev, St.F, eget_c, Nat.reduceBEq, ↓eget_h, cond_false, AGo_ok, St.app, putO, eput_c, eput_n, hups, List.map, Option.map, run1, hget_c, beq_self_eq_true, hget_n, cond_true, List.getElem?_cons_zero, cll, isSh, Bool.false_eq_true, ↓reduceIte, abin, ki, decide_true, ARun_nil, dropE_c, inL_c, inL_n, dropE_n, Int.natCast_nonneg, cla, and_self, opt1, Int.toNat_natCast, g1, dB, List.drop, nl, h1, ARun_some, AG_tf, blockQ, thenQ]) | (subst hK; repeat' (first | with_reducible refine thenQ_n ?_ | with_reducible refine blockQ_n ?_ | with_reducible refine thenQ_e ?_ | with_reducible refine blockQ_t ?_ | with_reducible refine blockQ_f (by decide) ?_))))
    all_goals (refine end_to [] [] (by first | exact .inl rfl | exact .inr rfl) rfl (by kernel_rfl) (by kernel_rfl) (by kernel_rfl) ?_ ?_ <;> repeat' (first | exact trivial | exact vr_val _))
  | false =>
  cases h2 : decide ((x.proofs.length : Int) > 30) with
  | true =>
    have e := hno (by rw [h1, h2]; rfl)
    unfold farCl at e ⊢
    rw [e]
    (have hg : (987654321 : Nat) - 987654321 = 0 := rfl; have hr := hg; repeat' (first | refine aw_seq ?_ | (refine aw_skip ?_; repeat' (first | with_reducible refine thenQ_n ?_ | with_reducible refine blockQ_n ?_ | with_reducible refine thenQ_e ?_ | with_reducible refine blockQ_t ?_ | with_reducible refine blockQ_f (by decide) ?_)) | (refine aw_exit ?_; repeat' (first | with_reducible refine thenQ_n ?_ | with_reducible refine blockQ_n ?_ | with_reducible refine thenQ_e ?_ | with_reducible refine blockQ_t ?_ | with_reducible refine blockQ_f (by decide) ?_)) | refine aw_ret ?_ | refine aw_block ?_ | refine aw_condT rfl ?_ | refine aw_condF rfl ?_ | ((first | refine aw_hide fun K hK => aw_region ?_ | refine ago_if (by omega) ?_ | skip); simp (config := {maxSteps := 10000000}) (disch := first | exact okYes (by kernel_rfl) | omega) only [List.length, Nat.zero_add, Nat.reduceAdd, Nat.reduceMul, dI, ARun_none, AOpRun, aexec, FSt.ev, St.F, eget_c, Nat.reduceBEq, ↓eget_h, cond_false, AGo_ok, St.app, putO, eput_c, eput_n, hups, List.map, Option.map, run1, hget_c, beq_self_eq_true, hget_n, cond_true, List.getElem?_cons_zero, cll, isSh, Bool.false_eq_true, ↓reduceIte, abin, ki, decide_true, ARun_nil, dropE_c, inL_c, inL_n, dropE_n, Int.natCast_nonneg, cla, and_self, opt1, Int.toNat_natCast, g1, dB, List.drop, nl, h1, ARun_some, AG_ff, pl, h2, blockQ, thenQ]) | (subst hK; repeat' (first | with_reducible refine thenQ_n ?_ | with_reducible refine blockQ_n ?_ | with_reducible refine thenQ_e ?_ | with_reducible refine blockQ_t ?_ | with_reducible refine blockQ_f (by decide) ?_))))
    all_goals (refine end_to [] [] (by first | exact .inl rfl | exact .inr rfl) rfl (by kernel_rfl) (by kernel_rfl) (by kernel_rfl) ?_ ?_ <;> repeat' (first | exact trivial | exact vr_val _))
  | false =>
    have hy := hyes (by rw [h1, h2]; rfl)
    (have hg : (987654321 : Nat) - 987654321 = 0 := rfl; have hr := hg; repeat' (first | refine aw_seq ?_ | (refine aw_skip ?_; repeat' (first | with_reducible refine thenQ_n ?_ | with_reducible refine blockQ_n ?_ | with_reducible refine thenQ_e ?_ | with_reducible refine blockQ_t ?_ | with_reducible refine blockQ_f (by decide) ?_)) | (refine aw_exit ?_; repeat' (first | with_reducible refine thenQ_n ?_ | with_reducible refine blockQ_n ?_ | with_reducible refine thenQ_e ?_ | with_reducible refine blockQ_t ?_ | with_reducible refine blockQ_f (by decide) ?_)) | refine aw_ret ?_ | refine aw_block ?_ | refine aw_condT rfl ?_ | refine aw_condF rfl ?_ | ((first | refine aw_hide fun K hK => aw_region ?_ | refine ago_if (by omega) ?_ | skip); simp (config := {maxSteps := 10000000}) (disch := first | exact okYes (by kernel_rfl) | omega) only [List.length, Nat.zero_add, Nat.reduceAdd, Nat.reduceMul, dI, ARun_none, AOpRun, aexec, FSt.ev, St.F, eget_c, Nat.reduceBEq, ↓eget_h, cond_false, AGo_ok, St.app, putO, eput_c, eput_n, hups, List.map, Option.map, run1, hget_c, beq_self_eq_true, hget_n, cond_true, List.getElem?_cons_zero, cll, isSh, Bool.false_eq_true, ↓reduceIte, abin, ki, decide_true, ARun_nil, dropE_c, inL_c, inL_n, dropE_n, Int.natCast_nonneg, cla, and_self, opt1, Int.toNat_natCast, g1, dB, List.drop, nl, h1, ARun_some, AG_ff, pl, h2, fits]) | (subst hK; repeat' (first | with_reducible refine thenQ_n ?_ | with_reducible refine blockQ_n ?_ | with_reducible refine thenQ_e ?_ | with_reducible refine blockQ_t ?_ | with_reducible refine blockQ_f (by decide) ?_))))
    refine ⟨k + 1, ⟨by omega, hy⟩, by omega, ?_⟩
    refine wk_to [] [(0, 0)] (by kernel_rfl) (by kernel_rfl) (by kernel_rfl) (by kernel_rfl) (by kernel_rfl) ?_ ?_ <;> repeat' (first | exact trivial | exact vr_val _ | exact vr_list _ | exact vr_ptr _ _ _ rfl | refine And.intro ⟨_, rfl, .inl ⟨_, rfl, by decide, ?_⟩⟩ ?_ | apply And.intro)
theorem sc_leaf (b : List (Int × Int)) : (scells b).all D.leaf = true := by
  rw [List.all_eq_true]
  intro d hd
  obtain ⟨n, rfl⟩ := scells_mem hd
  rfl
theorem clcells_in (l : List Clm) : ∀ d ∈ clcells l, In (fun _ => False) d := by
  intro d hd
  unfold clcells at hd
  obtain ⟨x, _, hx⟩ := List.mem_flatMap.1 hd
  simp only [clC, List.mem_cons, List.not_mem_nil, or_false] at hx
  rcases hx with rfl | rfl | rfl
  · exact .list _
  · exact .list _
  · exact .val _
theorem clcells_len (l : List Clm) : (clcells l).length = l.length * 3 := by
  unfold clcells
  induction l with
  | nil => rfl
  | cons x l ih => rw [List.flatMap_cons, List.length_append, ih, List.length_cons]; simp [clC]; omega
theorem clcells_snoc (l : List Clm) (x : Clm) : clcells (l ++ [x]) = clcells l ++ [.list (ints x.needs), .list (ints x.proofs), dB x.any] := by
  unfold clcells
  rw [List.flatMap_append]; rfl
set_option maxRecDepth 100000 in
set_option maxHeartbeats 4000000 in
theorem copyC_ac (c : Cas) (hf : farCas c = false) : AC Try.prog 34 [casD c] [] [] (casD c) := by
  refine kref12_CopyCase.ac (n0 := 0) (by simp) ⟨in_cas _ _, trivial⟩ trivial rfl ?_
  unfold cref12_CopyCase casD
  obtain ⟨h1, h2, h3⟩ := far_no hf
  have cll := cls_len c.cl
  have cla := cls_all c.cl
  have pfl := sps_len c.pf
  have pfa := sps_all c.pf
  have pff := sps_flat c.pf
  have pfc := sc_leaf c.pf
  refine aw_seq (aw_region ?_)
  simp (config := {maxSteps := 10000000}) (disch := first | exact okYes (by kernel_rfl) | omega) only [thenQ, List.map, List.length, Nat.zero_add, Nat.reduceAdd, Nat.reduceMul, envOf, ARun_none, AOpRun, aexec, D.isBot, FSt.ev, St.F, ↓eget_h, Bool.false_eq_true, Option.isSome, hget_n, or_self, ↓reduceIte, D.cells, AGo_ok, St.app, putO, eput_c, Nat.reduceBEq, eput_n, cond_false, hups, hput_n, hget_c, hput_c, ARun_nil, dropE_c, inL_n, dropE_n]
  refine aw_seq (aw_region ?_)
  simp (config := {maxSteps := 10000000}) (disch := first | exact okYes (by kernel_rfl) | omega) only [thenQ, List.length, Nat.zero_add, Nat.reduceAdd, Nat.reduceMul, ARun_none, AOpRun, aexec, Option.isSome, hget_c, Nat.reduceBEq, hget_n, cond_false, Bool.false_eq_true, ↓reduceIte, Option.map, fillD, AGo_ok, St.app, putO, eput_c, eput_n, hups, hput_c, hput_n, List.map, FSt.ev, St.F, eget_c, ↓eget_h, run1, beq_self_eq_true, cond_true, List.getElem?_cons_succ, List.getElem?_cons_zero, base, ↓hget_h, Nat.zero_le, and_self, List.take, elems, pfa, pfl, pff, pfc, and_true, ups, List.nil_append, List.cons_append]
  refine ago_if (by omega) ?_
  simp (config := {maxSteps := 10000000}) (disch := first | exact okYes (by kernel_rfl) | omega) only [AGo_ok, Nat.reduceAdd, St.app, putO, eput_c, Nat.reduceBEq, eput_n, cond_false, hups, hput_c, hput_n, hdel_c, beq_self_eq_true, hdel_n, cond_true, List.map, ARun_none, AOpRun, aexec, Option.map, fillD, D.isBot, FSt.ev, St.F, eget_c, ↓eget_h, Bool.false_eq_true, D.cells, List.length, Nat.zero_add, ne_eq, not_true_eq_false, Nat.reduceGT, or_self, ↓reduceIte, splice, List.take, List.cons_append, List.nil_append, List.drop, List.append_nil, Option.isSome, Nat.reduceMul, hget_c, hget_n, ↓hget_h, Nat.reduceLeDiff, List.all, D.leaf, Bool.and_true, and_self, ARun_nil, dropE_c, inL_c, inL_n, dropE_n]
  refine aw_seq (aw_seq (aw_region ?_))
  simp (config := {maxSteps := 10000000}) (disch := first | exact okYes (by kernel_rfl) | omega) only [thenQ, List.length, Nat.zero_add, Nat.reduceMul, Nat.reduceAdd, ARun_none, AOpRun, aexec, FSt.ev, AGo_ok, St.app, putO, eput_c, Nat.reduceBEq, eput_n, cond_false, hups, List.map, ARun_nil, dropE_c, inL_n, dropE_n]
  refine aw_block ?_
  refine aw_loop (fun k : Nat => ⟨[(1, .ptr 0 0), (2, .ptr 8 0), (3, .ptr 16 0), (4, dI k)], [(0, [.list (cls c.cl), .list (sps c.pf)]), (8, [.val (.slice none 0 0), .val (.slice none 0 0)]), (16, [.vec 24 k 3, .list (sps c.pf)]), (24, clcells (c.cl.take k))], 400⟩) (fun k => k ≤ c.cl.length) (fun k => c.cl.length - k) ⟨0, by omega, ?_⟩ ?_
  · show Wk _ _ ⟨_, [_, _, _, (24, [])], _⟩
    unfold dI
    refine wk_to [40] [(0, 0), (8, 8), (16, 56), (24, 900)] (by kernel_rfl) (by kernel_rfl) (by kernel_rfl) (by kernel_rfl) (by kernel_rfl) ?_ ?_ <;> repeat' (first | exact trivial | exact vr_val _ | exact vr_list _ | exact vr_ptr _ _ _ rfl | exact vr_nilv _ _ _ rfl | refine vr_fl _ _ _ _ _ (by decide) rfl ?_ ?_ ?_ ?_ | refine And.intro ⟨_, rfl, .inl ⟨_, rfl, by decide, ?_⟩⟩ ?_ | refine And.intro ⟨_, rfl, .inr ⟨rfl, rfl, of_decide_eq_true (by kernel_rfl)⟩⟩ ?_ | apply And.intro)
    all_goals first | exact sps_two _ | exact sps_len _ | exact sps_flat _ | exact scells_in _
  intro k hk
  by_cases hk2 : k < c.cl.length
  case neg =>
    obtain rfl : k = c.cl.length := by omega
    rw [List.take_of_length_le (Nat.le_refl _)]
    (have hg : (987654321 : Nat) - 987654321 = 0 := rfl; have hr := hg; repeat' (first | refine aw_seq ?_ | (refine aw_skip ?_; repeat' (first | with_reducible refine thenQ_n ?_ | with_reducible refine blockQ_n ?_ | with_reducible refine thenQ_e ?_ | with_reducible refine blockQ_t ?_ | with_reducible refine blockQ_f (by decide) ?_)) | (refine aw_exit ?_; repeat' (first | with_reducible refine thenQ_n ?_ | with_reducible refine blockQ_n ?_ | with_reducible refine thenQ_e ?_ | with_reducible refine blockQ_t ?_ | with_reducible refine blockQ_f (by decide) ?_)) | refine aw_ret ?_ | refine aw_block ?_ | refine aw_condT rfl ?_ | refine aw_condF rfl ?_ | (refine aw_cond rfl (fun hg => ?_) (fun hg => ?_) <;> (try (have hq := hg; simp only [Bool.not_eq_true', Bool.not_eq_false', Bool.and_eq_true, Bool.and_eq_false_iff, Bool.or_eq_true, Bool.or_eq_false_iff, decide_eq_true_eq, decide_eq_false_iff_not, bne_iff_ne, beq_iff_eq, beq_eq_false_iff_ne, bne_eq_false_iff_eq, ne_eq, Int.not_lt, Int.not_le, Decidable.not_not] at hq)) <;> (try (have hr := hg; simp only [decide_eq_true_eq, decide_eq_false_iff_not] at hr)) <;> (try (exfalso; omega))) | ((first | refine aw_hide fun K hK => aw_region ?_ | refine ago_if (by omega) ?_ | skip); simp (config := {maxSteps := 10000000}) (disch := first | exact okYes (by kernel_rfl) | omega) only [List.length, Nat.zero_add, Nat.reduceAdd, Nat.reduceMul, dI, ARun_none, AOpRun, aexec, FSt.ev, St.F, eget_c, Nat.reduceBEq, ↓eget_h, cond_false, AGo_ok, St.app, putO, eput_c, eput_n, hups, List.map, Option.map, run1, hget_c, beq_self_eq_true, hget_n, cond_true, List.getElem?_cons_zero, cll, isSh, Bool.false_eq_true, ↓reduceIte, abin, ARun_nil, dropE_c, inL_c, inL_n, dropE_n, hr, decide_false, ↓hget_h, Nat.reduceLeDiff, List.drop, List.take, D.isBot, D.cells, List.all, D.leaf, Bool.and_true, and_self, splice, List.nil_append, List.append_nil, hput_c, hput_n]) | (subst hK; repeat' (first | with_reducible refine thenQ_n ?_ | with_reducible refine blockQ_n ?_ | with_reducible refine thenQ_e ?_ | with_reducible refine blockQ_t ?_ | with_reducible refine blockQ_f (by decide) ?_))))
    refine end_to [24] [] (by first | exact .inl rfl | exact .inr rfl) rfl (by kernel_rfl) (by kernel_rfl) (by kernel_rfl) ?_ ?_ <;> repeat' (first | exact trivial | exact vr_list _ | apply vr_agg | refine vr_fl _ _ _ _ _ (by decide) rfl ?_ ?_ ?_ ?_ | apply And.intro)
    all_goals first | exact cls_three _ | exact cls_len _ | exact cls_flat _ | exact clcells_in _
  have g1 : (cls c.cl)[k]? = some (clC (clAt c k)) := cls_gd c.cl k hk2
  unfold clC at g1
  obtain ⟨l1, l2⟩ := h3 k
  have ki : (k : Int) < (c.cl.length : Int) := by omega
  have hsn : clcells (c.cl.take (k + 1)) = clcells (c.cl.take k) ++ [.list (ints (clAt c k).needs), .list (ints (clAt c k).proofs), dB (clAt c k).any] := by
    rw [← clcells_snoc, List.take_add_one]
    unfold clAt
    simp [hk2]
  have hcl1 : (clcells (c.cl.take k)).length = k * 3 := by rw [clcells_len, List.length_take]; omega
  have hct : (clcells (c.cl.take k)).take (k * 3) = clcells (c.cl.take k) := List.take_of_length_le (by omega)
  have hcin := clcells_in (c.cl.take k)
  have hcin2 := clcells_in (c.cl.take (k + 1))
  rw [hsn] at hcin2
  generalize clAt c k = x at *
  generalize clcells (c.cl.take k) = R at *
  have nl := ints_len x.needs
  have na := ints_all x.needs
  have nf := ints_flat x.needs
  have nc := icells_leaf x.needs
  have pl := ints_len x.proofs
  have pa := ints_all x.proofs
  have pf := ints_flat x.proofs
  have pc := icells_leaf x.proofs
  refine aw_seq (aw_seq (aw_region ?_))
  simp (config := {maxSteps := 10000000}) (disch := first | exact okYes (by kernel_rfl) | omega) only [thenQ, dI, List.length, Nat.zero_add, Nat.reduceAdd, Nat.reduceMul, ARun_none, AOpRun, aexec, FSt.ev, St.F, eget_c, Nat.reduceBEq, ↓eget_h, cond_false, AGo_ok, St.app, putO, eput_c, eput_n, hups, List.map, Option.map, run1, hget_c, beq_self_eq_true, hget_n, cond_true, List.getElem?_cons_zero, cll, isSh, Bool.false_eq_true, ↓reduceIte, abin, ki, decide_true, ARun_nil, dropE_c, inL_c, inL_n, dropE_n]
  refine aw_condT rfl (aw_skip ?_)
  refine aw_seq (aw_block (aw_seq (aw_region ?_)))
  simp (config := {maxSteps := 10000000}) (disch := first | exact okYes (by kernel_rfl) | omega) only [thenQ, List.length, Nat.zero_add, Nat.reduceAdd, Nat.reduceMul, ARun_none, AOpRun, aexec, FSt.ev, St.F, ↓eget_h, AGo_ok, St.app, putO, eput_c, Nat.reduceBEq, eput_n, cond_false, hups, List.map, Option.map, run1, eget_c, hget_c, beq_self_eq_true, hget_n, cond_true, List.getElem?_cons_zero, Int.natCast_nonneg, cla, and_self, ↓reduceIte, opt1, Int.toNat_natCast, g1, dB, Nat.reduceLeDiff, List.take, Option.isSome, Bool.false_eq_true, hput_c, hput_n, ↓hget_h, D.isBot, D.cells, List.all, D.leaf, Bool.and_true, splice, List.nil_append, List.drop, List.append_nil, ARun_nil, dropE_c, inL_c, inL_n, dropE_n]
  refine aw_region_cutD [⟨some 23, .fad 0 (.tmp 3), none, []⟩,
            ⟨some 24, .load1 (.tmp 23), none, [0]⟩,
            ⟨some 25, .buildSl 1 0 [] [], none, []⟩,
            ⟨some 26, .fad 0 (.tmp 5), none, []⟩,
            ⟨some 27, .load1 (.tmp 26), none, [3]⟩,
            ⟨some 28, .app 1 8 (.tmp 25) (.tmp 27), none, [2, 4, 3]⟩,
            ⟨some 29, .buildSl 1 0 [] [], none, []⟩,
            ⟨some 30, .fad 1 (.tmp 5), none, []⟩,
            ⟨some 31, .load1 (.tmp 30), none, [7]⟩,
            ⟨some 32, .app 1 8 (.tmp 29) (.tmp 31), none, [6, 8, 7, 5, 2, 4, 3]⟩,
            ⟨some 33, .fad 2 (.tmp 5), none, []⟩,
            ⟨some 34, .load1 (.tmp 33), none, [10]⟩,
            ⟨some 35, .build [(.val (.slice none 0 0)), (.val (.slice none 0 0)), (.val (.bool false))] [(0, 1, (.tmp 28)), (1, 1, (.tmp 32)), (2, 1, (.tmp 34))], none, [5, 2, 4, 3, 9, 6, 8, 7, 11, 10]⟩,
            ⟨some 36, .buildSl 3 1 [(.val (.slice none 0 0)), (.val (.slice none 0 0)), (.val (.bool false))] [(0, 3, (.tmp 35))], none, [12, 5, 2, 4, 3, 9, 6, 8, 7, 11, 10]⟩] ⟨some 37, .app 3 56 (.tmp 24) (.tmp 36), none, [1, 0, 13, 12, 5, 2, 4, 3, 9, 6, 8, 7, 11, 10]⟩
            [⟨some 38, .fad 0 (.tmp 3), none, [0, 1, 2, 3, 4, 5, 6, 7, 8, 9, 10, 11, 12, 13, 14]⟩,
            ⟨none, .store 1 (.tmp 38) (.tmp 37), none, [15, 0, 1, 2, 3, 4, 5, 6, 7, 8, 9, 10, 11, 12, 13, 14]⟩] (by decide) (by decide) ?_
  simp (config := {maxSteps := 10000000}) (disch := first | exact okYes (by kernel_rfl) | omega) only [List.length, Nat.zero_add, Nat.reduceAdd, Nat.reduceMul, blockQ, thenQ, ARun_none, AOpRun, aexec, base, FSt.ev, St.F, elems, Option.isSome, ups, eget_c, Nat.reduceBEq, ↓eget_h, cond_false, AGo_ok, St.app, putO, eput_c, eput_n, hups, List.map, Option.map, run1, hget_c, ↓hget_h, List.getElem?_cons_zero, hget_n, Bool.false_eq_true, ↓reduceIte, fillD, hput_c, hput_n, Nat.zero_le, and_self, List.take, na, nl, nf, nc, and_true, List.nil_append, List.cons_append]
  refine ago_if (by omega) ?_
  simp (config := {maxSteps := 10000000}) (disch := first | exact okYes (by kernel_rfl) | omega) only [AGo_ok, Nat.reduceAdd, St.app, putO, eput_c, Nat.reduceBEq, eput_n, cond_false, hups, hput_c, hput_n, hdel_c, beq_self_eq_true, hdel_n, cond_true, List.map, ARun_none, AOpRun, aexec, Option.isSome, Nat.reduceMul, hget_c, hget_n, Bool.false_eq_true, ↓reduceIte, Option.map, fillD, FSt.ev, St.F, eget_c, ↓eget_h, Nat.zero_add, run1, ↓hget_h, List.getElem?_cons_succ, List.getElem?_cons_zero, base, List.length, Nat.zero_le, and_self, List.take, elems, pa, pl, pf, pc, and_true, ups, List.nil_append, List.cons_append]
  refine ago_if (by omega) ?_
  simp (config := {maxSteps := 10000000}) (disch := first | exact okYes (by kernel_rfl) | omega) only [AGo_ok, Nat.reduceAdd, St.app, putO, eput_c, Nat.reduceBEq, eput_n, cond_false, hups, hput_c, hput_n, hdel_c, beq_self_eq_true, hdel_n, cond_true, List.map, ARun_none, AOpRun, aexec, FSt.ev, St.F, eget_c, ↓eget_h, Nat.zero_add, Option.map, run1, hget_c, ↓hget_h, List.getElem?_cons_succ, List.getElem?_cons_zero, fillD, D.isBot, Bool.false_eq_true, D.cells, List.length, ne_eq, not_true_eq_false, Nat.reduceGT, or_self, ↓reduceIte, splice, List.take, List.nil_append, List.drop, List.cons_append, List.append_nil, Option.isSome, Nat.reduceMul, hget_n, ARun_nil]
  have hl3 : ([.list (ints x.needs), .list (ints x.proofs), .val (.bool x.any)] : List D).all D.leaf = true := rfl
  have hle : k * 3 ≤ R.length := by omega
  refine ⟨⟨[(1, .ptr 0 0), (2, .ptr 8 0), (3, .ptr 16 0), (4, dI k), (24, .vec 24 k 3), (36, .vec 32 1 3)], [(0, [.list (cls c.cl), .list (sps c.pf)]), (8, [.val (.slice none 0 0), .val (.slice none 0 0)]), (16, [.vec 24 k 3, .list (sps c.pf)]), (24, R), (32, [.list (ints x.needs), .list (ints x.proofs), .val (.bool x.any)])], 600⟩, ?_, of_decide_eq_true (by kernel_rfl), ?_⟩
  · unfold dI
    refine wk_to [536, 568] [(0, 0), (8, 8), (16, 16), (24, 24), (32, 600)] (by kernel_rfl) (by kernel_rfl) (by kernel_rfl) (by kernel_rfl) (by kernel_rfl) ?_ ?_ <;> repeat' (first | exact trivial | exact vr_val _ | exact vr_list _ | exact vr_vec _ _ _ _ rfl | exact vr_ptr _ _ _ rfl | refine vr_fl _ _ _ _ _ (by decide) rfl ?_ ?_ ?_ ?_ | refine And.intro ⟨_, rfl, .inl ⟨_, rfl, by decide, ?_⟩⟩ ?_ | apply And.intro | exact vrl_flat _ (by first | exact icells_in _ | exact rcells_in _ | exact scells_in _ | exact bcells_in _ | assumption))
    all_goals first | exact ints_one _ | exact ints_len _ | exact ints_flat _ | exact icells_in _
  simp (config := {maxSteps := 10000000}) (disch := first | exact okYes (by kernel_rfl) | omega) only [Nat.reduceSub, Nat.reduceAdd, dI, eget_c, Nat.reduceBEq, ↓eget_h, cond_false, hget_c, ↓hget_h, hle, and_self, ↓reduceIte, hct, Nat.reduceMul, List.length, Nat.zero_add, Nat.reduceLeDiff, List.take, hget_n, List.all, D.leaf, Bool.and_true, and_true, List.map, List.cons_append, List.nil_append]
  refine ago_if (by omega) ?_
  simp (config := {maxSteps := 10000000}) (disch := first | exact okYes (by kernel_rfl) | omega) only [AGo_ok, Nat.reduceAdd, St.app, putO, eput_c, Nat.reduceBEq, eput_n, cond_false, hups, hput_c, hput_n, hdel_c, beq_self_eq_true, hdel_n, cond_true, List.map, ARun_none, AOpRun, aexec, FSt.ev, St.F, eget_c, ↓eget_h, Nat.zero_add, hget_c, ↓hget_h, D.isBot, D.cells, List.length, Nat.reduceLeDiff, List.all, D.leaf, Bool.and_true, and_self, ↓reduceIte, splice, List.take, List.nil_append, List.drop, List.cons_append, ARun_nil, dropE_c, inL_c, inL_n, dropE_n]
  refine aw_region ?_
  simp (config := {maxSteps := 10000000}) (disch := first | exact okYes (by kernel_rfl) | omega) only [thenQ, List.length, Nat.zero_add, Nat.reduceAdd, Nat.reduceMul, ARun_none, AOpRun, aexec, FSt.ev, St.F, eget_c, Nat.reduceBEq, ↓eget_h, cond_false, AGo_ok, St.app, putO, eput_c, eput_n, hups, List.map, isSh, Bool.false_eq_true, ↓reduceIte, Option.map, abin, fits, beq_self_eq_true, cond_true, ARun_nil, dropE_c, inL_c, inL_n, dropE_n]
  refine ⟨k + 1, by omega, by omega, ?_⟩
  rw [hsn]
  unfold dB at *
  refine wk_to [] [(0, 0), (8, 8), (16, 16), (24, 600)] (by kernel_rfl) (by kernel_rfl) (by kernel_rfl) (by kernel_rfl) (by kernel_rfl) ?_ ?_ <;> repeat' (first | exact trivial | exact vr_val _ | exact vr_list _ | exact vr_vec _ _ _ _ rfl | exact vr_ptr _ _ _ rfl | refine And.intro ⟨_, rfl, .inl ⟨_, rfl, by decide, ?_⟩⟩ ?_ | apply And.intro | exact vrl_flat _ (by first | exact icells_in _ | exact rcells_in _ | exact scells_in _ | exact bcells_in _ | assumption))
end Go.Proofs.Ytdcodicoclecnaa
