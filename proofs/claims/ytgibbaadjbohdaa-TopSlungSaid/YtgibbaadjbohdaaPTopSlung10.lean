/- Texts of the law TopSlung, part 10. No conditions. -/
import Derived.Test.YtgibbaadjbohdaaPTopSlung09
/- Tables: their check, on abstract values, both sides. No conditions. -/
set_option linter.unusedSimpArgs false
set_option linter.unusedVariables false
namespace Go.Proofs.Ytgibbaadjbohdaa
open Go.RowKit Lift

set_option maxRecDepth 100000 in
set_option maxHeartbeats 1000000 in
theorem axis_ac (l : List Int) (hsm : ∀ x ∈ l, -9223372036854775808 ≤ x ∧ x ≤ 9223372036854775807) : AC Try.prog 137 [.list (ints l)] [] [] (dB (axB l)) := by
  refine kspans_axis.ac (n0 := 0) (by simp) ⟨.list _, trivial⟩ trivial rfl ?_
  unfold cspans_axis
  have hw : ∀ n a b : Int, AC Try.prog 74 [dI n, dI a, dI b] [] [] (dB (wB n a b)) := bwithin_ac
  cases hl : wB l.length 2 12 with
  | false =>
    have e : axB l = false := by unfold axB; rw [hl]; rfl
    rw [e]
    (have hg : (987654321 : Nat) - 987654321 = 0 := rfl; have hr := hg; repeat' (first | refine aw_seq ?_ | (refine aw_skip ?_; try simp only [thenQ, blockQ, if_true, if_false, Nat.reduceEqDiff, reduceCtorEq]) | (refine aw_exit ?_; try simp only [thenQ, blockQ, if_true, if_false, Nat.reduceEqDiff, reduceCtorEq]) | refine aw_ret ?_ | refine aw_block ?_ | refine aw_condT rfl ?_ | refine aw_condF rfl ?_ | ((first | refine aw_region ?_ | refine acall0 (hw _ _ _) ?_ | refine ago_if (by omega) ?_ | skip); simp (config := {maxSteps := 10000000}) (disch := first | exact okYes (by kernel_rfl) | omega) only [thenQ, List.map, Int.reduceNeg, dB, List.length, Nat.zero_add, Nat.reduceMul, envOf, ARun_none, AOpRun, aexec, FSt.ev, AGo_ok, St.app, putO, eput_c, Nat.reduceBEq, eput_n, cond_false, hups, ARun_nil, dropE_c, inL_n, dropE_n, Nat.reduceAdd, St.F, ↓eget_h, eget_c, ints_len, hl, Bool.not_false, inL_c, beq_self_eq_true, cond_true])))
    all_goals (refine end_to [] [] (by first | exact .inl rfl | exact .inr rfl) rfl (by kernel_rfl) (by kernel_rfl) (by kernel_rfl) ?_ ?_ <;> repeat' (first | exact trivial | exact vr_val _))
  | true =>
  have h12 := wB_iff.1 hl
  have e : axB l = axFrom none l := by unfold axB; rw [hl]; rfl
  rw [e]
  have gs : ∀ k, k < l.length → -9223372036854775808 ≤ l[k]?.getD 0 ∧ l[k]?.getD 0 ≤ 9223372036854775807 := fun k h => by
    have := hsm l[k] (List.getElem_mem h)
    simpa [h] using this
  (have hg : (987654321 : Nat) - 987654321 = 0 := rfl; have hr := hg; repeat' (first | refine aw_seq ?_ | (refine aw_skip ?_; try simp only [thenQ, blockQ, if_true, if_false, Nat.reduceEqDiff, reduceCtorEq]) | (refine aw_exit ?_; try simp only [thenQ, blockQ, if_true, if_false, Nat.reduceEqDiff, reduceCtorEq]) | refine aw_ret ?_ | refine aw_block ?_ | refine aw_condT rfl ?_ | refine aw_condF rfl ?_ | ((first | refine aw_region ?_ | refine acall0 (hw _ _ _) ?_ | refine ago_if (by omega) ?_ | skip); simp (config := {maxSteps := 10000000}) (disch := first | exact okYes (by kernel_rfl) | omega) only [thenQ, List.map, Int.reduceNeg, dB, List.length, Nat.zero_add, Nat.reduceMul, envOf, ARun_none, AOpRun, aexec, FSt.ev, AGo_ok, St.app, putO, eput_c, Nat.reduceBEq, eput_n, cond_false, hups, ARun_nil, dropE_c, inL_n, dropE_n, Nat.reduceAdd, St.F, ↓eget_h, eget_c, ints_len, hl, Bool.not_true, inL_c, beq_self_eq_true, cond_true])))
  refine aw_loop (fun k : Nat => ⟨[(0, .list (ints l)), (9, .list (ints l)), (10, dI l.length), (11, dI k)], [], 400⟩) (fun k => k ≤ l.length ∧ axFrom none l = axFrom (prev l k) (l.drop k) ∧ (0 < k → -1000000 ≤ l[k-1]?.getD 0 ∧ l[k-1]?.getD 0 ≤ 1000000)) (fun k => l.length - k) ⟨0, ⟨by omega, rfl, by omega⟩, ?_⟩ ?_
  · refine wk_to [] [] (by kernel_rfl) (by kernel_rfl) (by kernel_rfl) (by kernel_rfl) (by kernel_rfl) ?_ ?_ <;> repeat' (first | exact trivial | exact vr_val _ | exact vr_list _ | apply And.intro)
  · rintro k ⟨hk, hv, hpv⟩
    by_cases hk2 : k < l.length
    · have g1 := ints_gd l k hk2
      have gk := gs k hk2
      rw [axFrom_drop l k hk2] at hv
      cases c1 : wB (l[k]?.getD 0) (-1000000) 1000000 with
      | false =>
        rw [c1] at hv
        rw [hv]
        (have hg : (987654321 : Nat) - 987654321 = 0 := rfl; have hr := hg; repeat' (first | refine aw_seq ?_ | (refine aw_skip ?_; try simp only [thenQ, blockQ, if_true, if_false, Nat.reduceEqDiff, reduceCtorEq]) | (refine aw_exit ?_; try simp only [thenQ, blockQ, if_true, if_false, Nat.reduceEqDiff, reduceCtorEq]) | refine aw_ret ?_ | refine aw_block ?_ | refine aw_condT rfl ?_ | refine aw_condF rfl ?_ | (refine aw_cond rfl (fun hg => ?_) (fun hg => ?_) <;> (try (have hq := hg; simp only [Bool.not_eq_true', Bool.not_eq_false', Bool.and_eq_true, Bool.and_eq_false_iff, Bool.or_eq_true, Bool.or_eq_false_iff, decide_eq_true_eq, decide_eq_false_iff_not, bne_iff_ne, beq_iff_eq, beq_eq_false_iff_ne, bne_eq_false_iff_eq, ne_eq, Int.not_lt, Int.not_le, Decidable.not_not] at hq)) <;> (try (have hr := hg; simp only [decide_eq_true_eq, decide_eq_false_iff_not] at hr)) <;> (try (exfalso; omega))) | ((first | refine aw_region ?_ | refine acall0 (hw _ _ _) ?_ | refine ago_if (by omega) ?_ | skip); simp (config := {maxSteps := 10000000}) (disch := first | exact okYes (by kernel_rfl) | omega) only [thenQ, Int.reduceNeg, Bool.false_and, dI, List.length, Nat.zero_add, Nat.reduceMul, Nat.reduceAdd, ARun_none, AOpRun, aexec, FSt.ev, St.F, eget_c, Nat.reduceBEq, ↓eget_h, cond_false, isSh, Bool.false_eq_true, ↓reduceIte, Option.map, abin, AGo_ok, St.app, putO, eput_c, eput_n, hups, List.map, ARun_nil, dropE_c, inL_n, dropE_n, hr, decide_true, Int.natCast_nonneg, ints_all, and_self, opt1, Int.toNat_natCast, g1, run1, List.getElem?_cons_zero, inL_c, beq_self_eq_true, cond_true, dB, c1, Bool.not_false, ARun_some, AG_tf, AG_un, blockQ])))
        all_goals (refine end_to [] [] (by first | exact .inl rfl | exact .inr rfl) rfl (by kernel_rfl) (by kernel_rfl) (by kernel_rfl) ?_ ?_ <;> repeat' (first | exact trivial | exact vr_val _))
      | true =>
        rw [c1] at hv
        have b1 := wB_iff.1 c1
        rcases Nat.eq_zero_or_pos k with rfl | hk0
        · simp only [if_pos, Bool.true_and] at hv
          (have hg : (987654321 : Nat) - 987654321 = 0 := rfl; have hr := hg; repeat' (first | refine aw_seq ?_ | (refine aw_skip ?_; try simp only [thenQ, blockQ, if_true, if_false, Nat.reduceEqDiff, reduceCtorEq]) | (refine aw_exit ?_; try simp only [thenQ, blockQ, if_true, if_false, Nat.reduceEqDiff, reduceCtorEq]) | refine aw_ret ?_ | refine aw_block ?_ | refine aw_condT rfl ?_ | refine aw_condF rfl ?_ | (refine aw_cond rfl (fun hg => ?_) (fun hg => ?_) <;> (try (have hq := hg; simp only [Bool.not_eq_true', Bool.not_eq_false', Bool.and_eq_true, Bool.and_eq_false_iff, Bool.or_eq_true, Bool.or_eq_false_iff, decide_eq_true_eq, decide_eq_false_iff_not, bne_iff_ne, beq_iff_eq, beq_eq_false_iff_ne, bne_eq_false_iff_eq, ne_eq, Int.not_lt, Int.not_le, Decidable.not_not] at hq)) <;> (try (have hr := hg; simp only [decide_eq_true_eq, decide_eq_false_iff_not] at hr)) <;> (try (exfalso; omega))) | (refine ag_bool (fun hg => ?_) (fun hg => ?_) <;> (try (have hq := hg; simp only [Bool.not_eq_true', Bool.not_eq_false', Bool.and_eq_true, Bool.and_eq_false_iff, Bool.or_eq_true, Bool.or_eq_false_iff, decide_eq_true_eq, decide_eq_false_iff_not, bne_iff_ne, beq_iff_eq, beq_eq_false_iff_ne, bne_eq_false_iff_eq, ne_eq, Int.not_lt, Int.not_le, Decidable.not_not] at hq)) <;> (try (have hr := hg; simp only [decide_eq_true_eq, decide_eq_false_iff_not] at hr)) <;> (try (exfalso; omega)) <;> simp (config := {maxSteps := 10000000}) (disch := first | exact okYes (by kernel_rfl) | omega) only [Int.reduceNeg, hr, decide_false, AG_ft, Nat.reduceAdd, St.app, putO, eput_c, Nat.reduceBEq, eput_n, cond_false, hups, ARun_some, eget_c, ↓eget_h, AG_ff, AOpRun, aexec, FSt.ev, St.F, Bool.false_eq_true, ↓reduceIte, AGo_ok, List.map, ARun_none, ARun_nil, dropE_c, inL_c, inL_n, beq_self_eq_true, cond_true, dropE_n]) | ((first | refine aw_region ?_ | refine acall0 (hw _ _ _) ?_ | refine ago_if (by omega) ?_ | skip); simp (config := {maxSteps := 10000000}) (disch := first | exact okYes (by kernel_rfl) | omega) only [thenQ, Int.reduceNeg, dI, List.length, Nat.zero_add, Nat.reduceMul, Nat.reduceAdd, cast_lit, ARun_none, AOpRun, aexec, FSt.ev, St.F, eget_c, Nat.reduceBEq, ↓eget_h, cond_false, isSh, Bool.false_eq_true, ↓reduceIte, Option.map, abin, AGo_ok, St.app, putO, eput_c, eput_n, hups, List.map, ARun_nil, dropE_c, inL_n, dropE_n, hr, decide_true, Int.le_refl, ints_all, and_self, opt1, Int.toNat_zero, g1, run1, List.getElem?_cons_zero, inL_c, beq_self_eq_true, cond_true, dB, c1, Bool.not_true, ARun_some, AG_ff, Int.reduceAdd, fits])))
          exact ⟨0 + 1, ⟨by omega, hv, fun _ => b1⟩, by omega, by refine wk_to [] [] (by kernel_rfl) (by kernel_rfl) (by kernel_rfl) (by kernel_rfl) (by kernel_rfl) ?_ ?_ <;> repeat' (first | exact trivial | exact vr_val _ | exact vr_list _ | apply And.intro)⟩
        · rw [if_neg (by omega)] at hv
          have g2 := ints_gd l (k - 1) (by omega)
          have k1 : ((k : Int) - 1).toNat = k - 1 := by omega
          have k2 : ((k : Int) - 1) = ((k - 1 : Nat) : Int) := by omega
          have k0 : decide ((k : Int) > 0) = true := decide_eq_true (by omega)
          have gp := hpv hk0
          have hkn := hk0
          cases c2 : wB (l[k]?.getD 0 - l[k - 1]?.getD 0) 1 10000 with
          | false =>
            rw [c2] at hv
            rw [hv]
            (have hg : (987654321 : Nat) - 987654321 = 0 := rfl; have hr := hg; repeat' (first | refine aw_seq ?_ | (refine aw_skip ?_; try simp only [thenQ, blockQ, if_true, if_false, Nat.reduceEqDiff, reduceCtorEq]) | (refine aw_exit ?_; try simp only [thenQ, blockQ, if_true, if_false, Nat.reduceEqDiff, reduceCtorEq]) | refine aw_ret ?_ | refine aw_block ?_ | refine aw_condT rfl ?_ | refine aw_condF rfl ?_ | (refine aw_cond rfl (fun hg => ?_) (fun hg => ?_) <;> (try (have hq := hg; simp only [Bool.not_eq_true', Bool.not_eq_false', Bool.and_eq_true, Bool.and_eq_false_iff, Bool.or_eq_true, Bool.or_eq_false_iff, decide_eq_true_eq, decide_eq_false_iff_not, bne_iff_ne, beq_iff_eq, beq_eq_false_iff_ne, bne_eq_false_iff_eq, ne_eq, Int.not_lt, Int.not_le, Decidable.not_not] at hq)) <;> (try (have hr := hg; simp only [decide_eq_true_eq, decide_eq_false_iff_not] at hr)) <;> (try (exfalso; omega))) | ((first | refine aw_region ?_ | refine acall0 (hw _ _ _) ?_ | refine ago_if (by omega) ?_ | skip); simp (config := {maxSteps := 10000000}) (disch := first | exact okYes (by kernel_rfl) | omega) only [thenQ, Int.reduceNeg, Bool.and_false, Bool.false_and, dI, List.length, Nat.zero_add, Nat.reduceMul, Nat.reduceAdd, ARun_none, AOpRun, aexec, FSt.ev, St.F, eget_c, Nat.reduceBEq, ↓eget_h, cond_false, isSh, Bool.false_eq_true, ↓reduceIte, Option.map, abin, AGo_ok, St.app, putO, eput_c, eput_n, hups, List.map, ARun_nil, dropE_c, inL_n, dropE_n, hr, decide_true, Int.natCast_nonneg, ints_all, and_self, opt1, Int.toNat_natCast, g1, run1, List.getElem?_cons_zero, inL_c, beq_self_eq_true, cond_true, dB, c1, Bool.not_true, ARun_some, AG_ff, k0, AG_tt, fits, and_true, k1, g2, c2, Bool.not_false, blockQ])))
            all_goals (refine end_to [] [] (by first | exact .inl rfl | exact .inr rfl) rfl (by kernel_rfl) (by kernel_rfl) (by kernel_rfl) ?_ ?_ <;> repeat' (first | exact trivial | exact vr_val _))
          | true =>
            rw [c2] at hv
            simp only [Bool.true_and] at hv
            (have hg : (987654321 : Nat) - 987654321 = 0 := rfl; have hr := hg; repeat' (first | refine aw_seq ?_ | (refine aw_skip ?_; try simp only [thenQ, blockQ, if_true, if_false, Nat.reduceEqDiff, reduceCtorEq]) | (refine aw_exit ?_; try simp only [thenQ, blockQ, if_true, if_false, Nat.reduceEqDiff, reduceCtorEq]) | refine aw_ret ?_ | refine aw_block ?_ | refine aw_condT rfl ?_ | refine aw_condF rfl ?_ | (refine aw_cond rfl (fun hg => ?_) (fun hg => ?_) <;> (try (have hq := hg; simp only [Bool.not_eq_true', Bool.not_eq_false', Bool.and_eq_true, Bool.and_eq_false_iff, Bool.or_eq_true, Bool.or_eq_false_iff, decide_eq_true_eq, decide_eq_false_iff_not, bne_iff_ne, beq_iff_eq, beq_eq_false_iff_ne, bne_eq_false_iff_eq, ne_eq, Int.not_lt, Int.not_le, Decidable.not_not] at hq)) <;> (try (have hr := hg; simp only [decide_eq_true_eq, decide_eq_false_iff_not] at hr)) <;> (try (exfalso; omega))) | ((first | refine aw_region ?_ | refine acall0 (hw _ _ _) ?_ | refine ago_if (by omega) ?_ | skip); simp (config := {maxSteps := 10000000}) (disch := first | exact okYes (by kernel_rfl) | omega) only [thenQ, Int.reduceNeg, dI, List.length, Nat.zero_add, Nat.reduceMul, Nat.reduceAdd, ARun_none, AOpRun, aexec, FSt.ev, St.F, eget_c, Nat.reduceBEq, ↓eget_h, cond_false, isSh, Bool.false_eq_true, ↓reduceIte, Option.map, abin, AGo_ok, St.app, putO, eput_c, eput_n, hups, List.map, ARun_nil, dropE_c, inL_n, dropE_n, hr, decide_true, Int.natCast_nonneg, ints_all, and_self, opt1, Int.toNat_natCast, g1, run1, List.getElem?_cons_zero, inL_c, beq_self_eq_true, cond_true, dB, c1, Bool.not_true, ARun_some, AG_ff, k0, AG_tt, fits, and_true, k1, g2, c2])))
            exact ⟨k + 1, ⟨by omega, hv, fun _ => b1⟩, by omega, by refine wk_to [] [] (by kernel_rfl) (by kernel_rfl) (by kernel_rfl) (by kernel_rfl) (by kernel_rfl) ?_ ?_ <;> repeat' (first | exact trivial | exact vr_val _ | exact vr_list _ | apply And.intro)⟩
    · obtain rfl : k = l.length := by omega
      rw [hv, List.drop_length]
      (have hg : (987654321 : Nat) - 987654321 = 0 := rfl; have hr := hg; repeat' (first | refine aw_seq ?_ | (refine aw_skip ?_; try simp only [thenQ, blockQ, if_true, if_false, Nat.reduceEqDiff, reduceCtorEq]) | (refine aw_exit ?_; try simp only [thenQ, blockQ, if_true, if_false, Nat.reduceEqDiff, reduceCtorEq]) | refine aw_ret ?_ | refine aw_block ?_ | refine aw_condT rfl ?_ | refine aw_condF rfl ?_ | (refine aw_cond rfl (fun hg => ?_) (fun hg => ?_) <;> (try (have hq := hg; simp only [Bool.not_eq_true', Bool.not_eq_false', Bool.and_eq_true, Bool.and_eq_false_iff, Bool.or_eq_true, Bool.or_eq_false_iff, decide_eq_true_eq, decide_eq_false_iff_not, bne_iff_ne, beq_iff_eq, beq_eq_false_iff_ne, bne_eq_false_iff_eq, ne_eq, Int.not_lt, Int.not_le, Decidable.not_not] at hq)) <;> (try (have hr := hg; simp only [decide_eq_true_eq, decide_eq_false_iff_not] at hr)) <;> (try (exfalso; omega))) | ((first | refine aw_region ?_ | refine ago_if (by omega) ?_ | skip); simp (config := {maxSteps := 10000000}) (disch := first | exact okYes (by kernel_rfl) | omega) only [thenQ, Int.reduceNeg, dI, List.length, Nat.zero_add, Nat.reduceMul, Nat.reduceAdd, ARun_none, AOpRun, aexec, FSt.ev, St.F, eget_c, Nat.reduceBEq, ↓eget_h, cond_false, isSh, Bool.false_eq_true, ↓reduceIte, Option.map, abin, AGo_ok, St.app, putO, eput_c, eput_n, hups, List.map, ARun_nil, dropE_c, inL_n, dropE_n, hr, decide_false])))
      all_goals (refine end_to [] [] (by first | exact .inl rfl | exact .inr rfl) rfl (by kernel_rfl) (by kernel_rfl) (by kernel_rfl) ?_ ?_ <;> repeat' (first | exact trivial | exact vr_val _))
set_option maxRecDepth 100000 in
set_option maxHeartbeats 1000000 in
theorem ct1_ac (g : Int) : AC Try.prog 135 [dI g] [] [] (dB (!wB g (-1000000) 1000000)) := by
  refine kspans_CheckTable_S1.ac (n0 := 0) (by simp) ⟨.val _, trivial⟩ trivial rfl ?_
  unfold cspans_CheckTable_S1
  have hw : ∀ n a b : Int, AC Try.prog 74 [dI n, dI a, dI b] [] [] (dB (wB n a b)) := bwithin_ac
  (have hg : (987654321 : Nat) - 987654321 = 0 := rfl; have hr := hg; repeat' (first | refine aw_seq ?_ | (refine aw_skip ?_; try simp only [thenQ, blockQ, if_true, if_false, Nat.reduceEqDiff, reduceCtorEq]) | (refine aw_exit ?_; try simp only [thenQ, blockQ, if_true, if_false, Nat.reduceEqDiff, reduceCtorEq]) | refine aw_ret ?_ | refine aw_block ?_ | refine aw_condT rfl ?_ | refine aw_condF rfl ?_ | ((first | refine aw_region ?_ | refine acall0 (hw _ _ _) ?_ | refine ago_if (by omega) ?_ | skip); simp (config := {maxSteps := 10000000}) (disch := first | exact okYes (by kernel_rfl) | omega) only [thenQ, List.map, Int.reduceNeg, dB, List.length, Nat.zero_add, Nat.reduceMul, envOf, dI, ARun_none, AOpRun, aexec, FSt.ev, AGo_ok, St.app, putO, eput_c, Nat.reduceBEq, eput_n, cond_false, hups, ARun_nil, dropE_c, inL_n, dropE_n, Nat.reduceAdd, St.F, ↓eget_h, eget_c, beq_self_eq_true, cond_true, inL_c])))
  all_goals (refine end_to [] [] (by first | exact .inl rfl | exact .inr rfl) rfl (by kernel_rfl) (by kernel_rfl) (by kernel_rfl) ?_ ?_ <;> repeat' (first | exact trivial | exact vr_val _))
set_option maxRecDepth 100000 in
set_option maxHeartbeats 1000000 in
theorem tabI_ac  (l : List Int) (hl : l.length ≤ 1000000) : AC Try.prog 129 [.list (ints l), .fn 135 [] []] [] [] (dI (ixOf (fun x => !wB x (-1000000) 1000000) l)) := by
  refine kslices_IndexFunc_L_L_Jint_Kint_J.ac (n0 := 0) (by simp) ⟨.list _, .fn _ _ _ (by simp) (by simp), trivial⟩ trivial rfl ?_
  unfold cslices_IndexFunc_L_L_Jint_Kint_J
  generalize hp : (fun x => !wB x (-1000000) 1000000) = p
  have hpa : ∀ x, p x = (fun x => !wB x (-1000000) 1000000) x := fun x => by rw [hp]
  generalize hR : ixOf p l = R
  (have hg : (987654321 : Nat) - 987654321 = 0 := rfl; have hr := hg; repeat' (first | refine aw_seq ?_ | (refine aw_skip ?_; try simp only [thenQ, blockQ, if_true, if_false, Nat.reduceEqDiff, reduceCtorEq]) | (refine aw_exit ?_; try simp only [thenQ, blockQ, if_true, if_false, Nat.reduceEqDiff, reduceCtorEq]) | refine aw_ret ?_ | refine aw_block ?_ | refine aw_condT rfl ?_ | refine aw_condF rfl ?_ | ((first | refine aw_region ?_ | refine ago_if (by omega) ?_ | skip); simp (config := {maxSteps := 10000000}) (disch := first | exact okYes (by kernel_rfl) | omega) only [thenQ, List.map, Int.reduceNeg, List.length, Nat.zero_add, Nat.reduceMul, envOf, ARun_none, AOpRun, aexec, FSt.ev, AGo_ok, St.app, putO, eput_c, Nat.reduceBEq, eput_n, cond_false, hups, ARun_nil, dropE_c, inL_n, dropE_n, Nat.reduceAdd, St.F, ↓eget_h, eget_c, ints_len, inL_c, beq_self_eq_true, cond_true])))
  refine aw_loop (fun k : Nat => ⟨[(0, .list (ints l)), (1, .fn 135 [] []), (7, dI l.length), (8, dI k)], [], 400⟩) (fun k => k ≤ l.length ∧ ∀ j, j < k → p (l[j]?.getD 0) = false) (fun k => l.length - k) ⟨0, ⟨by omega, by omega⟩, ?_⟩ ?_
  · refine wk_to [] [] (by kernel_rfl) (by kernel_rfl) (by kernel_rfl) (by kernel_rfl) (by kernel_rfl) ?_ ?_ <;> repeat' (first | exact trivial | exact vr_val _ | exact vr_list _ | apply vr_fn | apply And.intro)
  · rintro k ⟨hk, hv⟩
    by_cases hk2 : k < l.length
    · have g1 := ints_gd l k hk2
      cases hx : p (l[k]?.getD 0) with
      | true =>
        have hx2 := hx
        rw [hpa] at hx2
        rw [← hR, ixOf_some hk2 hv hx]
        (have hg : (987654321 : Nat) - 987654321 = 0 := rfl; have hr := hg; repeat' (first | refine aw_seq ?_ | (refine aw_skip ?_; try simp only [thenQ, blockQ, if_true, if_false, Nat.reduceEqDiff, reduceCtorEq]) | (refine aw_exit ?_; try simp only [thenQ, blockQ, if_true, if_false, Nat.reduceEqDiff, reduceCtorEq]) | refine aw_ret ?_ | refine aw_block ?_ | refine aw_condT rfl ?_ | refine aw_condF rfl ?_ | (refine aw_cond rfl (fun hg => ?_) (fun hg => ?_) <;> (try (have hq := hg; simp only [Bool.not_eq_true', Bool.not_eq_false', Bool.and_eq_true, Bool.and_eq_false_iff, Bool.or_eq_true, Bool.or_eq_false_iff, decide_eq_true_eq, decide_eq_false_iff_not, bne_iff_ne, beq_iff_eq, beq_eq_false_iff_ne, bne_eq_false_iff_eq, ne_eq, Int.not_lt, Int.not_le, Decidable.not_not] at hq)) <;> (try (have hr := hg; simp only [decide_eq_true_eq, decide_eq_false_iff_not] at hr)) <;> (try (exfalso; omega))) | ((first | refine aw_region ?_ | refine acall0 (ct1_ac _) ?_ | refine ago_if (by omega) ?_ | skip); simp (config := {maxSteps := 10000000}) (disch := first | exact okYes (by kernel_rfl) | omega) only [thenQ, dI, Int.reduceNeg, List.length, Nat.zero_add, Nat.reduceMul, Nat.reduceAdd, ARun_none, AOpRun, aexec, FSt.ev, St.F, eget_c, Nat.reduceBEq, ↓eget_h, cond_false, isSh, Bool.false_eq_true, ↓reduceIte, Option.map, abin, AGo_ok, St.app, putO, eput_c, eput_n, hups, List.map, ARun_nil, dropE_c, inL_n, dropE_n, hr, decide_true, inL_c, beq_self_eq_true, cond_true, Int.natCast_nonneg, ints_all, and_self, opt1, Int.toNat_natCast, g1, run1, List.getElem?_cons_zero, dB, hx2, blockQ])))
        all_goals (refine end_to [] [] (by first | exact .inl rfl | exact .inr rfl) rfl (by kernel_rfl) (by kernel_rfl) (by kernel_rfl) ?_ ?_ <;> repeat' (first | exact trivial | exact vr_val _))
      | false =>
        have hx2 := hx
        rw [hpa] at hx2
        (have hg : (987654321 : Nat) - 987654321 = 0 := rfl; have hr := hg; repeat' (first | refine aw_seq ?_ | (refine aw_skip ?_; try simp only [thenQ, blockQ, if_true, if_false, Nat.reduceEqDiff, reduceCtorEq]) | (refine aw_exit ?_; try simp only [thenQ, blockQ, if_true, if_false, Nat.reduceEqDiff, reduceCtorEq]) | refine aw_ret ?_ | refine aw_block ?_ | refine aw_condT rfl ?_ | refine aw_condF rfl ?_ | (refine aw_cond rfl (fun hg => ?_) (fun hg => ?_) <;> (try (have hq := hg; simp only [Bool.not_eq_true', Bool.not_eq_false', Bool.and_eq_true, Bool.and_eq_false_iff, Bool.or_eq_true, Bool.or_eq_false_iff, decide_eq_true_eq, decide_eq_false_iff_not, bne_iff_ne, beq_iff_eq, beq_eq_false_iff_ne, bne_eq_false_iff_eq, ne_eq, Int.not_lt, Int.not_le, Decidable.not_not] at hq)) <;> (try (have hr := hg; simp only [decide_eq_true_eq, decide_eq_false_iff_not] at hr)) <;> (try (exfalso; omega))) | ((first | refine aw_region ?_ | refine acall0 (ct1_ac _) ?_ | refine ago_if (by omega) ?_ | skip); simp (config := {maxSteps := 10000000}) (disch := first | exact okYes (by kernel_rfl) | omega) only [thenQ, dI, Int.reduceNeg, List.length, Nat.zero_add, Nat.reduceMul, Nat.reduceAdd, ARun_none, AOpRun, aexec, FSt.ev, St.F, eget_c, Nat.reduceBEq, ↓eget_h, cond_false, isSh, Bool.false_eq_true, ↓reduceIte, Option.map, abin, AGo_ok, St.app, putO, eput_c, eput_n, hups, List.map, ARun_nil, dropE_c, inL_n, dropE_n, hr, decide_true, inL_c, beq_self_eq_true, cond_true, Int.natCast_nonneg, ints_all, and_self, opt1, Int.toNat_natCast, g1, run1, List.getElem?_cons_zero, dB, hx2, fits])))
        exact ⟨k + 1, ⟨by omega, prev_next hv hx⟩, by omega, by refine wk_to [] [] (by kernel_rfl) (by kernel_rfl) (by kernel_rfl) (by kernel_rfl) (by kernel_rfl) ?_ ?_ <;> repeat' (first | exact trivial | exact vr_val _ | exact vr_list _ | apply vr_fn | apply And.intro)⟩
    · obtain rfl : k = l.length := by omega
      rw [← hR, ixOf_none hv]
      (have hg : (987654321 : Nat) - 987654321 = 0 := rfl; have hr := hg; repeat' (first | refine aw_seq ?_ | (refine aw_skip ?_; try simp only [thenQ, blockQ, if_true, if_false, Nat.reduceEqDiff, reduceCtorEq]) | (refine aw_exit ?_; try simp only [thenQ, blockQ, if_true, if_false, Nat.reduceEqDiff, reduceCtorEq]) | refine aw_ret ?_ | refine aw_block ?_ | refine aw_condT rfl ?_ | refine aw_condF rfl ?_ | (refine aw_cond rfl (fun hg => ?_) (fun hg => ?_) <;> (try (have hq := hg; simp only [Bool.not_eq_true', Bool.not_eq_false', Bool.and_eq_true, Bool.and_eq_false_iff, Bool.or_eq_true, Bool.or_eq_false_iff, decide_eq_true_eq, decide_eq_false_iff_not, bne_iff_ne, beq_iff_eq, beq_eq_false_iff_ne, bne_eq_false_iff_eq, ne_eq, Int.not_lt, Int.not_le, Decidable.not_not] at hq)) <;> (try (have hr := hg; simp only [decide_eq_true_eq, decide_eq_false_iff_not] at hr)) <;> (try (exfalso; omega))) | ((first | refine aw_region ?_ | refine ago_if (by omega) ?_ | skip); simp (config := {maxSteps := 10000000}) (disch := first | exact okYes (by kernel_rfl) | omega) only [thenQ, dI, Int.reduceNeg, List.length, Nat.zero_add, Nat.reduceMul, Nat.reduceAdd, ARun_none, AOpRun, aexec, FSt.ev, St.F, eget_c, Nat.reduceBEq, ↓eget_h, cond_false, isSh, Bool.false_eq_true, ↓reduceIte, Option.map, abin, AGo_ok, St.app, putO, eput_c, eput_n, hups, List.map, ARun_nil, dropE_c, inL_n, dropE_n, hr, decide_false])))
      all_goals (refine end_to [] [] (by first | exact .inl rfl | exact .inr rfl) rfl (by kernel_rfl) (by kernel_rfl) (by kernel_rfl) ?_ ?_ <;> repeat' (first | exact trivial | exact vr_val _))
set_option maxRecDepth 100000 in
set_option maxHeartbeats 1000000 in
theorem tabC_ac  (l : List Int) (hl : l.length ≤ 1000000) : AC Try.prog 94 [.list (ints l), .fn 135 [] []] [] [] (dB (l.any (fun x => !wB x (-1000000) 1000000))) := by
  refine kslices_ContainsFunc_L_L_Jint_Kint_J.ac (n0 := 0) (by simp) ⟨.list _, .fn _ _ _ (by simp) (by simp), trivial⟩ trivial rfl ?_
  unfold cslices_ContainsFunc_L_L_Jint_Kint_J
  rw [← ixOf_ge]
  (have hg : (987654321 : Nat) - 987654321 = 0 := rfl; have hr := hg; repeat' (first | refine aw_seq ?_ | (refine aw_skip ?_; try simp only [thenQ, blockQ, if_true, if_false, Nat.reduceEqDiff, reduceCtorEq]) | (refine aw_exit ?_; try simp only [thenQ, blockQ, if_true, if_false, Nat.reduceEqDiff, reduceCtorEq]) | refine aw_ret ?_ | refine aw_block ?_ | refine aw_condT rfl ?_ | refine aw_condF rfl ?_ | ((first | refine aw_region ?_ | refine acall0 (tabI_ac  l hl) ?_ | refine ago_if (by omega) ?_ | skip); simp (config := {maxSteps := 10000000}) (disch := first | exact okYes (by kernel_rfl) | omega) only [thenQ, List.map, Int.reduceNeg, List.length, Nat.zero_add, Nat.reduceMul, envOf, ARun_none, AOpRun, aexec, FSt.ev, AGo_ok, St.app, putO, eput_c, Nat.reduceBEq, eput_n, cond_false, hups, ARun_nil, dropE_c, inL_n, dropE_n, Nat.reduceAdd, St.F, ↓eget_h, eget_c, dI, isSh, Bool.false_eq_true, ↓reduceIte, Option.map, abin, beq_self_eq_true, cond_true, inL_c])))
  all_goals (refine end_to [] [] (by first | exact .inl rfl | exact .inr rfl) rfl (by kernel_rfl) (by kernel_rfl) (by kernel_rfl) ?_ ?_ <;> repeat' (first | exact trivial | exact vr_val _))
def tabC (xs ys : List Int) (vs : List (List Int)) : List D := [.list (ints xs), .list (ints ys), .list (rows vs)]
theorem tabC_in (xs ys : List Int) (vs : List (List Int)) (n : Nat) : ∀ d ∈ tabC xs ys vs, In (· < n) d := by
  intro d hd
  simp only [tabC, List.mem_cons, List.not_mem_nil, or_false] at hd
  rcases hd with rfl | rfl | rfl <;> exact .list _
theorem hin2 (xs ys : List Int) (vs : List (List Int)) : allHp 24 [(0, tabC xs ys vs), (16, [.fn 135 [] []])] :=
  ⟨⟨by omega, tabC_in _ _ _ _⟩, ⟨by omega, by intro d hd; simp at hd; subst hd; exact .fn _ _ _ (by simp) (by simp)⟩, trivial⟩
set_option maxRecDepth 100000 in
set_option maxHeartbeats 1000000 in
theorem ct2_ac (xs ys : List Int) (vs : List (List Int)) (r : List Int) (hyl : ys.length ≤ 12) : AC Try.prog 136 [.list (ints r), .ptr 0 0, .ptr 16 0] [(0, tabC xs ys vs), (16, [.fn 135 [] []])] [(0, some (tabC xs ys vs)), (16, some [.fn 135 [] []])] (dB (rowBad ys.length r)) := by
  refine kspans_CheckTable_S2.ac (n0 := 24) (by simp) ⟨.list _, .ptr _ _ (by omega), .ptr _ _ (by omega), trivial⟩ (hin2 xs ys vs) rfl ?_
  unfold cspans_CheckTable_S2 tabC
  by_cases hl : r.length = ys.length
  · have h1 : ((r.length : Int) != (ys.length : Int)) = false := by simp; omega
    have e : rowBad ys.length r = r.any (fun x => !wB x (-1000000) 1000000) := by unfold rowBad; rw [h1]; rfl
    rw [e]
    (have hg : (987654321 : Nat) - 987654321 = 0 := rfl; have hr := hg; repeat' (first | refine aw_seq ?_ | (refine aw_skip ?_; try simp only [thenQ, blockQ, if_true, if_false, Nat.reduceEqDiff, reduceCtorEq]) | (refine aw_exit ?_; try simp only [thenQ, blockQ, if_true, if_false, Nat.reduceEqDiff, reduceCtorEq]) | refine aw_ret ?_ | refine aw_block ?_ | refine aw_condT rfl ?_ | refine aw_condF rfl ?_ | ((first | refine aw_region ?_ | refine acall0 (tabC_ac r (by omega)) ?_ | refine ago_if (by omega) ?_ | skip); simp (config := {maxSteps := 10000000}) (disch := first | exact okYes (by kernel_rfl) | omega) only [thenQ, List.map, Int.reduceNeg, List.length, Nat.zero_add, Nat.reduceMul, Nat.reduceAdd, envOf, ARun_none, AOpRun, aexec, FSt.ev, AGo_ok, St.app, putO, eput_c, Nat.reduceBEq, eput_n, cond_false, hups, ARun_nil, dropE_c, inL_n, dropE_n, St.F, ↓eget_h, eget_c, ints_len, Option.map, run1, hget_c, beq_self_eq_true, hget_n, cond_true, List.getElem?_cons_succ, List.getElem?_cons_zero, isSh, Bool.false_eq_true, ↓reduceIte, abin, h1, ARun_some, AG_ff, ↓hget_h, inL_c])))
    all_goals (refine end_to [] [(0, 0), (16, 16)] (by first | exact .inl rfl | exact .inr rfl) rfl (by kernel_rfl) (by kernel_rfl) (by kernel_rfl) ?_ ?_ <;> repeat' (first | exact trivial | exact vr_val _ | exact vr_list _ | apply vr_fn | refine And.intro ⟨_, rfl, _, rfl, by decide, ?_⟩ ?_ | apply And.intro))
  · have h1 : ((r.length : Int) != (ys.length : Int)) = true := by simp; omega
    have e : rowBad ys.length r = true := by unfold rowBad; rw [h1]; rfl
    rw [e]
    (have hg : (987654321 : Nat) - 987654321 = 0 := rfl; have hr := hg; repeat' (first | refine aw_seq ?_ | (refine aw_skip ?_; try simp only [thenQ, blockQ, if_true, if_false, Nat.reduceEqDiff, reduceCtorEq]) | (refine aw_exit ?_; try simp only [thenQ, blockQ, if_true, if_false, Nat.reduceEqDiff, reduceCtorEq]) | refine aw_ret ?_ | refine aw_block ?_ | refine aw_condT rfl ?_ | refine aw_condF rfl ?_ | ((first | refine aw_region ?_ | refine ago_if (by omega) ?_ | skip); simp (config := {maxSteps := 10000000}) (disch := first | exact okYes (by kernel_rfl) | omega) only [thenQ, List.map, List.length, Nat.zero_add, Nat.reduceMul, Nat.reduceAdd, envOf, ARun_none, AOpRun, aexec, FSt.ev, AGo_ok, St.app, putO, eput_c, Nat.reduceBEq, eput_n, cond_false, hups, ARun_nil, dropE_c, inL_n, dropE_n, St.F, ↓eget_h, eget_c, ints_len, Option.map, run1, hget_c, beq_self_eq_true, hget_n, cond_true, List.getElem?_cons_succ, List.getElem?_cons_zero, isSh, Bool.false_eq_true, ↓reduceIte, abin, h1, ARun_some, AG_tf, inL_c])))
    all_goals (refine end_to [] [(0, 0), (16, 16)] (by first | exact .inl rfl | exact .inr rfl) rfl (by kernel_rfl) (by kernel_rfl) (by kernel_rfl) ?_ ?_ <;> repeat' (first | exact trivial | exact vr_val _ | exact vr_list _ | apply vr_fn | refine And.intro ⟨_, rfl, _, rfl, by decide, ?_⟩ ?_ | apply And.intro))
set_option maxRecDepth 100000 in
set_option maxHeartbeats 1000000 in
theorem rowI_ac (xs ys : List Int) (vs : List (List Int)) (hyl : ys.length ≤ 12) (l : List (List Int)) (hl : l.length ≤ 1000000) : AC Try.prog 149 [.list (rows l), .fn 136 [] [.ptr 0 0, .ptr 16 0]] [(0, tabC xs ys vs), (16, [.fn 135 [] []])] [(0, some (tabC xs ys vs)), (16, some [.fn 135 [] []])] (dI (ixOf (rowBad ys.length) l)) := by
  refine kslices_IndexFunc_L_L_J_L_Jint_K_L_Jint_J.ac (n0 := 24) (by simp) ⟨.list _, .fn _ _ _ (by simp) (by intro d hd; simp at hd; rcases hd with rfl | rfl <;> exact .ptr _ _ (by omega)), trivial⟩ (hin2 xs ys vs) rfl ?_
  unfold cslices_IndexFunc_L_L_J_L_Jint_K_L_Jint_J
  generalize hp : (rowBad ys.length) = p
  have hpa : ∀ x, p x = (rowBad ys.length) x := fun x => by rw [hp]
  generalize hR : ixOf p l = R
  (have hg : (987654321 : Nat) - 987654321 = 0 := rfl; have hr := hg; repeat' (first | refine aw_seq ?_ | (refine aw_skip ?_; try simp only [thenQ, blockQ, if_true, if_false, Nat.reduceEqDiff, reduceCtorEq]) | (refine aw_exit ?_; try simp only [thenQ, blockQ, if_true, if_false, Nat.reduceEqDiff, reduceCtorEq]) | refine aw_ret ?_ | refine aw_block ?_ | refine aw_condT rfl ?_ | refine aw_condF rfl ?_ | ((first | refine aw_region ?_ | refine ago_if (by omega) ?_ | skip); simp (config := {maxSteps := 10000000}) (disch := first | exact okYes (by kernel_rfl) | omega) only [thenQ, List.map, Int.reduceNeg, List.length, Nat.zero_add, Nat.reduceMul, Nat.reduceAdd, envOf, ARun_none, AOpRun, aexec, FSt.ev, AGo_ok, St.app, putO, eput_c, Nat.reduceBEq, eput_n, cond_false, hups, ARun_nil, dropE_c, inL_n, dropE_n, St.F, ↓eget_h, eget_c, rows_len, inL_c, beq_self_eq_true, cond_true])))
  refine aw_loop (fun k : Nat => ⟨[(0, .list (rows l)), (1, .fn 136 [] [.ptr 0 0, .ptr 16 0]), (7, dI l.length), (8, dI k)], [(0, tabC xs ys vs), (16, [.fn 135 [] []])], 400⟩) (fun k => k ≤ l.length ∧ ∀ j, j < k → p (l[j]?.getD []) = false) (fun k => l.length - k) ⟨0, ⟨by omega, by omega⟩, ?_⟩ ?_
  · refine wk_to [] [(0, 0), (16, 16)] (by kernel_rfl) (by kernel_rfl) (by kernel_rfl) (by kernel_rfl) (by kernel_rfl) ?_ ?_ <;> repeat' (first | exact trivial | exact vr_val _ | exact vr_list _ | exact vr_ptr _ _ _ rfl | apply vr_fn | refine And.intro ⟨_, rfl, .inl ⟨_, rfl, by decide, ?_⟩⟩ ?_ | apply And.intro)
  · rintro k ⟨hk, hv⟩
    by_cases hk2 : k < l.length
    · have g1 := rows_gd l k hk2
      cases hx : p (l[k]?.getD []) with
      | true =>
        have hx2 := hx
        rw [hpa] at hx2
        rw [← hR, ixOf_some hk2 hv hx]
        (have hg : (987654321 : Nat) - 987654321 = 0 := rfl; have hr := hg; repeat' (first | refine aw_seq ?_ | (refine aw_skip ?_; try simp only [thenQ, blockQ, if_true, if_false, Nat.reduceEqDiff, reduceCtorEq]) | (refine aw_exit ?_; try simp only [thenQ, blockQ, if_true, if_false, Nat.reduceEqDiff, reduceCtorEq]) | refine aw_ret ?_ | refine aw_block ?_ | refine aw_condT rfl ?_ | refine aw_condF rfl ?_ | (refine aw_cond rfl (fun hg => ?_) (fun hg => ?_) <;> (try (have hq := hg; simp only [Bool.not_eq_true', Bool.not_eq_false', Bool.and_eq_true, Bool.and_eq_false_iff, Bool.or_eq_true, Bool.or_eq_false_iff, decide_eq_true_eq, decide_eq_false_iff_not, bne_iff_ne, beq_iff_eq, beq_eq_false_iff_ne, bne_eq_false_iff_eq, ne_eq, Int.not_lt, Int.not_le, Decidable.not_not] at hq)) <;> (try (have hr := hg; simp only [decide_eq_true_eq, decide_eq_false_iff_not] at hr)) <;> (try (exfalso; omega))) | ((first | refine aw_region ?_ | refine acallB (ct2_ac xs ys vs _ hyl) (by repeat' (first | exact trivial | exact rfl | refine And.intro ?_ ?_)) (by kernel_rfl) (by kernel_rfl) (by kernel_rfl) ?_ | refine ago_if (by omega) ?_ | skip); simp (config := {maxSteps := 10000000}) (disch := first | exact okYes (by kernel_rfl) | omega) only [thenQ, dI, Int.reduceNeg, List.length, Nat.zero_add, Nat.reduceMul, Nat.reduceAdd, ARun_none, AOpRun, aexec, FSt.ev, St.F, eget_c, Nat.reduceBEq, ↓eget_h, cond_false, isSh, Bool.false_eq_true, ↓reduceIte, Option.map, abin, AGo_ok, St.app, putO, eput_c, eput_n, hups, List.map, ARun_nil, dropE_c, inL_n, dropE_n, hr, decide_true, inL_c, beq_self_eq_true, cond_true, Int.natCast_nonneg, rows_all, and_self, opt1, Int.toNat_natCast, g1, run1, List.getElem?_cons_zero, dB, hx2, hput_c, hput_n, List.append_nil, blockQ])))
        all_goals (refine end_to [] [(0, 0), (16, 16)] (by first | exact .inl rfl | exact .inr rfl) rfl (by kernel_rfl) (by kernel_rfl) (by kernel_rfl) ?_ ?_ <;> repeat' (first | exact trivial | exact vr_val _ | exact vr_list _ | apply vr_fn | refine And.intro ⟨_, rfl, _, rfl, by decide, ?_⟩ ?_ | apply And.intro))
      | false =>
        have hx2 := hx
        rw [hpa] at hx2
        (have hg : (987654321 : Nat) - 987654321 = 0 := rfl; have hr := hg; repeat' (first | refine aw_seq ?_ | (refine aw_skip ?_; try simp only [thenQ, blockQ, if_true, if_false, Nat.reduceEqDiff, reduceCtorEq]) | (refine aw_exit ?_; try simp only [thenQ, blockQ, if_true, if_false, Nat.reduceEqDiff, reduceCtorEq]) | refine aw_ret ?_ | refine aw_block ?_ | refine aw_condT rfl ?_ | refine aw_condF rfl ?_ | (refine aw_cond rfl (fun hg => ?_) (fun hg => ?_) <;> (try (have hq := hg; simp only [Bool.not_eq_true', Bool.not_eq_false', Bool.and_eq_true, Bool.and_eq_false_iff, Bool.or_eq_true, Bool.or_eq_false_iff, decide_eq_true_eq, decide_eq_false_iff_not, bne_iff_ne, beq_iff_eq, beq_eq_false_iff_ne, bne_eq_false_iff_eq, ne_eq, Int.not_lt, Int.not_le, Decidable.not_not] at hq)) <;> (try (have hr := hg; simp only [decide_eq_true_eq, decide_eq_false_iff_not] at hr)) <;> (try (exfalso; omega))) | ((first | refine aw_region ?_ | refine acallB (ct2_ac xs ys vs _ hyl) (by repeat' (first | exact trivial | exact rfl | refine And.intro ?_ ?_)) (by kernel_rfl) (by kernel_rfl) (by kernel_rfl) ?_ | refine ago_if (by omega) ?_ | skip); simp (config := {maxSteps := 10000000}) (disch := first | exact okYes (by kernel_rfl) | omega) only [thenQ, dI, Int.reduceNeg, List.length, Nat.zero_add, Nat.reduceMul, Nat.reduceAdd, ARun_none, AOpRun, aexec, FSt.ev, St.F, eget_c, Nat.reduceBEq, ↓eget_h, cond_false, isSh, Bool.false_eq_true, ↓reduceIte, Option.map, abin, AGo_ok, St.app, putO, eput_c, eput_n, hups, List.map, ARun_nil, dropE_c, inL_n, dropE_n, hr, decide_true, inL_c, beq_self_eq_true, cond_true, Int.natCast_nonneg, rows_all, and_self, opt1, Int.toNat_natCast, g1, run1, List.getElem?_cons_zero, dB, hx2, hput_c, hput_n, List.append_nil, fits])))
        exact ⟨k + 1, ⟨by omega, prev_next hv hx⟩, by omega, by refine wk_to [] [(0, 0), (16, 16)] (by kernel_rfl) (by kernel_rfl) (by kernel_rfl) (by kernel_rfl) (by kernel_rfl) ?_ ?_ <;> repeat' (first | exact trivial | exact vr_val _ | exact vr_list _ | exact vr_ptr _ _ _ rfl | apply vr_fn | refine And.intro ⟨_, rfl, .inl ⟨_, rfl, by decide, ?_⟩⟩ ?_ | apply And.intro)⟩
    · obtain rfl : k = l.length := by omega
      rw [← hR, ixOf_none hv]
      (have hg : (987654321 : Nat) - 987654321 = 0 := rfl; have hr := hg; repeat' (first | refine aw_seq ?_ | (refine aw_skip ?_; try simp only [thenQ, blockQ, if_true, if_false, Nat.reduceEqDiff, reduceCtorEq]) | (refine aw_exit ?_; try simp only [thenQ, blockQ, if_true, if_false, Nat.reduceEqDiff, reduceCtorEq]) | refine aw_ret ?_ | refine aw_block ?_ | refine aw_condT rfl ?_ | refine aw_condF rfl ?_ | (refine aw_cond rfl (fun hg => ?_) (fun hg => ?_) <;> (try (have hq := hg; simp only [Bool.not_eq_true', Bool.not_eq_false', Bool.and_eq_true, Bool.and_eq_false_iff, Bool.or_eq_true, Bool.or_eq_false_iff, decide_eq_true_eq, decide_eq_false_iff_not, bne_iff_ne, beq_iff_eq, beq_eq_false_iff_ne, bne_eq_false_iff_eq, ne_eq, Int.not_lt, Int.not_le, Decidable.not_not] at hq)) <;> (try (have hr := hg; simp only [decide_eq_true_eq, decide_eq_false_iff_not] at hr)) <;> (try (exfalso; omega))) | ((first | refine aw_region ?_ | refine ago_if (by omega) ?_ | skip); simp (config := {maxSteps := 10000000}) (disch := first | exact okYes (by kernel_rfl) | omega) only [thenQ, dI, Int.reduceNeg, List.length, Nat.zero_add, Nat.reduceMul, Nat.reduceAdd, ARun_none, AOpRun, aexec, FSt.ev, St.F, eget_c, Nat.reduceBEq, ↓eget_h, cond_false, isSh, Bool.false_eq_true, ↓reduceIte, Option.map, abin, AGo_ok, St.app, putO, eput_c, eput_n, hups, List.map, ARun_nil, dropE_c, inL_n, dropE_n, hr, decide_false])))
      all_goals (refine end_to [] [(0, 0), (16, 16)] (by first | exact .inl rfl | exact .inr rfl) rfl (by kernel_rfl) (by kernel_rfl) (by kernel_rfl) ?_ ?_ <;> repeat' (first | exact trivial | exact vr_val _ | exact vr_list _ | apply vr_fn | refine And.intro ⟨_, rfl, _, rfl, by decide, ?_⟩ ?_ | apply And.intro))
set_option maxRecDepth 100000 in
set_option maxHeartbeats 1000000 in
theorem rowC_ac (xs ys : List Int) (vs : List (List Int)) (hyl : ys.length ≤ 12) (l : List (List Int)) (hl : l.length ≤ 1000000) : AC Try.prog 138 [.list (rows l), .fn 136 [] [.ptr 0 0, .ptr 16 0]] [(0, tabC xs ys vs), (16, [.fn 135 [] []])] [(0, some (tabC xs ys vs)), (16, some [.fn 135 [] []])] (dB (l.any (rowBad ys.length))) := by
  refine kslices_ContainsFunc_L_L_J_L_Jint_K_L_Jint_J.ac (n0 := 24) (by simp) ⟨.list _, .fn _ _ _ (by simp) (by intro d hd; simp at hd; rcases hd with rfl | rfl <;> exact .ptr _ _ (by omega)), trivial⟩ (hin2 xs ys vs) rfl ?_
  unfold cslices_ContainsFunc_L_L_J_L_Jint_K_L_Jint_J
  rw [← ixOf_ge]
  (have hg : (987654321 : Nat) - 987654321 = 0 := rfl; have hr := hg; repeat' (first | refine aw_seq ?_ | (refine aw_skip ?_; try simp only [thenQ, blockQ, if_true, if_false, Nat.reduceEqDiff, reduceCtorEq]) | (refine aw_exit ?_; try simp only [thenQ, blockQ, if_true, if_false, Nat.reduceEqDiff, reduceCtorEq]) | refine aw_ret ?_ | refine aw_block ?_ | refine aw_condT rfl ?_ | refine aw_condF rfl ?_ | ((first | refine aw_region ?_ | refine acallB (rowI_ac xs ys vs hyl l hl) (by repeat' (first | exact trivial | exact rfl | refine And.intro ?_ ?_)) (by kernel_rfl) (by kernel_rfl) (by kernel_rfl) ?_ | refine ago_if (by omega) ?_ | skip); simp (config := {maxSteps := 10000000}) (disch := first | exact okYes (by kernel_rfl) | omega) only [thenQ, List.map, List.length, Nat.zero_add, Nat.reduceMul, Nat.reduceAdd, envOf, ARun_none, AOpRun, aexec, FSt.ev, AGo_ok, St.app, putO, eput_c, Nat.reduceBEq, eput_n, cond_false, hups, ARun_nil, dropE_c, inL_n, dropE_n, St.F, ↓eget_h, eget_c, dI, hput_c, beq_self_eq_true, hput_n, cond_true, List.append_nil, isSh, Bool.false_eq_true, ↓reduceIte, Option.map, abin, inL_c])))
  all_goals (refine end_to [] [(0, 0), (16, 16)] (by first | exact .inl rfl | exact .inr rfl) rfl (by kernel_rfl) (by kernel_rfl) (by kernel_rfl) ?_ ?_ <;> repeat' (first | exact trivial | exact vr_val _ | exact vr_list _ | apply vr_fn | refine And.intro ⟨_, rfl, _, rfl, by decide, ?_⟩ ?_ | apply And.intro))
set_option maxRecDepth 100000 in
set_option maxHeartbeats 1000000 in
theorem checkTable_ac (xs ys : List Int) (vs : List (List Int)) (hx : ∀ x ∈ xs, -9223372036854775808 ≤ x ∧ x ≤ 9223372036854775807) (hy : ∀ x ∈ ys, -9223372036854775808 ≤ x ∧ x ≤ 9223372036854775807) : AC Try.prog 110 [tabD xs ys vs] [] [] (dI (tabErr xs ys vs)) := by
  refine kspans_CheckTable.ac (n0 := 0) (by simp) ⟨.agg _ (by intro d hd; simp at hd; rcases hd with rfl | rfl | rfl <;> exact .list _), trivial⟩ trivial rfl ?_
  unfold cspans_CheckTable tabD
  have ax := axis_ac xs hx
  have ay := axis_ac ys hy
  cases h1 : axB xs with
  | false =>
    have e : tabErr xs ys vs = 11 := by unfold tabErr tabB; rw [h1]; rfl
    rw [e]
    (have hg : (987654321 : Nat) - 987654321 = 0 := rfl; have hr := hg; repeat' (first | refine aw_seq ?_ | (refine aw_skip ?_; try simp only [thenQ, blockQ, if_true, if_false, Nat.reduceEqDiff, reduceCtorEq]) | (refine aw_exit ?_; try simp only [thenQ, blockQ, if_true, if_false, Nat.reduceEqDiff, reduceCtorEq]) | refine aw_ret ?_ | refine aw_block ?_ | refine aw_condT rfl ?_ | refine aw_condF rfl ?_ | ((first | refine aw_region ?_ | refine acall0 (ax) ?_ | refine acall0 (ay) ?_ | refine ago_if (by omega) ?_ | skip); simp (config := {maxSteps := 10000000}) (disch := first | exact okYes (by kernel_rfl) | omega) only [thenQ, List.map, dI, List.length, Nat.zero_add, Nat.reduceAdd, Nat.reduceMul, envOf, ARun_none, AOpRun, aexec, D.isBot, FSt.ev, St.F, ↓eget_h, Bool.false_eq_true, Option.isSome, hget_n, or_self, ↓reduceIte, D.cells, AGo_ok, St.app, putO, eput_c, Nat.reduceBEq, eput_n, cond_false, hups, hput_n, ARun_nil, dropE_c, inL_n, dropE_n, hget_c, hput_c, eget_c, ↓hget_h, Nat.reduceLeDiff, List.all, D.leaf, Bool.and_true, and_self, splice, List.take, List.nil_append, List.drop, List.append_nil, beq_self_eq_true, cond_true, inL_c, Option.map, run1, List.getElem?_cons_zero, dB, h1, Bool.not_false, ARun_some, AG_tf])))
    all_goals (refine end_to [] [] (by first | exact .inl rfl | exact .inr rfl) rfl (by kernel_rfl) (by kernel_rfl) (by kernel_rfl) ?_ ?_ <;> repeat' (first | exact trivial | exact vr_val _))
  | true =>
  cases h2 : axB ys with
  | false =>
    have e : tabErr xs ys vs = 11 := by unfold tabErr tabB; rw [h1, h2]; rfl
    rw [e]
    (have hg : (987654321 : Nat) - 987654321 = 0 := rfl; have hr := hg; repeat' (first | refine aw_seq ?_ | (refine aw_skip ?_; try simp only [thenQ, blockQ, if_true, if_false, Nat.reduceEqDiff, reduceCtorEq]) | (refine aw_exit ?_; try simp only [thenQ, blockQ, if_true, if_false, Nat.reduceEqDiff, reduceCtorEq]) | refine aw_ret ?_ | refine aw_block ?_ | refine aw_condT rfl ?_ | refine aw_condF rfl ?_ | ((first | refine aw_region ?_ | refine acall0 (ax) ?_ | refine acall0 (ay) ?_ | refine ago_if (by omega) ?_ | skip); simp (config := {maxSteps := 10000000}) (disch := first | exact okYes (by kernel_rfl) | omega) only [thenQ, List.map, dI, List.length, Nat.zero_add, Nat.reduceAdd, Nat.reduceMul, envOf, ARun_none, AOpRun, aexec, D.isBot, FSt.ev, St.F, ↓eget_h, Bool.false_eq_true, Option.isSome, hget_n, or_self, ↓reduceIte, D.cells, AGo_ok, St.app, putO, eput_c, Nat.reduceBEq, eput_n, cond_false, hups, hput_n, ARun_nil, dropE_c, inL_n, dropE_n, hget_c, hput_c, eget_c, ↓hget_h, Nat.reduceLeDiff, List.all, D.leaf, Bool.and_true, and_self, splice, List.take, List.nil_append, List.drop, List.append_nil, beq_self_eq_true, cond_true, inL_c, Option.map, run1, List.getElem?_cons_zero, dB, h1, Bool.not_true, ARun_some, AG_ff, List.getElem?_cons_succ, h2, Bool.not_false, AG_tf])))
    all_goals (refine end_to [] [] (by first | exact .inl rfl | exact .inr rfl) rfl (by kernel_rfl) (by kernel_rfl) (by kernel_rfl) ?_ ?_ <;> repeat' (first | exact trivial | exact vr_val _))
  | true =>
  have x12 : 2 ≤ xs.length ∧ xs.length ≤ 12 := by
    unfold axB at h1
    have := wB_iff.1 (Bool.and_eq_true _ _ |>.mp h1).1
    omega
  have y12 : 2 ≤ ys.length ∧ ys.length ≤ 12 := by
    unfold axB at h2
    have := wB_iff.1 (Bool.and_eq_true _ _ |>.mp h2).1
    omega
  cases h3 : ((vs.length : Int) != (xs.length : Int)) with
  | true =>
    have e : tabErr xs ys vs = 11 := by unfold tabErr tabB; rw [h1, h2, h3]; rfl
    rw [e]
    (have hg : (987654321 : Nat) - 987654321 = 0 := rfl; have hr := hg; repeat' (first | refine aw_seq ?_ | (refine aw_skip ?_; try simp only [thenQ, blockQ, if_true, if_false, Nat.reduceEqDiff, reduceCtorEq]) | (refine aw_exit ?_; try simp only [thenQ, blockQ, if_true, if_false, Nat.reduceEqDiff, reduceCtorEq]) | refine aw_ret ?_ | refine aw_block ?_ | refine aw_condT rfl ?_ | refine aw_condF rfl ?_ | ((first | refine aw_region ?_ | refine acall0 (ax) ?_ | refine acall0 (ay) ?_ | refine ago_if (by omega) ?_ | skip); simp (config := {maxSteps := 10000000}) (disch := first | exact okYes (by kernel_rfl) | omega) only [thenQ, List.map, dI, List.length, Nat.zero_add, Nat.reduceAdd, Nat.reduceMul, envOf, ARun_none, AOpRun, aexec, D.isBot, FSt.ev, St.F, ↓eget_h, Bool.false_eq_true, Option.isSome, hget_n, or_self, ↓reduceIte, D.cells, AGo_ok, St.app, putO, eput_c, Nat.reduceBEq, eput_n, cond_false, hups, hput_n, ARun_nil, dropE_c, inL_n, dropE_n, hget_c, hput_c, eget_c, ↓hget_h, Nat.reduceLeDiff, List.all, D.leaf, Bool.and_true, and_self, splice, List.take, List.nil_append, List.drop, List.append_nil, beq_self_eq_true, cond_true, inL_c, Option.map, run1, List.getElem?_cons_zero, dB, h1, Bool.not_true, ARun_some, AG_ff, List.getElem?_cons_succ, h2, rows_len, ints_len, isSh, abin, h3, AG_tf])))
    all_goals (refine end_to [] [] (by first | exact .inl rfl | exact .inr rfl) rfl (by kernel_rfl) (by kernel_rfl) (by kernel_rfl) ?_ ?_ <;> repeat' (first | exact trivial | exact vr_val _))
  | false =>
  have hl : vs.length = xs.length := by simp at h3; omega
  have hrow := rowC_ac xs ys vs y12.2 vs (by omega)
  unfold tabC at hrow
  cases h4 : vs.any (rowBad ys.length) with
  | true =>
    have e : tabErr xs ys vs = 11 := by unfold tabErr tabB; rw [h1, h2, h3, h4]; rfl
    rw [e]
    (have hg : (987654321 : Nat) - 987654321 = 0 := rfl; have hr := hg; repeat' (first | refine aw_seq ?_ | (refine aw_skip ?_; try simp only [thenQ, blockQ, if_true, if_false, Nat.reduceEqDiff, reduceCtorEq]) | (refine aw_exit ?_; try simp only [thenQ, blockQ, if_true, if_false, Nat.reduceEqDiff, reduceCtorEq]) | refine aw_ret ?_ | refine aw_block ?_ | refine aw_condT rfl ?_ | refine aw_condF rfl ?_ | ((first | refine aw_region ?_ | refine acall0 (ax) ?_ | refine acall0 (ay) ?_ | refine acallB (hrow) (by repeat' (first | exact trivial | exact rfl | refine And.intro ?_ ?_)) (by kernel_rfl) (by kernel_rfl) (by kernel_rfl) ?_ | refine ago_if (by omega) ?_ | skip); simp (config := {maxSteps := 10000000}) (disch := first | exact okYes (by kernel_rfl) | omega) only [thenQ, List.map, dI, List.length, Nat.zero_add, Nat.reduceAdd, Nat.reduceMul, envOf, ARun_none, AOpRun, aexec, D.isBot, FSt.ev, St.F, ↓eget_h, Bool.false_eq_true, Option.isSome, hget_n, or_self, ↓reduceIte, D.cells, AGo_ok, St.app, putO, eput_c, Nat.reduceBEq, eput_n, cond_false, hups, hput_n, ARun_nil, dropE_c, inL_n, dropE_n, hget_c, hput_c, eget_c, ↓hget_h, Nat.reduceLeDiff, List.all, D.leaf, Bool.and_true, and_self, splice, List.take, List.nil_append, List.drop, List.append_nil, beq_self_eq_true, cond_true, inL_c, Option.map, run1, List.getElem?_cons_zero, dB, h1, Bool.not_true, ARun_some, AG_ff, List.getElem?_cons_succ, h2, rows_len, ints_len, isSh, abin, h3, h4])))
    all_goals (refine end_to [] [] (by first | exact .inl rfl | exact .inr rfl) rfl (by kernel_rfl) (by kernel_rfl) (by kernel_rfl) ?_ ?_ <;> repeat' (first | exact trivial | exact vr_val _))
  | false =>
    have e : tabErr xs ys vs = 0 := by unfold tabErr tabB; rw [h1, h2, h3, h4]; rfl
    rw [e]
    (have hg : (987654321 : Nat) - 987654321 = 0 := rfl; have hr := hg; repeat' (first | refine aw_seq ?_ | (refine aw_skip ?_; try simp only [thenQ, blockQ, if_true, if_false, Nat.reduceEqDiff, reduceCtorEq]) | (refine aw_exit ?_; try simp only [thenQ, blockQ, if_true, if_false, Nat.reduceEqDiff, reduceCtorEq]) | refine aw_ret ?_ | refine aw_block ?_ | refine aw_condT rfl ?_ | refine aw_condF rfl ?_ | ((first | refine aw_region ?_ | refine acall0 (ax) ?_ | refine acall0 (ay) ?_ | refine acallB (hrow) (by repeat' (first | exact trivial | exact rfl | refine And.intro ?_ ?_)) (by kernel_rfl) (by kernel_rfl) (by kernel_rfl) ?_ | refine ago_if (by omega) ?_ | skip); simp (config := {maxSteps := 10000000}) (disch := first | exact okYes (by kernel_rfl) | omega) only [thenQ, List.map, dI, List.length, Nat.zero_add, Nat.reduceAdd, Nat.reduceMul, envOf, ARun_none, AOpRun, aexec, D.isBot, FSt.ev, St.F, ↓eget_h, Bool.false_eq_true, Option.isSome, hget_n, or_self, ↓reduceIte, D.cells, AGo_ok, St.app, putO, eput_c, Nat.reduceBEq, eput_n, cond_false, hups, hput_n, ARun_nil, dropE_c, inL_n, dropE_n, hget_c, hput_c, eget_c, ↓hget_h, Nat.reduceLeDiff, List.all, D.leaf, Bool.and_true, and_self, splice, List.take, List.nil_append, List.drop, List.append_nil, beq_self_eq_true, cond_true, inL_c, Option.map, run1, List.getElem?_cons_zero, dB, h1, Bool.not_true, ARun_some, AG_ff, List.getElem?_cons_succ, h2, rows_len, ints_len, isSh, abin, h3, h4])))
    all_goals (refine end_to [] [] (by first | exact .inl rfl | exact .inr rfl) rfl (by kernel_rfl) (by kernel_rfl) (by kernel_rfl) ?_ ?_ <;> repeat' (first | exact trivial | exact vr_val _))
end Go.Proofs.Ytgibbaadjbohdaa
/- The hoist: its checks, the winch, what it carries. No conditions. -/
set_option linter.unusedSimpArgs false
set_option linter.unusedVariables false
namespace Go.Proofs.Ytgibbaadjbohdaa
open Go.RowKit Lift

structure Hst where
  cable : Int
  xs : List Int
  ys : List Int
  vs : List (List Int)
  charge : Int
def hoC (h : Hst) : List D := [dI h.cable, .list (ints h.xs), .list (ints h.ys), .list (rows h.vs), dI h.charge]
def hoD (h : Hst) : D := .agg (hoC h)
structure HSm (h : Hst) : Prop where
  m : TSm h.xs h.ys h.vs
  x : ∀ x ∈ h.xs, -9223372036854775808 ≤ x ∧ x ≤ 9223372036854775807
  y : ∀ x ∈ h.ys, -9223372036854775808 ≤ x ∧ x ≤ 9223372036854775807
theorem hoC_in (S : Nat → Prop) (h : Hst) : ∀ d ∈ hoC h, In S d := by
  intro d hd
  simp only [hoC, List.mem_cons, List.not_mem_nil, or_false] at hd
  rcases hd with rfl | rfl | rfl | rfl | rfl <;> first | exact .val _ | exact .list _
theorem hoD_in (S : Nat → Prop) (h : Hst) : In S (hoD h) := .agg _ (hoC_in S h)
def hoB (h : Hst) : Bool := wI h.cable 1 100 && tabB h.xs h.ys h.vs && decide (h.xs[0]?.getD 0 ≤ 0) && decide (h.cable ≤ h.xs[h.xs.length - 1]?.getD 0) && wI h.charge 0 100
def hoE (h : Hst) : Int := if hoB h = true then 0 else 71
theorem Tbl.lens {xs ys : List Int} {vs : List (List Int)} (h : Tbl xs ys vs) : (2 ≤ xs.length ∧ xs.length ≤ 12) ∧ 2 ≤ ys.length ∧ ys.length ≤ 12 := by
  have := h.ax.two; have := h.ax.twelve; have := h.ay.two; have := h.ay.twelve; omega
set_option maxRecDepth 100000 in
set_option maxHeartbeats 1000000 in
theorem checkHoist_ac (h : Hst) (hS : HSm h) : AC Try.prog 89 [hoD h] [] [] (dI (hoE h)) := by
  refine ksling_CheckHoist.ac (n0 := 0) (by simp) ⟨hoD_in _ _, trivial⟩ trivial rfl ?_
  unfold csling_CheckHoist hoD hoC
  have ct := checkTable_ac h.xs h.ys h.vs hS.x hS.y
  cases c1 : wI h.cable 1 100 with
  | false =>
    have e : hoE h = 71 := by unfold hoE hoB; rw [c1]; simp
    rw [e]
    (have hg : (987654321 : Nat) - 987654321 = 0 := rfl; have hr := hg; repeat' (first | refine aw_seq ?_ | (refine aw_skip ?_; try simp only [thenQ, blockQ, if_true, if_false, Nat.reduceEqDiff, reduceCtorEq]) | (refine aw_exit ?_; try simp only [thenQ, blockQ, if_true, if_false, Nat.reduceEqDiff, reduceCtorEq]) | refine aw_ret ?_ | refine aw_block ?_ | refine aw_condT rfl ?_ | refine aw_condF rfl ?_ | ((first | refine aw_region ?_ | refine acall0 (slwithin_ac _ _ _) ?_ | refine ago_if (by omega) ?_ | skip); simp (config := {maxSteps := 10000000}) (disch := first | exact okYes (by kernel_rfl) | omega) only [thenQ, List.map, dI, List.length, Nat.zero_add, Nat.reduceAdd, Nat.reduceMul, envOf, ARun_none, AOpRun, aexec, D.isBot, FSt.ev, St.F, ↓eget_h, Bool.false_eq_true, Option.isSome, hget_n, or_self, ↓reduceIte, D.cells, AGo_ok, St.app, putO, eput_c, Nat.reduceBEq, eput_n, cond_false, hups, hput_n, ARun_nil, dropE_c, inL_n, dropE_n, eget_c, Option.map, run1, hget_c, beq_self_eq_true, cond_true, List.getElem?_cons_succ, List.getElem?_cons_zero, inL_c, dB, c1, Bool.not_false, ARun_some, AG_tf])))
    all_goals (refine end_to [] [] (by first | exact .inl rfl | exact .inr rfl) rfl (by kernel_rfl) (by kernel_rfl) (by kernel_rfl) ?_ ?_ <;> repeat' (first | exact trivial | exact vr_val _))
  | true =>
  cases c2 : tabB h.xs h.ys h.vs with
  | false =>
    have e : hoE h = 71 := by unfold hoE hoB; rw [c2]; simp
    have e2 : tabErr h.xs h.ys h.vs = 11 := by unfold tabErr; rw [c2]; rfl
    rw [e]
    (have hg : (987654321 : Nat) - 987654321 = 0 := rfl; have hr := hg; repeat' (first | refine aw_seq ?_ | (refine aw_skip ?_; try simp only [thenQ, blockQ, if_true, if_false, Nat.reduceEqDiff, reduceCtorEq]) | (refine aw_exit ?_; try simp only [thenQ, blockQ, if_true, if_false, Nat.reduceEqDiff, reduceCtorEq]) | refine aw_ret ?_ | refine aw_block ?_ | refine aw_condT rfl ?_ | refine aw_condF rfl ?_ | ((first | refine aw_region ?_ | refine acall0 (slwithin_ac _ _ _) ?_ | refine acall0 (ct) ?_ | refine ago_if (by omega) ?_ | skip); simp (config := {maxSteps := 10000000}) (disch := first | exact okYes (by kernel_rfl) | omega) only [thenQ, List.map, dI, List.length, Nat.zero_add, Nat.reduceAdd, Nat.reduceMul, envOf, ARun_none, AOpRun, aexec, D.isBot, FSt.ev, St.F, ↓eget_h, Bool.false_eq_true, Option.isSome, hget_n, or_self, ↓reduceIte, D.cells, AGo_ok, St.app, putO, eput_c, Nat.reduceBEq, eput_n, cond_false, hups, hput_n, ARun_nil, dropE_c, inL_n, dropE_n, eget_c, Option.map, run1, hget_c, beq_self_eq_true, cond_true, List.getElem?_cons_succ, List.getElem?_cons_zero, inL_c, dB, c1, Bool.not_true, ARun_some, AG_ff, Nat.reduceLeDiff, List.drop, List.take, e2, isSh, abin, Int.reduceBNe, AG_tf])))
    all_goals (refine end_to [] [] (by first | exact .inl rfl | exact .inr rfl) rfl (by kernel_rfl) (by kernel_rfl) (by kernel_rfl) ?_ ?_ <;> repeat' (first | exact trivial | exact vr_val _))
  | true =>
  have e2 : tabErr h.xs h.ys h.vs = 0 := by unfold tabErr; rw [c2]; rfl
  have hl := (tbl_of c2).lens
  have g0 := ints_gd h.xs 0 (by omega)
  have gl := ints_gd h.xs (h.xs.length - 1) (by omega)
  have tn : ((h.xs.length : Int) - 1).toNat = h.xs.length - 1 := by omega
  have hlt : h.xs.length - 1 < h.xs.length := by omega
  cases c3 : decide (h.xs[0]?.getD 0 > 0) with
  | true =>
    have e : hoE h = 71 := by
      have := of_decide_eq_true c3
      unfold hoE hoB; rw [decide_eq_false (by omega : ¬ h.xs[0]?.getD 0 ≤ 0)]; simp
    rw [e]
    (have hg : (987654321 : Nat) - 987654321 = 0 := rfl; have hr := hg; repeat' (first | refine aw_seq ?_ | (refine aw_skip ?_; try simp only [thenQ, blockQ, if_true, if_false, Nat.reduceEqDiff, reduceCtorEq]) | (refine aw_exit ?_; try simp only [thenQ, blockQ, if_true, if_false, Nat.reduceEqDiff, reduceCtorEq]) | refine aw_ret ?_ | refine aw_block ?_ | refine aw_condT rfl ?_ | refine aw_condF rfl ?_ | ((first | refine aw_region ?_ | refine acall0 (slwithin_ac _ _ _) ?_ | refine acall0 (ct) ?_ | refine ago_if (by omega) ?_ | skip); simp (config := {maxSteps := 10000000}) (disch := first | exact okYes (by kernel_rfl) | omega) only [thenQ, List.map, dI, List.length, Nat.zero_add, Nat.reduceAdd, Nat.reduceMul, envOf, ARun_none, AOpRun, aexec, D.isBot, FSt.ev, St.F, ↓eget_h, Bool.false_eq_true, Option.isSome, hget_n, or_self, ↓reduceIte, D.cells, AGo_ok, St.app, putO, eput_c, Nat.reduceBEq, eput_n, cond_false, hups, hput_n, ARun_nil, dropE_c, inL_n, dropE_n, eget_c, Option.map, run1, hget_c, beq_self_eq_true, cond_true, List.getElem?_cons_succ, List.getElem?_cons_zero, inL_c, dB, c1, Bool.not_true, ARun_some, AG_ff, Nat.reduceLeDiff, List.drop, List.take, e2, isSh, abin, bne_self_eq_false, Int.le_refl, ints_all, and_self, opt1, Int.toNat_zero, g0, c3, AG_tf])))
    all_goals (refine end_to [] [] (by first | exact .inl rfl | exact .inr rfl) rfl (by kernel_rfl) (by kernel_rfl) (by kernel_rfl) ?_ ?_ <;> repeat' (first | exact trivial | exact vr_val _))
  | false =>
  cases c4 : decide (h.xs[h.xs.length - 1]?.getD 0 < h.cable) with
  | true =>
    have e : hoE h = 71 := by
      have := of_decide_eq_true c4
      unfold hoE hoB; rw [decide_eq_false (by omega : ¬ h.cable ≤ h.xs[h.xs.length - 1]?.getD 0)]; simp
    rw [e]
    (have hg : (987654321 : Nat) - 987654321 = 0 := rfl; have hr := hg; repeat' (first | refine aw_seq ?_ | (refine aw_skip ?_; try simp only [thenQ, blockQ, if_true, if_false, Nat.reduceEqDiff, reduceCtorEq]) | (refine aw_exit ?_; try simp only [thenQ, blockQ, if_true, if_false, Nat.reduceEqDiff, reduceCtorEq]) | refine aw_ret ?_ | refine aw_block ?_ | refine aw_condT rfl ?_ | refine aw_condF rfl ?_ | ((first | refine aw_region ?_ | refine acall0 (slwithin_ac _ _ _) ?_ | refine acall0 (ct) ?_ | refine ago_if (by omega) ?_ | skip); simp (config := {maxSteps := 10000000}) (disch := first | exact okYes (by kernel_rfl) | omega) only [thenQ, List.map, dI, List.length, Nat.zero_add, Nat.reduceAdd, Nat.reduceMul, envOf, ARun_none, AOpRun, aexec, D.isBot, FSt.ev, St.F, ↓eget_h, Bool.false_eq_true, Option.isSome, hget_n, or_self, ↓reduceIte, D.cells, AGo_ok, St.app, putO, eput_c, Nat.reduceBEq, eput_n, cond_false, hups, hput_n, ARun_nil, dropE_c, inL_n, dropE_n, eget_c, Option.map, run1, hget_c, beq_self_eq_true, cond_true, List.getElem?_cons_succ, List.getElem?_cons_zero, inL_c, dB, c1, Bool.not_true, ARun_some, AG_ff, Nat.reduceLeDiff, List.drop, List.take, e2, isSh, abin, bne_self_eq_false, Int.le_refl, ints_all, and_self, opt1, Int.toNat_zero, g0, c3, ints_len, fits, and_true, tn, gl, c4, AG_tf])))
    all_goals (refine end_to [] [] (by first | exact .inl rfl | exact .inr rfl) rfl (by kernel_rfl) (by kernel_rfl) (by kernel_rfl) ?_ ?_ <;> repeat' (first | exact trivial | exact vr_val _))
  | false =>
  have f3 := of_decide_eq_false c3
  have f4 := of_decide_eq_false c4
  cases c5 : wI h.charge 0 100 with
  | false =>
    have e : hoE h = 71 := by unfold hoE hoB; rw [c5]; simp
    rw [e]
    (have hg : (987654321 : Nat) - 987654321 = 0 := rfl; have hr := hg; repeat' (first | refine aw_seq ?_ | (refine aw_skip ?_; try simp only [thenQ, blockQ, if_true, if_false, Nat.reduceEqDiff, reduceCtorEq]) | (refine aw_exit ?_; try simp only [thenQ, blockQ, if_true, if_false, Nat.reduceEqDiff, reduceCtorEq]) | refine aw_ret ?_ | refine aw_block ?_ | refine aw_condT rfl ?_ | refine aw_condF rfl ?_ | ((first | refine aw_region ?_ | refine acall0 (slwithin_ac _ _ _) ?_ | refine acall0 (ct) ?_ | refine ago_if (by omega) ?_ | skip); simp (config := {maxSteps := 10000000}) (disch := first | exact okYes (by kernel_rfl) | omega) only [thenQ, List.map, dI, List.length, Nat.zero_add, Nat.reduceAdd, Nat.reduceMul, envOf, ARun_none, AOpRun, aexec, D.isBot, FSt.ev, St.F, ↓eget_h, Bool.false_eq_true, Option.isSome, hget_n, or_self, ↓reduceIte, D.cells, AGo_ok, St.app, putO, eput_c, Nat.reduceBEq, eput_n, cond_false, hups, hput_n, ARun_nil, dropE_c, inL_n, dropE_n, eget_c, Option.map, run1, hget_c, beq_self_eq_true, cond_true, List.getElem?_cons_succ, List.getElem?_cons_zero, inL_c, dB, c1, Bool.not_true, ARun_some, AG_ff, Nat.reduceLeDiff, List.drop, List.take, e2, isSh, abin, bne_self_eq_false, Int.le_refl, ints_all, and_self, opt1, Int.toNat_zero, g0, c3, ints_len, fits, and_true, tn, gl, c4, c5, Bool.not_false])))
    all_goals (refine end_to [] [] (by first | exact .inl rfl | exact .inr rfl) rfl (by kernel_rfl) (by kernel_rfl) (by kernel_rfl) ?_ ?_ <;> repeat' (first | exact trivial | exact vr_val _))
  | true =>
    have e : hoE h = 0 := by unfold hoE hoB; rw [c1, c2, c5, decide_eq_true (by omega : h.xs[0]?.getD 0 ≤ 0), decide_eq_true (by omega : h.cable ≤ h.xs[h.xs.length - 1]?.getD 0)]; rfl
    rw [e]
    (have hg : (987654321 : Nat) - 987654321 = 0 := rfl; have hr := hg; repeat' (first | refine aw_seq ?_ | (refine aw_skip ?_; try simp only [thenQ, blockQ, if_true, if_false, Nat.reduceEqDiff, reduceCtorEq]) | (refine aw_exit ?_; try simp only [thenQ, blockQ, if_true, if_false, Nat.reduceEqDiff, reduceCtorEq]) | refine aw_ret ?_ | refine aw_block ?_ | refine aw_condT rfl ?_ | refine aw_condF rfl ?_ | ((first | refine aw_region ?_ | refine acall0 (slwithin_ac _ _ _) ?_ | refine acall0 (ct) ?_ | refine ago_if (by omega) ?_ | skip); simp (config := {maxSteps := 10000000}) (disch := first | exact okYes (by kernel_rfl) | omega) only [thenQ, List.map, dI, List.length, Nat.zero_add, Nat.reduceAdd, Nat.reduceMul, envOf, ARun_none, AOpRun, aexec, D.isBot, FSt.ev, St.F, ↓eget_h, Bool.false_eq_true, Option.isSome, hget_n, or_self, ↓reduceIte, D.cells, AGo_ok, St.app, putO, eput_c, Nat.reduceBEq, eput_n, cond_false, hups, hput_n, ARun_nil, dropE_c, inL_n, dropE_n, eget_c, Option.map, run1, hget_c, beq_self_eq_true, cond_true, List.getElem?_cons_succ, List.getElem?_cons_zero, inL_c, dB, c1, Bool.not_true, ARun_some, AG_ff, Nat.reduceLeDiff, List.drop, List.take, e2, isSh, abin, bne_self_eq_false, Int.le_refl, ints_all, and_self, opt1, Int.toNat_zero, g0, c3, ints_len, fits, and_true, tn, gl, c4, c5])))
    all_goals (refine end_to [] [] (by first | exact .inl rfl | exact .inr rfl) rfl (by kernel_rfl) (by kernel_rfl) (by kernel_rfl) ?_ ?_ <;> repeat' (first | exact trivial | exact vr_val _))
structure HoOk (h : Hst) : Prop where
  c1 : 1 ≤ h.cable
  c2 : h.cable ≤ 100
  t : Tbl h.xs h.ys h.vs
  tb : tabB h.xs h.ys h.vs = true
  x1 : h.xs[0]?.getD 0 ≤ 0
  x2 : h.cable ≤ h.xs[h.xs.length - 1]?.getD 0
  g1 : 0 ≤ h.charge
  g2 : h.charge ≤ 100
theorem hoE_ok {h : Hst} (e : hoE h = 0) : HoOk h := by
  unfold hoE at e
  split at e
  · rename_i hb
    simp only [hoB, Bool.and_eq_true, decide_eq_true_eq] at hb
    obtain ⟨⟨⟨⟨a1, a2⟩, a3⟩, a4⟩, a5⟩ := hb
    have b1 := wI_t a1
    have b5 := wI_t a5
    exact ⟨b1.1, b1.2, tbl_of a2, a2, a3, a4, b5.1, b5.2⟩
  · omega
/-- how a hoist stands -/
structure Hng where
  len : Int
  wt : Int
  since : Int
  cyc : Int
  cut : Bool
def hng0 : Hng := ⟨0, 0, 0, 0, false⟩
def hgC (k : Hng) : List D := [dI k.len, dI k.wt, dI k.since, dI k.cyc, dB k.cut]
def wiC (h : Hst) (wd : Int × Int) (k : Hng) (t : Bool) : List D := [dI h.cable, .list (ints h.xs), .list (ints h.ys), .list (rows h.vs), dI h.charge, dI wd.1, dI wd.2, dI k.len, dI k.wt, dI k.since, dI k.cyc, dB k.cut, dB t]
theorem wiC_in (S : Nat → Prop) (h : Hst) (wd : Int × Int) (k : Hng) (t : Bool) : ∀ d ∈ wiC h wd k t, In S d := by
  intro d hd
  simp only [wiC, List.mem_cons, List.not_mem_nil, or_false] at hd
  rcases hd with rfl | rfl | rfl | rfl | rfl | rfl | rfl | rfl | rfl | rfl | rfl | rfl | rfl <;> first | exact .val _ | exact .list _
def wiE (h : Hst) (wd : Int × Int) : Int := if hoE h = 0 then (if okS wd = true then 0 else 10) else hoE h
set_option maxRecDepth 100000 in
set_option maxHeartbeats 1000000 in
theorem newWinchE_ac (h : Hst) (wd : Int × Int) (hS : HSm h) (he : wiE h wd ≠ 0) : AC Try.prog 48 [hoD h, spD wd] [] [] (.tup [.val (.pointer none), dB false, dI (wiE h wd)]) := by
  refine ksling_newWinch.ac (n0 := 0) (by simp) ⟨hoD_in _ _, in_agg2 _ _ _, trivial⟩ trivial rfl ?_
  unfold csling_newWinch hoD hoC spD
  have hcb : AC Try.prog 77 [.list (sps [wd])] [] [] (dI (boxE [wd])) := check_ac [wd]
  rw [box1] at hcb
  have ch := checkHoist_ac h hS
  unfold hoD hoC at ch
  by_cases h1 : hoE h = 0
  case neg =>
    have e1 : wiE h wd = hoE h := if_neg h1
    rw [e1]
    (have hg : (987654321 : Nat) - 987654321 = 0 := rfl; have hr := hg; repeat' (first | refine aw_seq ?_ | (refine aw_skip ?_; try simp only [thenQ, blockQ, if_true, if_false, Nat.reduceEqDiff, reduceCtorEq]) | (refine aw_exit ?_; try simp only [thenQ, blockQ, if_true, if_false, Nat.reduceEqDiff, reduceCtorEq]) | refine aw_ret ?_ | refine aw_block ?_ | refine aw_condT rfl ?_ | refine aw_condF rfl ?_ | (refine aw_cond rfl (fun hg => ?_) (fun hg => ?_) <;> (try (have hq := hg; simp only [Bool.not_eq_true', Bool.not_eq_false', Bool.and_eq_true, Bool.and_eq_false_iff, Bool.or_eq_true, Bool.or_eq_false_iff, decide_eq_true_eq, decide_eq_false_iff_not, bne_iff_ne, beq_iff_eq, beq_eq_false_iff_ne, bne_eq_false_iff_eq, ne_eq, Int.not_lt, Int.not_le, Decidable.not_not] at hq)) <;> (try (have hr := hg; simp only [decide_eq_true_eq, decide_eq_false_iff_not] at hr)) <;> (try (exfalso; omega))) | ((first | refine aw_region ?_ | refine acall0 (ch) ?_ | refine ago_if (by omega) ?_ | skip); simp (config := {maxSteps := 10000000}) (disch := first | exact okYes (by kernel_rfl) | omega) only [thenQ, List.map, dB, dI, List.length, Nat.zero_add, Nat.reduceAdd, Nat.reduceMul, envOf, ARun_none, AOpRun, aexec, D.isBot, FSt.ev, St.F, ↓eget_h, Bool.false_eq_true, Option.isSome, hget_n, or_self, ↓reduceIte, D.cells, AGo_ok, St.app, putO, eput_c, Nat.reduceBEq, eput_n, cond_false, hups, hput_n, eget_c, hget_c, hput_c, ARun_nil, dropE_c, inL_n, dropE_n, beq_self_eq_true, cond_true, Nat.reduceLeDiff, List.drop, List.take, inL_c, isSh, Option.map, abin, hg])))
    all_goals (refine end_to [] [] (by first | exact .inl rfl | exact .inr rfl) rfl (by kernel_rfl) (by kernel_rfl) (by kernel_rfl) ?_ ?_ <;> repeat' (first | exact trivial | exact vr_val _ | apply vr_tup | apply And.intro))
  have e1 : wiE h wd = if okS wd = true then 0 else 10 := if_pos h1
  cases h2 : okS wd with
  | true => rw [e1, h2] at he; exact absurd rfl he
  | false =>
    rw [e1]
    (have hg : (987654321 : Nat) - 987654321 = 0 := rfl; have hr := hg; iterate 30 (try (first | refine aw_seq ?_ | (refine aw_skip ?_; try simp only [thenQ, blockQ, if_true, if_false, Nat.reduceEqDiff, reduceCtorEq]) | (refine aw_exit ?_; try simp only [thenQ, blockQ, if_true, if_false, Nat.reduceEqDiff, reduceCtorEq]) | refine aw_ret ?_ | refine aw_block ?_ | refine aw_condT rfl ?_ | refine aw_condF rfl ?_ | ((first | refine aw_region ?_ | refine acall0 (ch) ?_ | refine ago_if (by omega) ?_ | skip); simp (config := {maxSteps := 10000000}) (disch := first | exact okYes (by kernel_rfl) | omega) only [thenQ, List.map, dB, dI, List.length, Nat.zero_add, Nat.reduceAdd, Nat.reduceMul, envOf, ARun_none, AOpRun, aexec, D.isBot, FSt.ev, St.F, ↓eget_h, Bool.false_eq_true, Option.isSome, hget_n, or_self, ↓reduceIte, D.cells, AGo_ok, St.app, putO, eput_c, Nat.reduceBEq, eput_n, cond_false, hups, hput_n, eget_c, hget_c, hput_c, ARun_nil, dropE_c, inL_n, dropE_n, beq_self_eq_true, cond_true, Nat.reduceLeDiff, List.drop, List.take, h1, inL_c, isSh, Option.map, abin, bne_self_eq_false, ↓hget_h, fillD, ne_eq, not_true_eq_false, Nat.reduceGT, splice, List.nil_append, List.append_nil]))))
    refine acallV1 hcb (.val _) rfl (sps_two _) rfl rfl (by intro d hd; simp at hd; rcases hd with rfl | rfl <;> exact .val _) (by kernel_rfl) ?_
    (have hg : (987654321 : Nat) - 987654321 = 0 := rfl; have hr := hg; repeat' (first | refine aw_seq ?_ | (refine aw_skip ?_; try simp only [thenQ, blockQ, if_true, if_false, Nat.reduceEqDiff, reduceCtorEq]) | (refine aw_exit ?_; try simp only [thenQ, blockQ, if_true, if_false, Nat.reduceEqDiff, reduceCtorEq]) | refine aw_ret ?_ | refine aw_block ?_ | refine aw_condT rfl ?_ | refine aw_condF rfl ?_ | ((first | refine aw_region ?_ | refine ago_if (by omega) ?_ | skip); simp (config := {maxSteps := 10000000}) (disch := first | exact okYes (by kernel_rfl) | omega) only [h2, Bool.false_eq_true, ↓reduceIte, Nat.reduceAdd, St.app, putO, dI, eput_c, Nat.reduceBEq, eput_n, cond_false, hups, ARun_none, AOpRun, aexec, FSt.ev, St.F, eget_c, ↓eget_h, AGo_ok, List.map, ARun_nil, dropE_c, inL_c, inL_n, beq_self_eq_true, cond_true, dropE_n, thenQ, List.length, Nat.zero_add, Nat.reduceMul, isSh, Option.map, abin, Int.reduceBNe])))
    all_goals (refine end_to [] [] (by first | exact .inl rfl | exact .inr rfl) rfl (by kernel_rfl) (by kernel_rfl) (by kernel_rfl) ?_ ?_ <;> repeat' (first | exact trivial | exact vr_val _ | apply vr_tup | apply And.intro))
set_option maxRecDepth 100000 in
set_option maxHeartbeats 1000000 in
theorem newWinchO_ac (h : Hst) (wd : Int × Int) (hS : HSm h) (he : wiE h wd = 0) : AC Try.prog 48 [hoD h, spD wd] [] [(48, some (wiC h wd hng0 false))] (.tup [.ptr 48 0, dB (liesB h.ys wd), dI 0]) := by
  refine ksling_newWinch.ac (n0 := 0) (by simp) ⟨hoD_in _ _, in_agg2 _ _ _, trivial⟩ trivial rfl ?_
  unfold csling_newWinch hoD hoC spD
  have hcb : AC Try.prog 77 [.list (sps [wd])] [] [] (dI (boxE [wd])) := check_ac [wd]
  rw [box1] at hcb
  have ch := checkHoist_ac h hS
  unfold hoD hoC at ch
  have h1 : hoE h = 0 := by
    by_cases h1 : hoE h = 0
    · exact h1
    · exact absurd ((if_neg h1).symm.trans he) h1
  have h2 : okS wd = true := by
    have e1 : wiE h wd = if okS wd = true then 0 else 10 := if_pos h1
    cases h2 : okS wd with
    | true => rfl
    | false => rw [e1, h2] at he; simp at he
  have hO := hoE_ok h1
  have hl := hO.t.lens
  have g0 := ints_gd h.ys 0 (by omega)
  have gl := ints_gd h.ys (h.ys.length - 1) (by omega)
  have tn : ((h.ys.length : Int) - 1).toNat = h.ys.length - 1 := by omega
  have hlt : h.ys.length - 1 < h.ys.length := by omega
  unfold liesB
  (have hg : (987654321 : Nat) - 987654321 = 0 := rfl; have hr := hg; iterate 30 (try (first | refine aw_seq ?_ | (refine aw_skip ?_; try simp only [thenQ, blockQ, if_true, if_false, Nat.reduceEqDiff, reduceCtorEq]) | (refine aw_exit ?_; try simp only [thenQ, blockQ, if_true, if_false, Nat.reduceEqDiff, reduceCtorEq]) | refine aw_ret ?_ | refine aw_block ?_ | refine aw_condT rfl ?_ | refine aw_condF rfl ?_ | ((first | refine aw_region ?_ | refine acall0 (ch) ?_ | refine ago_if (by omega) ?_ | skip); simp (config := {maxSteps := 10000000}) (disch := first | exact okYes (by kernel_rfl) | omega) only [thenQ, List.map, dB, dI, List.length, Nat.zero_add, Nat.reduceAdd, Nat.reduceMul, envOf, ARun_none, AOpRun, aexec, D.isBot, FSt.ev, St.F, ↓eget_h, Bool.false_eq_true, Option.isSome, hget_n, or_self, ↓reduceIte, D.cells, AGo_ok, St.app, putO, eput_c, Nat.reduceBEq, eput_n, cond_false, hups, hput_n, eget_c, hget_c, hput_c, ARun_nil, dropE_c, inL_n, dropE_n, beq_self_eq_true, cond_true, Nat.reduceLeDiff, List.drop, List.take, h1, inL_c, isSh, Option.map, abin, bne_self_eq_false, ↓hget_h, fillD, ne_eq, not_true_eq_false, Nat.reduceGT, splice, List.nil_append, List.append_nil]))))
  refine acallV1 hcb (.val _) rfl (sps_two _) rfl rfl (by intro d hd; simp at hd; rcases hd with rfl | rfl <;> exact .val _) (by kernel_rfl) ?_
  cases c1 : decide (h.ys[0]?.getD 0 ≤ wd.1) with
  | false =>
    (have hg : (987654321 : Nat) - 987654321 = 0 := rfl; have hr := hg; repeat' (first | refine aw_seq ?_ | (refine aw_skip ?_; try simp only [thenQ, blockQ, if_true, if_false, Nat.reduceEqDiff, reduceCtorEq]) | (refine aw_exit ?_; try simp only [thenQ, blockQ, if_true, if_false, Nat.reduceEqDiff, reduceCtorEq]) | refine aw_ret ?_ | refine aw_block ?_ | refine aw_condT rfl ?_ | refine aw_condF rfl ?_ | ((first | refine aw_region ?_ | refine ago_if (by omega) ?_ | skip); simp (config := {maxSteps := 10000000}) (disch := first | exact okYes (by kernel_rfl) | omega) only [Bool.false_and, Nat.reduceAdd, St.app, putO, dI, h2, ↓reduceIte, eput_c, Nat.reduceBEq, eput_n, cond_false, hups, ARun_none, AOpRun, aexec, FSt.ev, St.F, eget_c, ↓eget_h, AGo_ok, List.map, ARun_nil, dropE_c, inL_c, inL_n, beq_self_eq_true, cond_true, dropE_n, thenQ, List.length, Nat.zero_add, Nat.reduceMul, isSh, Bool.false_eq_true, Option.map, abin, bne_self_eq_false, run1, hget_c, hget_n, List.getElem?_cons_succ, List.getElem?_cons_zero, Nat.reduceLeDiff, List.drop, List.take, ↓hget_h, fillD, D.isBot, D.cells, ne_eq, not_true_eq_false, Nat.reduceGT, or_self, splice, List.nil_append, List.cons_append, Option.isSome, hput_c, hput_n, Int.le_refl, ints_all, and_self, opt1, Int.toNat_zero, g0, ge_iff_le, c1, ARun_some, AG_ft])))
    refine end_to [] [(48, 184)] (by first | exact .inl rfl | exact .inr rfl) rfl (by kernel_rfl) (by kernel_rfl) (by kernel_rfl) ?_ ?_ <;> repeat' (first | exact trivial | exact vr_val _ | exact vr_list _ | exact vr_ptr _ _ _ rfl | apply vr_tup | refine And.intro ⟨_, rfl, _, rfl, by decide, ?_⟩ ?_ | apply And.intro)
  | true =>
    (have hg : (987654321 : Nat) - 987654321 = 0 := rfl; have hr := hg; repeat' (first | refine aw_seq ?_ | (refine aw_skip ?_; try simp only [thenQ, blockQ, if_true, if_false, Nat.reduceEqDiff, reduceCtorEq]) | (refine aw_exit ?_; try simp only [thenQ, blockQ, if_true, if_false, Nat.reduceEqDiff, reduceCtorEq]) | refine aw_ret ?_ | refine aw_block ?_ | refine aw_condT rfl ?_ | refine aw_condF rfl ?_ | ((first | refine aw_region ?_ | refine ago_if (by omega) ?_ | skip); simp (config := {maxSteps := 10000000}) (disch := first | exact okYes (by kernel_rfl) | omega) only [Bool.true_and, Nat.reduceAdd, St.app, putO, dI, h2, ↓reduceIte, eput_c, Nat.reduceBEq, eput_n, cond_false, hups, ARun_none, AOpRun, aexec, FSt.ev, St.F, eget_c, ↓eget_h, AGo_ok, List.map, ARun_nil, dropE_c, inL_c, inL_n, beq_self_eq_true, cond_true, dropE_n, thenQ, List.length, Nat.zero_add, Nat.reduceMul, isSh, Bool.false_eq_true, Option.map, abin, bne_self_eq_false, run1, hget_c, hget_n, List.getElem?_cons_succ, List.getElem?_cons_zero, Nat.reduceLeDiff, List.drop, List.take, ↓hget_h, fillD, D.isBot, D.cells, ne_eq, not_true_eq_false, Nat.reduceGT, or_self, splice, List.nil_append, List.cons_append, Option.isSome, hput_c, hput_n, Int.le_refl, ints_all, and_self, opt1, Int.toNat_zero, g0, ge_iff_le, c1, ARun_some, AG_tt, ints_len, fits, and_true, tn, gl])))
    refine end_to [] [(48, 184)] (by first | exact .inl rfl | exact .inr rfl) rfl (by kernel_rfl) (by kernel_rfl) (by kernel_rfl) ?_ ?_ <;> repeat' (first | exact trivial | exact vr_val _ | exact vr_list _ | exact vr_ptr _ _ _ rfl | apply vr_tup | refine And.intro ⟨_, rfl, _, rfl, by decide, ?_⟩ ?_ | apply And.intro)
set_option maxRecDepth 100000 in
set_option maxHeartbeats 1000000 in
theorem at_ac (n : Int) : AC Try.prog 52 [dI n] [] [] (spD (n, n)) := by
  refine ksling_at.ac (n0 := 0) (by simp) ⟨.val _, trivial⟩ trivial rfl ?_
  unfold csling_at
  (have hg : (987654321 : Nat) - 987654321 = 0 := rfl; have hr := hg; repeat' (first | refine aw_seq ?_ | (refine aw_skip ?_; try simp only [thenQ, blockQ, if_true, if_false, Nat.reduceEqDiff, reduceCtorEq]) | (refine aw_exit ?_; try simp only [thenQ, blockQ, if_true, if_false, Nat.reduceEqDiff, reduceCtorEq]) | refine aw_ret ?_ | refine aw_block ?_ | refine aw_condT rfl ?_ | refine aw_condF rfl ?_ | ((first | refine aw_region ?_ | refine ago_if (by omega) ?_ | skip); simp (config := {maxSteps := 10000000}) (disch := first | exact okYes (by kernel_rfl) | omega) only [thenQ, List.map, List.length, Nat.zero_add, Nat.reduceMul, envOf, dI, ARun_none, AOpRun, aexec, Option.isSome, hget_n, Bool.false_eq_true, ↓reduceIte, AGo_ok, St.app, putO, eput_c, Nat.reduceBEq, eput_n, cond_false, hups, hput_n, ARun_nil, dropE_c, inL_n, dropE_n, Nat.reduceAdd, FSt.ev, St.F, ↓eget_h, Option.map, fillD, D.isBot, eget_c, D.cells, ne_eq, not_true_eq_false, Nat.reduceGT, or_self, splice, List.take, List.nil_append, List.drop, List.cons_append, List.append_nil, hget_c, beq_self_eq_true, cond_true, Nat.reduceLeDiff, List.all, D.leaf, Bool.and_true, and_self, hput_c, inL_c])))
  all_goals (refine end_to [] [] (by first | exact .inl rfl | exact .inr rfl) rfl (by kernel_rfl) (by kernel_rfl) (by kernel_rfl) ?_ ?_ <;> repeat' (first | exact trivial | exact vr_val _ | apply vr_agg | apply And.intro))
def caB (h : Hst) (wd x : Int × Int) (w : Int) : Bool := decide (w = 0) || (decide ((boundR h.xs h.ys h.vs x wd).2 = 0) && decide (w ≤ (boundR h.xs h.ys h.vs x wd).1.1))
set_option maxRecDepth 100000 in
set_option maxHeartbeats 1000000 in
theorem carries_ac (h : Hst) (wd x : Int × Int) (w : Int) (k : Hng) (t : Bool) (hO : HoOk h) : AC Try.prog 51 [.ptr 48 0, spD x, dI w] [(48, wiC h wd k t)] [(48, some (wiC h wd k t))] (dB (caB h wd x w)) := by
  refine kpsling_winch_carries.ac (n0 := 56) (by simp) ⟨.ptr _ _ (by omega), in_agg2 _ _ _, .val _, trivial⟩ ⟨⟨by omega, wiC_in _ _ _ _ _⟩, trivial⟩ rfl ?_
  unfold cpsling_winch_carries wiC spD
  have hb := bound_ac x wd hO.t.sz
  by_cases h1 : w = 0
  · subst h1
    have e : caB h wd x 0 = true := by simp [caB]
    rw [e]
    (have hg : (987654321 : Nat) - 987654321 = 0 := rfl; have hr := hg; repeat' (first | refine aw_seq ?_ | (refine aw_skip ?_; try simp only [thenQ, blockQ, if_true, if_false, Nat.reduceEqDiff, reduceCtorEq]) | (refine aw_exit ?_; try simp only [thenQ, blockQ, if_true, if_false, Nat.reduceEqDiff, reduceCtorEq]) | refine aw_ret ?_ | refine aw_block ?_ | refine aw_condT rfl ?_ | refine aw_condF rfl ?_ | ((first | refine aw_region ?_ | refine ago_if (by omega) ?_ | skip); simp (config := {maxSteps := 10000000}) (disch := first | exact okYes (by kernel_rfl) | omega) only [thenQ, List.map, dI, dB, List.length, Nat.zero_add, Nat.reduceAdd, Nat.reduceMul, envOf, ARun_none, AOpRun, aexec, D.isBot, FSt.ev, St.F, eget_c, Nat.reduceBEq, ↓eget_h, cond_false, Bool.false_eq_true, Option.isSome, hget_c, hget_n, or_self, ↓reduceIte, D.cells, AGo_ok, St.app, putO, eput_c, eput_n, hups, hput_c, hput_n, ARun_nil, dropE_c, inL_n, dropE_n, isSh, Option.map, abin, beq_self_eq_true, inL_c, cond_true])))
    all_goals (refine end_to [] [(48, 48)] (by first | exact .inl rfl | exact .inr rfl) rfl (by kernel_rfl) (by kernel_rfl) (by kernel_rfl) ?_ ?_ <;> repeat' (first | exact trivial | exact vr_val _ | exact vr_list _ | refine And.intro ⟨_, rfl, _, rfl, by decide, ?_⟩ ?_ | apply And.intro))
  have e0 : ((w == 0) : Bool) = false := by simpa using h1
  have e1 : decide (w = 0) = false := decide_eq_false h1
  cases c1 : decide ((boundR h.xs h.ys h.vs x wd).2 = 0) with
  | true =>
    have e : caB h wd x w = decide (w ≤ (boundR h.xs h.ys h.vs x wd).1.1) := by unfold caB; rw [e1, c1]; rfl
    have c2 := of_decide_eq_true c1
    rw [e]
    (have hg : (987654321 : Nat) - 987654321 = 0 := rfl; have hr := hg; repeat' (first | refine aw_seq ?_ | (refine aw_skip ?_; try simp only [thenQ, blockQ, if_true, if_false, Nat.reduceEqDiff, reduceCtorEq]) | (refine aw_exit ?_; try simp only [thenQ, blockQ, if_true, if_false, Nat.reduceEqDiff, reduceCtorEq]) | refine aw_ret ?_ | refine aw_block ?_ | refine aw_condT rfl ?_ | refine aw_condF rfl ?_ | ((first | refine aw_region ?_ | refine acall0 (hb) ?_ | refine ago_if (by omega) ?_ | skip); simp (config := {maxSteps := 10000000}) (disch := first | exact okYes (by kernel_rfl) | omega) only [thenQ, List.map, dI, dB, List.length, Nat.zero_add, Nat.reduceAdd, Nat.reduceMul, envOf, ARun_none, AOpRun, aexec, D.isBot, FSt.ev, St.F, eget_c, Nat.reduceBEq, ↓eget_h, cond_false, Bool.false_eq_true, Option.isSome, hget_c, hget_n, or_self, ↓reduceIte, D.cells, AGo_ok, St.app, putO, eput_c, eput_n, hups, hput_c, hput_n, ARun_nil, dropE_c, inL_n, dropE_n, isSh, Option.map, abin, e0, inL_c, beq_self_eq_true, cond_true, Nat.reduceLeDiff, List.drop, List.take, ↓hget_h, spD, c2, opt1, List.getElem?_cons_zero, List.getElem?_cons_succ, List.all, D.leaf, Bool.and_true, and_self, splice, List.nil_append, List.append_nil, ARun_some, AG_tt, run1, ge_iff_le])))
    all_goals (refine end_to [] [(48, 48)] (by first | exact .inl rfl | exact .inr rfl) rfl (by kernel_rfl) (by kernel_rfl) (by kernel_rfl) ?_ ?_ <;> repeat' (first | exact trivial | exact vr_val _ | exact vr_list _ | refine And.intro ⟨_, rfl, _, rfl, by decide, ?_⟩ ?_ | apply And.intro))
  | false =>
    have e : caB h wd x w = false := by unfold caB; rw [e1, c1]; rfl
    have c2 := of_decide_eq_false c1
    have c3 : ((boundR h.xs h.ys h.vs x wd).2 == 0) = false := by simpa using c2
    rw [e]
    (have hg : (987654321 : Nat) - 987654321 = 0 := rfl; have hr := hg; repeat' (first | refine aw_seq ?_ | (refine aw_skip ?_; try simp only [thenQ, blockQ, if_true, if_false, Nat.reduceEqDiff, reduceCtorEq]) | (refine aw_exit ?_; try simp only [thenQ, blockQ, if_true, if_false, Nat.reduceEqDiff, reduceCtorEq]) | refine aw_ret ?_ | refine aw_block ?_ | refine aw_condT rfl ?_ | refine aw_condF rfl ?_ | ((first | refine aw_region ?_ | refine acall0 (hb) ?_ | refine ago_if (by omega) ?_ | skip); simp (config := {maxSteps := 10000000}) (disch := first | exact okYes (by kernel_rfl) | omega) only [thenQ, List.map, dI, dB, List.length, Nat.zero_add, Nat.reduceAdd, Nat.reduceMul, envOf, ARun_none, AOpRun, aexec, D.isBot, FSt.ev, St.F, eget_c, Nat.reduceBEq, ↓eget_h, cond_false, Bool.false_eq_true, Option.isSome, hget_c, hget_n, or_self, ↓reduceIte, D.cells, AGo_ok, St.app, putO, eput_c, eput_n, hups, hput_c, hput_n, ARun_nil, dropE_c, inL_n, dropE_n, isSh, Option.map, abin, e0, inL_c, beq_self_eq_true, cond_true, Nat.reduceLeDiff, List.drop, List.take, ↓hget_h, spD, opt1, List.getElem?_cons_zero, List.getElem?_cons_succ, List.all, D.leaf, Bool.and_true, and_self, splice, List.nil_append, List.append_nil, c3, ARun_some, AG_ft])))
    all_goals (refine end_to [] [(48, 48)] (by first | exact .inl rfl | exact .inr rfl) rfl (by kernel_rfl) (by kernel_rfl) (by kernel_rfl) ?_ ?_ <;> repeat' (first | exact trivial | exact vr_val _ | exact vr_list _ | refine And.intro ⟨_, rfl, _, rfl, by decide, ?_⟩ ?_ | apply And.intro))
end Go.Proofs.Ytgibbaadjbohdaa
