/- Texts of the law RecordPacked, part 9. No conditions. -/
import Derived.Test.YtdcodicoclecnaaPRecordPacked08
/- record: what a case must be. No conditions. -/
set_option linter.unusedSimpArgs false
set_option linter.unusedVariables false
namespace Go.Proofs.Ytdcodicoclecnaa
open Go Go.RowKit Lift

theorem in_sp (S : Nat → Prop) (a b : Int) : In S (.agg [dI a, dI b]) := .agg _ (by intro d hd; simp at hd; rcases hd with rfl | rfl <;> exact .val _)
set_option maxRecDepth 100000 in
set_option maxHeartbeats 1000000 in
theorem swithin_ac (n a b : Int) : AC Try.prog 161 [dI n, dI a, dI b] [] [] (dB (wI n a b)) := by
  refine kspans_within.ac (n0 := 0) (by simp) ⟨.val _, .val _, .val _, trivial⟩ trivial rfl ?_
  unfold cspans_within wI
  cases q1 : decide (a ≤ n) <;> cases q2 : decide (n ≤ b)
  all_goals
    (have hg : (987654321 : Nat) - 987654321 = 0 := rfl; have hr := hg; repeat' (first | refine aw_seq ?_ | (refine aw_skip ?_; try simp only [thenQ, blockQ, if_true, if_false, Nat.reduceEqDiff, reduceCtorEq]) | (refine aw_exit ?_; try simp only [thenQ, blockQ, if_true, if_false, Nat.reduceEqDiff, reduceCtorEq]) | refine aw_ret ?_ | refine aw_block ?_ | refine aw_condT rfl ?_ | refine aw_condF rfl ?_ | ((first | refine aw_region ?_ | refine ago_if (by omega) ?_ | skip); simp (config := {maxSteps := 10000000}) (disch := first | exact okYes (by kernel_rfl) | omega) only [thenQ, List.map, dB, Bool.and_false, List.length, Nat.zero_add, Nat.reduceMul, envOf, dI, Nat.reduceAdd, ARun_none, AOpRun, aexec, FSt.ev, AGo_ok, St.app, putO, eput_c, Nat.reduceBEq, eput_n, cond_false, hups, ARun_nil, dropE_c, inL_n, dropE_n, St.F, ↓eget_h, eget_c, isSh, Bool.false_eq_true, ↓reduceIte, Option.map, abin, ge_iff_le, q1, ARun_some, AG_ft, beq_self_eq_true, cond_true, inL_c, Bool.and_true, AG_tt, q2])))
    all_goals (refine end_to [] [] (by first | exact .inl rfl | exact .inr rfl) rfl (by kernel_rfl) (by kernel_rfl) (by kernel_rfl) ?_ ?_ <;> repeat' (first | exact trivial | exact vr_val _))
def spVB (x : Int × Int) : Bool := wI x.1 (-1000000) x.2 && decide (x.2 ≤ 1000000)
set_option maxRecDepth 100000 in
set_option maxHeartbeats 1000000 in
theorem svalid_ac (x : Int × Int) : AC Try.prog 165 [.agg [dI x.1, dI x.2]] [] [] (dB (spVB x)) := by
  refine kspans_valid.ac (n0 := 0) (by simp) ⟨in_sp _ _ _, trivial⟩ trivial rfl ?_
  unfold cspans_valid spVB
  cases q1 : wI x.1 (-1000000) x.2 <;> cases q2 : decide (x.2 ≤ 1000000)
  all_goals
    have cw := swithin_ac x.1 (-1000000) x.2
    rw [q1] at cw
    (have hg : (987654321 : Nat) - 987654321 = 0 := rfl; have hr := hg; repeat' (first | refine aw_seq ?_ | (refine aw_skip ?_; try simp only [thenQ, blockQ, if_true, if_false, Nat.reduceEqDiff, reduceCtorEq]) | (refine aw_exit ?_; try simp only [thenQ, blockQ, if_true, if_false, Nat.reduceEqDiff, reduceCtorEq]) | refine aw_ret ?_ | refine aw_block ?_ | refine aw_condT rfl ?_ | refine aw_condF rfl ?_ | ((first | refine aw_region ?_ | refine acall0 (cw) ?_ | refine ago_if (by omega) ?_ | skip); simp (config := {maxSteps := 10000000}) (disch := first | exact okYes (by kernel_rfl) | omega) only [thenQ, List.map, Int.reduceNeg, dB, Bool.and_false, List.length, Nat.zero_add, Nat.reduceAdd, Nat.reduceMul, envOf, dI, ARun_none, AOpRun, aexec, D.isBot, FSt.ev, St.F, ↓eget_h, Bool.false_eq_true, Option.isSome, hget_n, or_self, ↓reduceIte, D.cells, AGo_ok, St.app, putO, eput_c, Nat.reduceBEq, eput_n, cond_false, hups, hput_n, ARun_nil, dropE_c, inL_n, dropE_n, eget_c, Option.map, run1, hget_c, beq_self_eq_true, cond_true, List.getElem?_cons_zero, List.getElem?_cons_succ, ARun_some, AG_ft, inL_c, Bool.and_true, AG_tt, isSh, abin, q2])))
    all_goals (refine end_to [] [] (by first | exact .inl rfl | exact .inr rfl) rfl (by kernel_rfl) (by kernel_rfl) (by kernel_rfl) ?_ ?_ <;> repeat' (first | exact trivial | exact vr_val _))
set_option maxRecDepth 100000 in
set_option maxHeartbeats 1000000 in
theorem sspan1_ac (x : Int × Int) : AC Try.prog 164 [.agg [dI x.1, dI x.2]] [] [] (dB (!spVB x)) := by
  refine kspans_spanned_S1.ac (n0 := 0) (by simp) ⟨in_sp _ _ _, trivial⟩ trivial rfl ?_
  unfold cspans_spanned_S1
  (have hg : (987654321 : Nat) - 987654321 = 0 := rfl; have hr := hg; repeat' (first | refine aw_seq ?_ | (refine aw_skip ?_; try simp only [thenQ, blockQ, if_true, if_false, Nat.reduceEqDiff, reduceCtorEq]) | (refine aw_exit ?_; try simp only [thenQ, blockQ, if_true, if_false, Nat.reduceEqDiff, reduceCtorEq]) | refine aw_ret ?_ | refine aw_block ?_ | refine aw_condT rfl ?_ | refine aw_condF rfl ?_ | ((first | refine aw_region ?_ | refine acall0 (svalid_ac x) ?_ | refine ago_if (by omega) ?_ | skip); simp (config := {maxSteps := 10000000}) (disch := first | exact okYes (by kernel_rfl) | omega) only [thenQ, List.map, dB, List.length, Nat.zero_add, Nat.reduceAdd, Nat.reduceMul, envOf, dI, ARun_none, AOpRun, aexec, D.isBot, FSt.ev, St.F, ↓eget_h, Bool.false_eq_true, Option.isSome, hget_n, or_self, ↓reduceIte, D.cells, AGo_ok, St.app, putO, eput_c, Nat.reduceBEq, eput_n, cond_false, hups, hput_n, ARun_nil, dropE_c, inL_n, dropE_n, eget_c, hget_c, beq_self_eq_true, cond_true, Nat.reduceLeDiff, List.drop, List.take, inL_c])))
  all_goals (refine end_to [] [] (by first | exact .inl rfl | exact .inr rfl) rfl (by kernel_rfl) (by kernel_rfl) (by kernel_rfl) ?_ ?_ <;> repeat' (first | exact trivial | exact vr_val _))
theorem sp_at (l : List (Int × Int)) (k : Nat) (h : k < l.length) : (sps l)[k]? = some [dI (l[k]?.getD (0, 0)).1, dI (l[k]?.getD (0, 0)).2] := by simp [sps, h, dI]
set_option maxRecDepth 100000 in
set_option maxHeartbeats 1000000 in
theorem ifsp_ac (F : FuncId) (p : Int × Int → Bool) (hF : ∀ x : Int × Int, AC Try.prog F [.agg [dI x.1, dI x.2]] [] [] (dB (p x))) (l : List (Int × Int)) (hl : l.length ≤ 1000000) : AC Try.prog 158 [.list (sps l), .fn F [] []] [] [] (dI (match l.findIdx? p with
    | some k => (k : Int)
    | none => -1)) := by
  refine kslices_IndexFunc_L_L_Japi_Span_Kapi_Span_J.ac (n0 := 0) (by simp) ⟨.list _, .fn _ _ _ (by simp) (by simp), trivial⟩ trivial rfl ?_
  unfold cslices_IndexFunc_L_L_Japi_Span_Kapi_Span_J
  (have hg : (987654321 : Nat) - 987654321 = 0 := rfl; have hr := hg; repeat' (first | refine aw_seq ?_ | (refine aw_skip ?_; try simp only [thenQ, blockQ, if_true, if_false, Nat.reduceEqDiff, reduceCtorEq]) | (refine aw_exit ?_; try simp only [thenQ, blockQ, if_true, if_false, Nat.reduceEqDiff, reduceCtorEq]) | refine aw_ret ?_ | refine aw_block ?_ | refine aw_condT rfl ?_ | refine aw_condF rfl ?_ | ((first | refine aw_region ?_ | refine ago_if (by omega) ?_ | skip); simp (config := {maxSteps := 10000000}) (disch := first | exact okYes (by kernel_rfl) | omega) only [thenQ, List.map, Int.reduceNeg, dI, List.length, Nat.zero_add, Nat.reduceMul, envOf, ARun_none, AOpRun, aexec, FSt.ev, AGo_ok, St.app, putO, eput_c, Nat.reduceBEq, eput_n, cond_false, hups, ARun_nil, dropE_c, inL_n, dropE_n, Nat.reduceAdd, St.F, ↓eget_h, eget_c, sps_len, inL_c, beq_self_eq_true, cond_true])))
  refine aw_loop (fun k : Nat => ⟨[(0, .list (sps l)), (1, .fn F [] []), (7, dI l.length), (8, dI k)], [], 400⟩) (fun k => k ≤ l.length ∧ ∀ j, j < k → p (l[j]?.getD (0, 0)) = false) (fun k => l.length - k) ⟨0, ⟨by omega, fun j hj => by omega⟩, ?_⟩ ?_
  · refine wk_to [] [] (by kernel_rfl) (by kernel_rfl) (by kernel_rfl) (by kernel_rfl) (by kernel_rfl) ?_ ?_ <;> repeat' (first | exact trivial | exact vr_val _ | exact vr_list _ | apply vr_fn | apply And.intro)
  rintro k ⟨hk, hin⟩
  by_cases hk2 : k < l.length
  · have g1 := sp_at l k hk2
    have hc := hF (l[k]?.getD (0, 0))
    cases he : p (l[k]?.getD (0, 0)) with
    | true =>
      have q : l.findIdx? p = some k := by
        rw [List.findIdx?_eq_some_iff_getElem]
        refine ⟨hk2, by have := he; simp [hk2] at this; simp [this], fun j hj => ?_⟩
        have := hin j hj
        simpa [show j < l.length by omega] using this
      rw [q]
      rw [he] at hc
      (have hg : (987654321 : Nat) - 987654321 = 0 := rfl; have hr := hg; repeat' (first | refine aw_seq ?_ | (refine aw_skip ?_; try simp only [thenQ, blockQ, if_true, if_false, Nat.reduceEqDiff, reduceCtorEq]) | (refine aw_exit ?_; try simp only [thenQ, blockQ, if_true, if_false, Nat.reduceEqDiff, reduceCtorEq]) | refine aw_ret ?_ | refine aw_block ?_ | refine aw_condT rfl ?_ | refine aw_condF rfl ?_ | (refine aw_cond rfl (fun hg => ?_) (fun hg => ?_) <;> (try (have hq := hg; simp only [Bool.not_eq_true', Bool.not_eq_false', Bool.and_eq_true, Bool.and_eq_false_iff, Bool.or_eq_true, Bool.or_eq_false_iff, decide_eq_true_eq, decide_eq_false_iff_not, bne_iff_ne, beq_iff_eq, beq_eq_false_iff_ne, bne_eq_false_iff_eq, ne_eq, Int.not_lt, Int.not_le, Decidable.not_not] at hq)) <;> (try (have hr := hg; simp only [decide_eq_true_eq, decide_eq_false_iff_not] at hr)) <;> (try (exfalso; omega))) | ((first | refine aw_region ?_ | refine acall0 (hc) ?_ | refine ago_if (by omega) ?_ | skip); simp (config := {maxSteps := 10000000}) (disch := first | exact okYes (by kernel_rfl) | omega) only [thenQ, dI, Int.reduceNeg, List.length, Nat.zero_add, Nat.reduceMul, Nat.reduceAdd, ARun_none, AOpRun, aexec, FSt.ev, St.F, eget_c, Nat.reduceBEq, ↓eget_h, cond_false, isSh, Bool.false_eq_true, ↓reduceIte, Option.map, abin, AGo_ok, St.app, putO, eput_c, eput_n, hups, List.map, ARun_nil, dropE_c, inL_n, dropE_n, hr, decide_true, inL_c, beq_self_eq_true, cond_true, Int.natCast_nonneg, sps_all, and_self, opt1, Int.toNat_natCast, g1, Nat.reduceLeDiff, List.take, dB, blockQ])))
      all_goals (refine end_to [] [] (by first | exact .inl rfl | exact .inr rfl) rfl (by kernel_rfl) (by kernel_rfl) (by kernel_rfl) ?_ ?_ <;> repeat' (first | exact trivial | exact vr_val _))
    | false =>
      rw [he] at hc
      (have hg : (987654321 : Nat) - 987654321 = 0 := rfl; have hr := hg; repeat' (first | refine aw_seq ?_ | (refine aw_skip ?_; try simp only [thenQ, blockQ, if_true, if_false, Nat.reduceEqDiff, reduceCtorEq]) | (refine aw_exit ?_; try simp only [thenQ, blockQ, if_true, if_false, Nat.reduceEqDiff, reduceCtorEq]) | refine aw_ret ?_ | refine aw_block ?_ | refine aw_condT rfl ?_ | refine aw_condF rfl ?_ | (refine aw_cond rfl (fun hg => ?_) (fun hg => ?_) <;> (try (have hq := hg; simp only [Bool.not_eq_true', Bool.not_eq_false', Bool.and_eq_true, Bool.and_eq_false_iff, Bool.or_eq_true, Bool.or_eq_false_iff, decide_eq_true_eq, decide_eq_false_iff_not, bne_iff_ne, beq_iff_eq, beq_eq_false_iff_ne, bne_eq_false_iff_eq, ne_eq, Int.not_lt, Int.not_le, Decidable.not_not] at hq)) <;> (try (have hr := hg; simp only [decide_eq_true_eq, decide_eq_false_iff_not] at hr)) <;> (try (exfalso; omega))) | ((first | refine aw_region ?_ | refine acall0 (hc) ?_ | refine ago_if (by omega) ?_ | skip); simp (config := {maxSteps := 10000000}) (disch := first | exact okYes (by kernel_rfl) | omega) only [thenQ, dI, Int.reduceNeg, List.length, Nat.zero_add, Nat.reduceMul, Nat.reduceAdd, ARun_none, AOpRun, aexec, FSt.ev, St.F, eget_c, Nat.reduceBEq, ↓eget_h, cond_false, isSh, Bool.false_eq_true, ↓reduceIte, Option.map, abin, AGo_ok, St.app, putO, eput_c, eput_n, hups, List.map, ARun_nil, dropE_c, inL_n, dropE_n, hr, decide_true, inL_c, beq_self_eq_true, cond_true, Int.natCast_nonneg, sps_all, and_self, opt1, Int.toNat_natCast, g1, Nat.reduceLeDiff, List.take, dB, fits])))
      refine ⟨k + 1, ⟨by omega, fun j hj => ?_⟩, by omega, by refine wk_to [] [] (by kernel_rfl) (by kernel_rfl) (by kernel_rfl) (by kernel_rfl) (by kernel_rfl) ?_ ?_ <;> repeat' (first | exact trivial | exact vr_val _ | exact vr_list _ | apply vr_fn | apply And.intro)⟩
      rcases (by omega : j < k ∨ j = k) with h | rfl
      · exact hin j h
      · exact he
  · obtain rfl : k = l.length := by omega
    have q : l.findIdx? p = none := by
      rw [List.findIdx?_eq_none_iff]
      intro y hy
      obtain ⟨j, hj, rfl⟩ := List.getElem_of_mem hy
      have := hin j hj
      simp [hj] at this
      simp [this]
    rw [q]
    (have hg : (987654321 : Nat) - 987654321 = 0 := rfl; have hr := hg; repeat' (first | refine aw_seq ?_ | (refine aw_skip ?_; try simp only [thenQ, blockQ, if_true, if_false, Nat.reduceEqDiff, reduceCtorEq]) | (refine aw_exit ?_; try simp only [thenQ, blockQ, if_true, if_false, Nat.reduceEqDiff, reduceCtorEq]) | refine aw_ret ?_ | refine aw_block ?_ | refine aw_condT rfl ?_ | refine aw_condF rfl ?_ | (refine aw_cond rfl (fun hg => ?_) (fun hg => ?_) <;> (try (have hq := hg; simp only [Bool.not_eq_true', Bool.not_eq_false', Bool.and_eq_true, Bool.and_eq_false_iff, Bool.or_eq_true, Bool.or_eq_false_iff, decide_eq_true_eq, decide_eq_false_iff_not, bne_iff_ne, beq_iff_eq, beq_eq_false_iff_ne, bne_eq_false_iff_eq, ne_eq, Int.not_lt, Int.not_le, Decidable.not_not] at hq)) <;> (try (have hr := hg; simp only [decide_eq_true_eq, decide_eq_false_iff_not] at hr)) <;> (try (exfalso; omega))) | ((first | refine aw_region ?_ | refine ago_if (by omega) ?_ | skip); simp (config := {maxSteps := 10000000}) (disch := first | exact okYes (by kernel_rfl) | omega) only [thenQ, dI, Int.reduceNeg, List.length, Nat.zero_add, Nat.reduceMul, Nat.reduceAdd, ARun_none, AOpRun, aexec, FSt.ev, St.F, eget_c, Nat.reduceBEq, ↓eget_h, cond_false, isSh, Bool.false_eq_true, ↓reduceIte, Option.map, abin, AGo_ok, St.app, putO, eput_c, eput_n, hups, List.map, ARun_nil, dropE_c, inL_n, dropE_n, hr, decide_false])))
    all_goals (refine end_to [] [] (by first | exact .inl rfl | exact .inr rfl) rfl (by kernel_rfl) (by kernel_rfl) (by kernel_rfl) ?_ ?_ <;> repeat' (first | exact trivial | exact vr_val _))
set_option maxRecDepth 100000 in
set_option maxHeartbeats 1000000 in
theorem cfsp_ac (F : FuncId) (p : Int × Int → Bool) (hF : ∀ x : Int × Int, AC Try.prog F [.agg [dI x.1, dI x.2]] [] [] (dB (p x))) (l : List (Int × Int)) (hl : l.length ≤ 1000000) : AC Try.prog 146 [.list (sps l), .fn F [] []] [] [] (dB (l.any p)) := by
  refine kslices_ContainsFunc_L_L_Japi_Span_Kapi_Span_J.ac (n0 := 0) (by simp) ⟨.list _, .fn _ _ _ (by simp) (by simp), trivial⟩ trivial rfl ?_
  unfold cslices_ContainsFunc_L_L_Japi_Span_Kapi_Span_J
  have hf := ifsp_ac F p hF l hl
  cases h : l.findIdx? p with
  | none =>
    have ha : l.any p = false := by
      rw [List.findIdx?_eq_none_iff] at h
      exact List.any_eq_false.2 fun x hx => by simp [h x hx]
    rw [h] at hf
    rw [ha]
    (have hg : (987654321 : Nat) - 987654321 = 0 := rfl; have hr := hg; repeat' (first | refine aw_seq ?_ | (refine aw_skip ?_; try simp only [thenQ, blockQ, if_true, if_false, Nat.reduceEqDiff, reduceCtorEq]) | (refine aw_exit ?_; try simp only [thenQ, blockQ, if_true, if_false, Nat.reduceEqDiff, reduceCtorEq]) | refine aw_ret ?_ | refine aw_block ?_ | refine aw_condT rfl ?_ | refine aw_condF rfl ?_ | ((first | refine aw_region ?_ | refine acall0 (hf) ?_ | refine ago_if (by omega) ?_ | skip); simp (config := {maxSteps := 10000000}) (disch := first | exact okYes (by kernel_rfl) | omega) only [thenQ, List.map, dB, List.length, Nat.zero_add, Nat.reduceMul, envOf, ARun_none, AOpRun, aexec, FSt.ev, AGo_ok, St.app, putO, eput_c, Nat.reduceBEq, eput_n, cond_false, hups, ARun_nil, dropE_c, inL_n, dropE_n, Nat.reduceAdd, St.F, ↓eget_h, eget_c, dI, Int.reduceNeg, isSh, Bool.false_eq_true, ↓reduceIte, Option.map, abin, beq_self_eq_true, cond_true, inL_c])))
    all_goals (refine end_to [] [] (by first | exact .inl rfl | exact .inr rfl) rfl (by kernel_rfl) (by kernel_rfl) (by kernel_rfl) ?_ ?_ <;> repeat' (first | exact trivial | exact vr_val _))
  | some k =>
    have ha : l.any p = true := by
      rw [List.findIdx?_eq_some_iff_getElem] at h
      obtain ⟨hk, he, _⟩ := h
      exact List.any_eq_true.2 ⟨l[k], List.getElem_mem hk, he⟩
    rw [h] at hf
    rw [ha]
    have q : decide ((k : Int) ≥ 0) = true := decide_eq_true (by omega)
    (have hg : (987654321 : Nat) - 987654321 = 0 := rfl; have hr := hg; repeat' (first | refine aw_seq ?_ | (refine aw_skip ?_; try simp only [thenQ, blockQ, if_true, if_false, Nat.reduceEqDiff, reduceCtorEq]) | (refine aw_exit ?_; try simp only [thenQ, blockQ, if_true, if_false, Nat.reduceEqDiff, reduceCtorEq]) | refine aw_ret ?_ | refine aw_block ?_ | refine aw_condT rfl ?_ | refine aw_condF rfl ?_ | ((first | refine aw_region ?_ | refine acall0 (hf) ?_ | refine ago_if (by omega) ?_ | skip); simp (config := {maxSteps := 10000000}) (disch := first | exact okYes (by kernel_rfl) | omega) only [thenQ, List.map, dB, List.length, Nat.zero_add, Nat.reduceMul, envOf, ARun_none, AOpRun, aexec, FSt.ev, AGo_ok, St.app, putO, eput_c, Nat.reduceBEq, eput_n, cond_false, hups, ARun_nil, dropE_c, inL_n, dropE_n, Nat.reduceAdd, St.F, ↓eget_h, eget_c, dI, isSh, Bool.false_eq_true, ↓reduceIte, Option.map, abin, Int.natCast_nonneg, decide_true, beq_self_eq_true, cond_true, inL_c])))
    all_goals (refine end_to [] [] (by first | exact .inl rfl | exact .inr rfl) rfl (by kernel_rfl) (by kernel_rfl) (by kernel_rfl) ?_ ?_ <;> repeat' (first | exact trivial | exact vr_val _))
set_option maxRecDepth 100000 in
set_option maxHeartbeats 1000000 in
theorem scheck_ac (x : Int × Int) : AC Try.prog 159 [.list (sps [x])] [] [] (dI (if spVB x = true then 0 else 10)) := by
  have h1 : AC Try.prog 162 [.list (sps [x])] [] [] (dI (if spVB x = true then 0 else 10)) := by
    refine kspans_spanned.ac (n0 := 0) (by simp) ⟨.list _, trivial⟩ trivial rfl ?_
    unfold cspans_spanned
    have hc := cfsp_ac 164 (fun x => !spVB x) sspan1_ac [x] (by simp)
    cases h : spVB x with
    | true =>
      rw [show ([x].any fun x => !spVB x) = false by simp [h]] at hc
      rw [if_pos rfl]
      (have hg : (987654321 : Nat) - 987654321 = 0 := rfl; have hr := hg; repeat' (first | refine aw_seq ?_ | (refine aw_skip ?_; try simp only [thenQ, blockQ, if_true, if_false, Nat.reduceEqDiff, reduceCtorEq]) | (refine aw_exit ?_; try simp only [thenQ, blockQ, if_true, if_false, Nat.reduceEqDiff, reduceCtorEq]) | refine aw_ret ?_ | refine aw_block ?_ | refine aw_condT rfl ?_ | refine aw_condF rfl ?_ | ((first | refine aw_region ?_ | refine acall0 (hc) ?_ | refine ago_if (by omega) ?_ | skip); simp (config := {maxSteps := 10000000}) (disch := first | exact okYes (by kernel_rfl) | omega) only [thenQ, List.map, dI, List.length, Nat.zero_add, Nat.reduceMul, envOf, ARun_none, AOpRun, aexec, FSt.ev, AGo_ok, St.app, putO, eput_c, Nat.reduceBEq, eput_n, cond_false, hups, ARun_nil, dropE_c, inL_n, dropE_n, Nat.reduceAdd, St.F, ↓eget_h, eget_c, dB, inL_c, beq_self_eq_true, cond_true])))
      all_goals (refine end_to [] [] (by first | exact .inl rfl | exact .inr rfl) rfl (by kernel_rfl) (by kernel_rfl) (by kernel_rfl) ?_ ?_ <;> repeat' (first | exact trivial | exact vr_val _))
    | false =>
      rw [show ([x].any fun x => !spVB x) = true by simp [h]] at hc
      rw [if_neg (by simp)]
      (have hg : (987654321 : Nat) - 987654321 = 0 := rfl; have hr := hg; repeat' (first | refine aw_seq ?_ | (refine aw_skip ?_; try simp only [thenQ, blockQ, if_true, if_false, Nat.reduceEqDiff, reduceCtorEq]) | (refine aw_exit ?_; try simp only [thenQ, blockQ, if_true, if_false, Nat.reduceEqDiff, reduceCtorEq]) | refine aw_ret ?_ | refine aw_block ?_ | refine aw_condT rfl ?_ | refine aw_condF rfl ?_ | ((first | refine aw_region ?_ | refine acall0 (hc) ?_ | refine ago_if (by omega) ?_ | skip); simp (config := {maxSteps := 10000000}) (disch := first | exact okYes (by kernel_rfl) | omega) only [thenQ, List.map, dI, List.length, Nat.zero_add, Nat.reduceMul, envOf, ARun_none, AOpRun, aexec, FSt.ev, AGo_ok, St.app, putO, eput_c, Nat.reduceBEq, eput_n, cond_false, hups, ARun_nil, dropE_c, inL_n, dropE_n, Nat.reduceAdd, St.F, ↓eget_h, eget_c, dB, inL_c, beq_self_eq_true, cond_true])))
      all_goals (refine end_to [] [] (by first | exact .inl rfl | exact .inr rfl) rfl (by kernel_rfl) (by kernel_rfl) (by kernel_rfl) ?_ ?_ <;> repeat' (first | exact trivial | exact vr_val _))
  refine kspans_Check.ac (n0 := 0) (by simp) ⟨.list _, trivial⟩ trivial rfl ?_
  unfold cspans_Check
  have cw : AC Try.prog 161 [dI 1, dI 1, dI 3] [] [] (dB true) := swithin_ac 1 1 3
  generalize (if spVB x = true then (0 : Int) else 10) = E at *
  (have hg : (987654321 : Nat) - 987654321 = 0 := rfl; have hr := hg; repeat' (first | refine aw_seq ?_ | (refine aw_skip ?_; try simp only [thenQ, blockQ, if_true, if_false, Nat.reduceEqDiff, reduceCtorEq]) | (refine aw_exit ?_; try simp only [thenQ, blockQ, if_true, if_false, Nat.reduceEqDiff, reduceCtorEq]) | refine aw_ret ?_ | refine aw_block ?_ | refine aw_condT rfl ?_ | refine aw_condF rfl ?_ | ((first | refine aw_region ?_ | refine acall0 (cw) ?_ | refine acall0 (h1) ?_ | refine ago_if (by omega) ?_ | skip); simp (config := {maxSteps := 10000000}) (disch := first | exact okYes (by kernel_rfl) | omega) only [thenQ, List.map, dI, List.length, Nat.zero_add, Nat.reduceMul, envOf, ARun_none, AOpRun, aexec, FSt.ev, AGo_ok, St.app, putO, eput_c, Nat.reduceBEq, eput_n, cond_false, hups, ARun_nil, dropE_c, inL_n, dropE_n, Nat.reduceAdd, St.F, ↓eget_h, eget_c, sps_len, cast_lit, dB, Bool.not_true, inL_c, beq_self_eq_true, cond_true])))
  all_goals (refine end_to [] [] (by first | exact .inl rfl | exact .inr rfl) rfl (by kernel_rfl) (by kernel_rfl) (by kernel_rfl) ?_ ?_ <;> repeat' (first | exact trivial | exact vr_val _))
theorem spv_iff (x : Int × Int) : pfOk x ↔ (spVB x = true ∧ 0 ≤ x.1 ∧ x.2 ≤ 2000) := by
  unfold pfOk spVB wI
  simp only [Bool.and_eq_true, decide_eq_true_eq]
  omega
set_option maxRecDepth 100000 in
set_option maxHeartbeats 1000000 in
theorem proof_ac (x : Int × Int) : AC Try.prog 148 [.agg [dI x.1, dI x.2]] [] [] (dB (decide (pfOk x))) := by
  refine krecord_proof.ac (n0 := 0) (by simp) ⟨in_sp _ _ _, trivial⟩ trivial rfl ?_
  unfold crecord_proof
  have hs := scheck_ac x
  have hp : decide (pfOk x) = (spVB x && (decide (0 ≤ x.1) && decide (x.2 ≤ 2000))) := by
    rw [← Bool.decide_and]
    cases h : spVB x with
    | true => simp only [Bool.true_and]; exact decide_eq_decide.2 (by rw [spv_iff]; simp [h])
    | false => rw [Bool.false_and]; exact decide_eq_false (by rw [spv_iff]; simp [h])
  rw [hp]
  cases h : spVB x with
  | true =>
    rw [h, if_pos rfl] at hs
    cases q1 : decide (0 ≤ x.1) <;> cases q2 : decide (x.2 ≤ 2000)
    all_goals
      refine aw_seq (aw_region ?_)
      simp (config := {maxSteps := 10000000}) (disch := first | exact okYes (by kernel_rfl) | omega) only [thenQ, List.map, dB, Bool.and_false, List.length, Nat.zero_add, Nat.reduceAdd, Nat.reduceMul, envOf, dI, ARun_none, AOpRun, aexec, D.isBot, FSt.ev, St.F, ↓eget_h, Bool.false_eq_true, Option.isSome, hget_n, or_self, ↓reduceIte, D.cells, AGo_ok, St.app, putO, eput_c, Nat.reduceBEq, eput_n, cond_false, hups, hput_n, ARun_nil, dropE_c, inL_n, dropE_n, Bool.and_true]
      refine aw_seq (aw_region ?_)
      simp (config := {maxSteps := 10000000}) (disch := first | exact okYes (by kernel_rfl) | omega) only [thenQ, List.length, Nat.zero_add, Nat.reduceAdd, Nat.reduceMul, ARun_none, AOpRun, aexec, FSt.ev, St.F, eget_c, Nat.reduceBEq, ↓eget_h, cond_false, hget_c, beq_self_eq_true, hget_n, cond_true, Nat.reduceLeDiff, ↓reduceIte, List.drop, List.take, AGo_ok, St.app, putO, eput_c, eput_n, hups, List.map, Option.isSome, Bool.false_eq_true, Option.map, fillD, D.isBot, D.cells, ne_eq, not_true_eq_false, Nat.reduceGT, or_self, splice, List.nil_append, List.append_nil, hput_c, hput_n]
      refine acall hs [24] ⟨.vec 24 1 2 (scells [x]) (sps [x]) (by simp) rfl (Nat.le_of_ble_eq_true rfl) (sps_two _) rfl rfl (scells_in _), trivial⟩ (.inr (.val _)) (by intro g hg; simp at hg; subst hg; exact ⟨_, rfl⟩) (by kernel_rfl) ?_
      simp (config := {maxSteps := 10000000}) (disch := first | exact okYes (by kernel_rfl) | omega) only [Nat.reduceAdd, St.app, putO, dI, eput_c, Nat.reduceBEq, eput_n, cond_false, hups, ARun_none, AOpRun, aexec, FSt.ev, St.F, eget_c, ↓eget_h, isSh, Bool.false_eq_true, ↓reduceIte, Option.map, abin, beq_self_eq_true, AGo_ok, List.map, ARun_some, AG_tt, Nat.zero_add, run1, hget_c, hget_n, cond_true, List.getElem?_cons_zero, ge_iff_le, q1, AG_ft, ARun_nil, dropE_c, inL_c, inL_n, dropE_n, List.getElem?_cons_succ, q2]
      (have hg : (987654321 : Nat) - 987654321 = 0 := rfl; have hr := hg; repeat' (first | refine aw_seq ?_ | (refine aw_skip ?_; try simp only [thenQ, blockQ, if_true, if_false, Nat.reduceEqDiff, reduceCtorEq]) | (refine aw_exit ?_; try simp only [thenQ, blockQ, if_true, if_false, Nat.reduceEqDiff, reduceCtorEq]) | refine aw_ret ?_ | refine aw_block ?_ | refine aw_condT rfl ?_ | refine aw_condF rfl ?_ | ((first | refine aw_region ?_ | refine ago_if (by omega) ?_ | skip); fail)))
      all_goals (refine end_to [] [] (by first | exact .inl rfl | exact .inr rfl) rfl (by kernel_rfl) (by kernel_rfl) (by kernel_rfl) ?_ ?_ <;> repeat' (first | exact trivial | exact vr_val _))
  | false =>
    rw [h, if_neg (by simp)] at hs
    refine aw_seq (aw_region ?_)
    simp (config := {maxSteps := 10000000}) (disch := first | exact okYes (by kernel_rfl) | omega) only [thenQ, List.map, dB, Bool.false_and, List.length, Nat.zero_add, Nat.reduceAdd, Nat.reduceMul, envOf, dI, ARun_none, AOpRun, aexec, D.isBot, FSt.ev, St.F, ↓eget_h, Bool.false_eq_true, Option.isSome, hget_n, or_self, ↓reduceIte, D.cells, AGo_ok, St.app, putO, eput_c, Nat.reduceBEq, eput_n, cond_false, hups, hput_n, ARun_nil, dropE_c, inL_n, dropE_n]
    refine aw_seq (aw_region ?_)
    simp (config := {maxSteps := 10000000}) (disch := first | exact okYes (by kernel_rfl) | omega) only [thenQ, List.length, Nat.zero_add, Nat.reduceAdd, Nat.reduceMul, ARun_none, AOpRun, aexec, FSt.ev, St.F, eget_c, Nat.reduceBEq, ↓eget_h, cond_false, hget_c, beq_self_eq_true, hget_n, cond_true, Nat.reduceLeDiff, ↓reduceIte, List.drop, List.take, AGo_ok, St.app, putO, eput_c, eput_n, hups, List.map, Option.isSome, Bool.false_eq_true, Option.map, fillD, D.isBot, D.cells, ne_eq, not_true_eq_false, Nat.reduceGT, or_self, splice, List.nil_append, List.append_nil, hput_c, hput_n]
    refine acall hs [24] ⟨.vec 24 1 2 (scells [x]) (sps [x]) (by simp) rfl (Nat.le_of_ble_eq_true rfl) (sps_two _) rfl rfl (scells_in _), trivial⟩ (.inr (.val _)) (by intro g hg; simp at hg; subst hg; exact ⟨_, rfl⟩) (by kernel_rfl) ?_
    simp (config := {maxSteps := 10000000}) (disch := first | exact okYes (by kernel_rfl) | omega) only [Nat.reduceAdd, St.app, putO, dI, eput_c, Nat.reduceBEq, eput_n, cond_false, hups, ARun_none, AOpRun, aexec, FSt.ev, St.F, eget_c, ↓eget_h, isSh, Bool.false_eq_true, ↓reduceIte, Option.map, abin, Int.reduceBEq, AGo_ok, List.map, ARun_some, AG_ft, beq_self_eq_true, cond_true, ARun_nil, dropE_c, inL_c, inL_n, dropE_n]
    (have hg : (987654321 : Nat) - 987654321 = 0 := rfl; have hr := hg; repeat' (first | refine aw_seq ?_ | (refine aw_skip ?_; try simp only [thenQ, blockQ, if_true, if_false, Nat.reduceEqDiff, reduceCtorEq]) | (refine aw_exit ?_; try simp only [thenQ, blockQ, if_true, if_false, Nat.reduceEqDiff, reduceCtorEq]) | refine aw_ret ?_ | refine aw_block ?_ | refine aw_condT rfl ?_ | refine aw_condF rfl ?_ | ((first | refine aw_region ?_ | refine ago_if (by omega) ?_ | skip); fail)))
    all_goals (refine end_to [] [] (by first | exact .inl rfl | exact .inr rfl) rfl (by kernel_rfl) (by kernel_rfl) (by kernel_rfl) ?_ ?_ <;> repeat' (first | exact trivial | exact vr_val _))
set_option maxRecDepth 100000 in
set_option maxHeartbeats 1000000 in
theorem valid1_ac (x : Int × Int) : AC Try.prog 147 [.agg [dI x.1, dI x.2]] [] [] (dB (!decide (pfOk x))) := by
  refine krecord_valid_S1.ac (n0 := 0) (by simp) ⟨in_sp _ _ _, trivial⟩ trivial rfl ?_
  unfold crecord_valid_S1
  (have hg : (987654321 : Nat) - 987654321 = 0 := rfl; have hr := hg; repeat' (first | refine aw_seq ?_ | (refine aw_skip ?_; try simp only [thenQ, blockQ, if_true, if_false, Nat.reduceEqDiff, reduceCtorEq]) | (refine aw_exit ?_; try simp only [thenQ, blockQ, if_true, if_false, Nat.reduceEqDiff, reduceCtorEq]) | refine aw_ret ?_ | refine aw_block ?_ | refine aw_condT rfl ?_ | refine aw_condF rfl ?_ | ((first | refine aw_region ?_ | refine acall0 (proof_ac x) ?_ | refine ago_if (by omega) ?_ | skip); simp (config := {maxSteps := 10000000}) (disch := first | exact okYes (by kernel_rfl) | omega) only [thenQ, List.map, dB, List.length, Nat.zero_add, Nat.reduceAdd, Nat.reduceMul, envOf, dI, ARun_none, AOpRun, aexec, D.isBot, FSt.ev, St.F, ↓eget_h, Bool.false_eq_true, Option.isSome, hget_n, or_self, ↓reduceIte, D.cells, AGo_ok, St.app, putO, eput_c, Nat.reduceBEq, eput_n, cond_false, hups, hput_n, ARun_nil, dropE_c, inL_n, dropE_n, eget_c, hget_c, beq_self_eq_true, cond_true, Nat.reduceLeDiff, List.drop, List.take, inL_c])))
  all_goals (refine end_to [] [] (by first | exact .inl rfl | exact .inr rfl) rfl (by kernel_rfl) (by kernel_rfl) (by kernel_rfl) ?_ ?_ <;> repeat' (first | exact trivial | exact vr_val _))
end Go.Proofs.Ytdcodicoclecnaa
/- record: what a case must be, in all. No conditions. -/
set_option linter.unusedSimpArgs false
set_option linter.unusedVariables false
namespace Go.Proofs.Ytdcodicoclecnaa
open Go Go.RowKit Lift

instance (l : List Int) (b : Int) : Decidable (Asc l b) := inferInstanceAs (Decidable (∀ i, i < l.length → _))
def AscK (l : List Int) (b : Int) (k : Nat) : Prop := ∀ i, i < k → 0 ≤ l[i]?.getD 0 ∧ l[i]?.getD 0 < b ∧ (0 < i → l[i - 1]?.getD 0 < l[i]?.getD 0)
def lastA (l : List Int) (k : Nat) : Int := if k = 0 then -1 else l[k - 1]?.getD 0
theorem asc_no {l : List Int} {b : Int} {k : Nat} (hk : k < l.length) (hp : AscK l b k) (h : ¬ (lastA l k < l[k]?.getD 0 ∧ l[k]?.getD 0 < b)) : ¬ Asc l b := fun ha => by
  obtain ⟨h1, h2, h3⟩ := ha k hk
  refine h ⟨?_, h2⟩
  unfold lastA
  split
  · omega
  · exact h3 (by omega)
theorem asc_yes {l : List Int} {b : Int} {k : Nat} (hp : AscK l b k) (h1 : lastA l k < l[k]?.getD 0) (h2 : l[k]?.getD 0 < b) : AscK l b (k + 1) := fun i hi => by
  rcases (by omega : i < k ∨ i = k) with h | rfl
  · exact hp i h
  · refine ⟨?_, h2, fun h0 => ?_⟩
    · unfold lastA at h1
      split at h1
      · omega
      · have := (hp (i - 1) (by omega)).1; omega
    · unfold lastA at h1
      rw [if_neg (by omega)] at h1
      exact h1
set_option maxHeartbeats 2000000 in
theorem ascends_ac (l : List Int) (b : Int) (hl : l.length ≤ 1000000) : AC Try.prog 145 [.list (ints l), dI b] [] [] (dB (decide (Asc l b))) := by
  refine krecord_ascends.ac (n0 := 0) (by simp) ⟨.list _, .val _, trivial⟩ trivial rfl ?_
  unfold crecord_ascends
  (have hg : (987654321 : Nat) - 987654321 = 0 := rfl; have hr := hg; repeat' (first | refine aw_seq ?_ | (refine aw_skip ?_; try simp only [thenQ, blockQ, if_true, if_false, Nat.reduceEqDiff, reduceCtorEq]) | (refine aw_exit ?_; try simp only [thenQ, blockQ, if_true, if_false, Nat.reduceEqDiff, reduceCtorEq]) | refine aw_ret ?_ | refine aw_block ?_ | refine aw_condT rfl ?_ | refine aw_condF rfl ?_ | ((first | refine aw_region ?_ | refine ago_if (by omega) ?_ | skip); simp (config := {maxSteps := 10000000}) (disch := first | exact okYes (by kernel_rfl) | omega) only [thenQ, List.map, Int.reduceNeg, dB, List.length, Nat.zero_add, Nat.reduceMul, envOf, dI, ARun_none, AOpRun, aexec, FSt.ev, AGo_ok, St.app, putO, eput_c, Nat.reduceBEq, eput_n, cond_false, hups, ARun_nil, dropE_c, inL_n, dropE_n, Nat.reduceAdd, St.F, ↓eget_h, eget_c, ints_len])))
  refine aw_loop (fun k : Nat => ⟨[(1, dI b), (5, dI (lastA l k)), (8, .list (ints l)), (9, dI l.length), (10, dI k)], [], 400⟩) (fun k => k ≤ l.length ∧ AscK l b k) (fun k => l.length - k) ⟨0, ⟨by omega, fun i hi => by omega⟩, ?_⟩ ?_
  · refine wk_to [] [] (by kernel_rfl) (by kernel_rfl) (by kernel_rfl) (by kernel_rfl) (by kernel_rfl) ?_ ?_ <;> repeat' (first | exact trivial | exact vr_val _ | exact vr_list _ | apply And.intro)
  rintro k ⟨hk, hp⟩
  by_cases hk2 : k < l.length
  case neg =>
    obtain rfl : k = l.length := by omega
    rw [decide_eq_true (show Asc l b from hp)]
    (have hg : (987654321 : Nat) - 987654321 = 0 := rfl; have hr := hg; repeat' (first | refine aw_seq ?_ | (refine aw_skip ?_; try simp only [thenQ, blockQ, if_true, if_false, Nat.reduceEqDiff, reduceCtorEq]) | (refine aw_exit ?_; try simp only [thenQ, blockQ, if_true, if_false, Nat.reduceEqDiff, reduceCtorEq]) | refine aw_ret ?_ | refine aw_block ?_ | refine aw_condT rfl ?_ | refine aw_condF rfl ?_ | (refine aw_cond rfl (fun hg => ?_) (fun hg => ?_) <;> (try (have hq := hg; simp only [Bool.not_eq_true', Bool.not_eq_false', Bool.and_eq_true, Bool.and_eq_false_iff, Bool.or_eq_true, Bool.or_eq_false_iff, decide_eq_true_eq, decide_eq_false_iff_not, bne_iff_ne, beq_iff_eq, beq_eq_false_iff_ne, bne_eq_false_iff_eq, ne_eq, Int.not_lt, Int.not_le, Decidable.not_not] at hq)) <;> (try (have hr := hg; simp only [decide_eq_true_eq, decide_eq_false_iff_not] at hr)) <;> (try (exfalso; omega))) | ((first | refine aw_region ?_ | refine ago_if (by omega) ?_ | skip); simp (config := {maxSteps := 10000000}) (disch := first | exact okYes (by kernel_rfl) | omega) only [thenQ, dI, List.length, Nat.zero_add, Nat.reduceMul, Nat.reduceAdd, ARun_none, AOpRun, aexec, FSt.ev, St.F, eget_c, Nat.reduceBEq, ↓eget_h, cond_false, isSh, Bool.false_eq_true, ↓reduceIte, Option.map, abin, AGo_ok, St.app, putO, eput_c, eput_n, hups, List.map, ARun_nil, dropE_c, inL_n, dropE_n, hr, decide_false])))
    all_goals (refine end_to [] [] (by first | exact .inl rfl | exact .inr rfl) rfl (by kernel_rfl) (by kernel_rfl) (by kernel_rfl) ?_ ?_ <;> repeat' (first | exact trivial | exact vr_val _))
  have g1 := ints_gd l k hk2
  have e1 : lastA l (k + 1) = l[k]?.getD 0 := by unfold lastA; rw [if_neg (by omega)]; rfl
  have hno := asc_no hk2 hp
  have hyes := asc_yes hp
  rw [← e1] at hno hyes g1
  generalize lastA l (k + 1) = x at *
  generalize lastA l k = y at *
  cases q1 : decide (x ≤ y) with
  | true =>
    rw [decide_eq_false (hno fun h => by have := of_decide_eq_true q1; omega)]
    (have hg : (987654321 : Nat) - 987654321 = 0 := rfl; have hr := hg; repeat' (first | refine aw_seq ?_ | (refine aw_skip ?_; try simp only [thenQ, blockQ, if_true, if_false, Nat.reduceEqDiff, reduceCtorEq]) | (refine aw_exit ?_; try simp only [thenQ, blockQ, if_true, if_false, Nat.reduceEqDiff, reduceCtorEq]) | refine aw_ret ?_ | refine aw_block ?_ | refine aw_condT rfl ?_ | refine aw_condF rfl ?_ | (refine aw_cond rfl (fun hg => ?_) (fun hg => ?_) <;> (try (have hq := hg; simp only [Bool.not_eq_true', Bool.not_eq_false', Bool.and_eq_true, Bool.and_eq_false_iff, Bool.or_eq_true, Bool.or_eq_false_iff, decide_eq_true_eq, decide_eq_false_iff_not, bne_iff_ne, beq_iff_eq, beq_eq_false_iff_ne, bne_eq_false_iff_eq, ne_eq, Int.not_lt, Int.not_le, Decidable.not_not] at hq)) <;> (try (have hr := hg; simp only [decide_eq_true_eq, decide_eq_false_iff_not] at hr)) <;> (try (exfalso; omega))) | ((first | refine aw_region ?_ | refine ago_if (by omega) ?_ | skip); simp (config := {maxSteps := 10000000}) (disch := first | exact okYes (by kernel_rfl) | omega) only [thenQ, dI, List.length, Nat.zero_add, Nat.reduceMul, Nat.reduceAdd, ARun_none, AOpRun, aexec, FSt.ev, St.F, eget_c, Nat.reduceBEq, ↓eget_h, cond_false, isSh, Bool.false_eq_true, ↓reduceIte, Option.map, abin, AGo_ok, St.app, putO, eput_c, eput_n, hups, List.map, ARun_nil, dropE_c, inL_n, dropE_n, hr, decide_true, Int.natCast_nonneg, ints_all, and_self, opt1, Int.toNat_natCast, g1, run1, List.getElem?_cons_zero, inL_c, beq_self_eq_true, cond_true, q1, ARun_some, AG_tf, blockQ])))
    all_goals (refine end_to [] [] (by first | exact .inl rfl | exact .inr rfl) rfl (by kernel_rfl) (by kernel_rfl) (by kernel_rfl) ?_ ?_ <;> repeat' (first | exact trivial | exact vr_val _))
  | false =>
    have n1 := of_decide_eq_false q1
    cases q2 : decide (x ≥ b) with
    | true =>
      rw [decide_eq_false (hno fun h => by have := of_decide_eq_true q2; omega)]
      (have hg : (987654321 : Nat) - 987654321 = 0 := rfl; have hr := hg; repeat' (first | refine aw_seq ?_ | (refine aw_skip ?_; try simp only [thenQ, blockQ, if_true, if_false, Nat.reduceEqDiff, reduceCtorEq]) | (refine aw_exit ?_; try simp only [thenQ, blockQ, if_true, if_false, Nat.reduceEqDiff, reduceCtorEq]) | refine aw_ret ?_ | refine aw_block ?_ | refine aw_condT rfl ?_ | refine aw_condF rfl ?_ | (refine aw_cond rfl (fun hg => ?_) (fun hg => ?_) <;> (try (have hq := hg; simp only [Bool.not_eq_true', Bool.not_eq_false', Bool.and_eq_true, Bool.and_eq_false_iff, Bool.or_eq_true, Bool.or_eq_false_iff, decide_eq_true_eq, decide_eq_false_iff_not, bne_iff_ne, beq_iff_eq, beq_eq_false_iff_ne, bne_eq_false_iff_eq, ne_eq, Int.not_lt, Int.not_le, Decidable.not_not] at hq)) <;> (try (have hr := hg; simp only [decide_eq_true_eq, decide_eq_false_iff_not] at hr)) <;> (try (exfalso; omega))) | ((first | refine aw_region ?_ | refine ago_if (by omega) ?_ | skip); simp (config := {maxSteps := 10000000}) (disch := first | exact okYes (by kernel_rfl) | omega) only [thenQ, dI, List.length, Nat.zero_add, Nat.reduceMul, Nat.reduceAdd, ARun_none, AOpRun, aexec, FSt.ev, St.F, eget_c, Nat.reduceBEq, ↓eget_h, cond_false, isSh, Bool.false_eq_true, ↓reduceIte, Option.map, abin, AGo_ok, St.app, putO, eput_c, eput_n, hups, List.map, ARun_nil, dropE_c, inL_n, dropE_n, hr, decide_true, Int.natCast_nonneg, ints_all, and_self, opt1, Int.toNat_natCast, g1, run1, List.getElem?_cons_zero, inL_c, beq_self_eq_true, cond_true, q1, ARun_some, AG_ff, q2, blockQ])))
      all_goals (refine end_to [] [] (by first | exact .inl rfl | exact .inr rfl) rfl (by kernel_rfl) (by kernel_rfl) (by kernel_rfl) ?_ ?_ <;> repeat' (first | exact trivial | exact vr_val _))
    | false =>
      have n2 := of_decide_eq_false q2
      (have hg : (987654321 : Nat) - 987654321 = 0 := rfl; have hr := hg; repeat' (first | refine aw_seq ?_ | (refine aw_skip ?_; try simp only [thenQ, blockQ, if_true, if_false, Nat.reduceEqDiff, reduceCtorEq]) | (refine aw_exit ?_; try simp only [thenQ, blockQ, if_true, if_false, Nat.reduceEqDiff, reduceCtorEq]) | refine aw_ret ?_ | refine aw_block ?_ | refine aw_condT rfl ?_ | refine aw_condF rfl ?_ | (refine aw_cond rfl (fun hg => ?_) (fun hg => ?_) <;> (try (have hq := hg; simp only [Bool.not_eq_true', Bool.not_eq_false', Bool.and_eq_true, Bool.and_eq_false_iff, Bool.or_eq_true, Bool.or_eq_false_iff, decide_eq_true_eq, decide_eq_false_iff_not, bne_iff_ne, beq_iff_eq, beq_eq_false_iff_ne, bne_eq_false_iff_eq, ne_eq, Int.not_lt, Int.not_le, Decidable.not_not] at hq)) <;> (try (have hr := hg; simp only [decide_eq_true_eq, decide_eq_false_iff_not] at hr)) <;> (try (exfalso; omega))) | ((first | refine aw_region ?_ | refine ago_if (by omega) ?_ | skip); simp (config := {maxSteps := 10000000}) (disch := first | exact okYes (by kernel_rfl) | omega) only [thenQ, dI, List.length, Nat.zero_add, Nat.reduceMul, Nat.reduceAdd, ARun_none, AOpRun, aexec, FSt.ev, St.F, eget_c, Nat.reduceBEq, ↓eget_h, cond_false, isSh, Bool.false_eq_true, ↓reduceIte, Option.map, abin, AGo_ok, St.app, putO, eput_c, eput_n, hups, List.map, ARun_nil, dropE_c, inL_n, dropE_n, hr, decide_true, Int.natCast_nonneg, ints_all, and_self, opt1, Int.toNat_natCast, g1, run1, List.getElem?_cons_zero, inL_c, beq_self_eq_true, cond_true, q1, ARun_some, AG_ff, q2, blockQ, fits])))
      refine ⟨k + 1, ⟨by omega, hyes (by omega) (by omega)⟩, by omega, ?_⟩
      rw [e1]
      refine wk_to [] [] (by kernel_rfl) (by kernel_rfl) (by kernel_rfl) (by kernel_rfl) (by kernel_rfl) ?_ ?_ <;> repeat' (first | exact trivial | exact vr_val _ | exact vr_list _ | apply And.intro)
/-- a case -/
def casD (c : Cas) : D := .agg [.list (cls c.cl), .list (sps c.pf)]
theorem in_cas (S : Nat → Prop) (c : Cas) : In S (casD c) := .agg _ (by intro d hd; simp at hd; rcases hd with rfl | rfl <;> exact .list _)
open Classical in
noncomputable def casB (c : Cas) : Bool := decide (CasOk c)
open Classical in
theorem casB_y {c : Cas} (h : CasOk c) : casB c = true := by unfold casB; exact decide_eq_true h
open Classical in
theorem casB_n {c : Cas} (h : ¬ CasOk c) : casB c = false := by unfold casB; exact decide_eq_false h
/-- what came in -/
structure CasIn (c : Cas) : Prop where
  n1 : c.cl.length ≤ maxLen
  n2 : c.pf.length ≤ maxLen
  l1 : ∀ i, (clAt c i).needs.length ≤ 1000000
  l2 : ∀ i, (clAt c i).proofs.length ≤ 1000000
theorem pf_any {c : Cas} : (c.pf.any fun x => !decide (pfOk x)) = true ↔ ¬ ∀ i, i < c.pf.length → pfOk (pfAt c i) := by
  rw [List.any_eq_true]
  constructor
  · rintro ⟨x, hx, h⟩ ha
    obtain ⟨j, hj, rfl⟩ := List.getElem_of_mem hx
    have := ha j hj
    simp only [pfAt, hj, List.getElem?_eq_getElem, Option.getD_some] at this
    simp [this] at h
  · intro h
    by_cases hx : ∃ x ∈ c.pf, ¬ pfOk x
    · obtain ⟨x, h1, h2⟩ := hx; exact ⟨x, h1, by simp [h2]⟩
    · refine absurd (fun i hi => ?_) h
      refine Decidable.byContradiction fun h1 => hx ⟨pfAt c i, ?_, h1⟩
      simp [pfAt, hi]
set_option maxRecDepth 100000 in
set_option maxHeartbeats 4000000 in
theorem cvalid_ac (c : Cas) (hc : CasIn c) : AC Try.prog 118 [casD c] [] [] (dB (casB c)) := by
  refine krecord_valid.ac (n0 := 0) (by simp) ⟨in_cas _ _, trivial⟩ trivial rfl ?_
  unfold crecord_valid casD
  have hmax : maxLen = 9223372036854775807 := rfl
  have m1 := hc.n1
  have m2 := hc.n2
  cases q1 : decide ((c.cl.length : Int) > 16) with
  | true =>
    rw [casB_n fun h => by have := h.n1; have := of_decide_eq_true q1; omega]
    (have hg : (987654321 : Nat) - 987654321 = 0 := rfl; have hr := hg; repeat' (first | refine aw_seq ?_ | (refine aw_skip ?_; try simp only [thenQ, blockQ, if_true, if_false, Nat.reduceEqDiff, reduceCtorEq]) | (refine aw_exit ?_; try simp only [thenQ, blockQ, if_true, if_false, Nat.reduceEqDiff, reduceCtorEq]) | refine aw_ret ?_ | refine aw_block ?_ | refine aw_condT rfl ?_ | refine aw_condF rfl ?_ | ((first | refine aw_region ?_ | refine ago_if (by omega) ?_ | skip); simp (config := {maxSteps := 10000000}) (disch := first | exact okYes (by kernel_rfl) | omega) only [thenQ, List.map, dB, List.length, Nat.zero_add, Nat.reduceAdd, Nat.reduceMul, envOf, ARun_none, AOpRun, aexec, D.isBot, FSt.ev, St.F, ↓eget_h, Bool.false_eq_true, Option.isSome, hget_n, or_self, ↓reduceIte, D.cells, AGo_ok, St.app, putO, eput_c, Nat.reduceBEq, eput_n, cond_false, hups, hput_n, ARun_nil, dropE_c, inL_n, dropE_n, eget_c, Option.map, run1, hget_c, beq_self_eq_true, cond_true, List.getElem?_cons_zero, cls_len, isSh, abin, q1, ARun_some, AG_tf, inL_c])))
    all_goals (refine end_to [] [] (by first | exact .inl rfl | exact .inr rfl) rfl (by kernel_rfl) (by kernel_rfl) (by kernel_rfl) ?_ ?_ <;> repeat' (first | exact trivial | exact vr_val _))
  | false =>
  have n1 := of_decide_eq_false q1
  cases q2 : decide ((c.pf.length : Int) > 12) with
  | true =>
    rw [casB_n fun h => by have := h.n2; have := of_decide_eq_true q2; omega]
    (have hg : (987654321 : Nat) - 987654321 = 0 := rfl; have hr := hg; repeat' (first | refine aw_seq ?_ | (refine aw_skip ?_; try simp only [thenQ, blockQ, if_true, if_false, Nat.reduceEqDiff, reduceCtorEq]) | (refine aw_exit ?_; try simp only [thenQ, blockQ, if_true, if_false, Nat.reduceEqDiff, reduceCtorEq]) | refine aw_ret ?_ | refine aw_block ?_ | refine aw_condT rfl ?_ | refine aw_condF rfl ?_ | ((first | refine aw_region ?_ | refine ago_if (by omega) ?_ | skip); simp (config := {maxSteps := 10000000}) (disch := first | exact okYes (by kernel_rfl) | omega) only [thenQ, List.map, dB, List.length, Nat.zero_add, Nat.reduceAdd, Nat.reduceMul, envOf, ARun_none, AOpRun, aexec, D.isBot, FSt.ev, St.F, ↓eget_h, Bool.false_eq_true, Option.isSome, hget_n, or_self, ↓reduceIte, D.cells, AGo_ok, St.app, putO, eput_c, Nat.reduceBEq, eput_n, cond_false, hups, hput_n, ARun_nil, dropE_c, inL_n, dropE_n, eget_c, Option.map, run1, hget_c, beq_self_eq_true, cond_true, List.getElem?_cons_zero, cls_len, isSh, abin, q1, ARun_some, AG_ff, List.getElem?_cons_succ, sps_len, q2, inL_c])))
    all_goals (refine end_to [] [] (by first | exact .inl rfl | exact .inr rfl) rfl (by kernel_rfl) (by kernel_rfl) (by kernel_rfl) ?_ ?_ <;> repeat' (first | exact trivial | exact vr_val _))
  | false =>
  have n2 := of_decide_eq_false q2
  refine aw_seq (aw_region ?_)
  simp (config := {maxSteps := 10000000}) (disch := first | exact okYes (by kernel_rfl) | omega) only [thenQ, List.map, dB, List.length, Nat.zero_add, Nat.reduceAdd, Nat.reduceMul, envOf, ARun_none, AOpRun, aexec, D.isBot, FSt.ev, St.F, ↓eget_h, Bool.false_eq_true, Option.isSome, hget_n, or_self, ↓reduceIte, D.cells, AGo_ok, St.app, putO, eput_c, Nat.reduceBEq, eput_n, cond_false, hups, hput_n, ARun_nil, dropE_c, inL_n, dropE_n]
  refine aw_seq (aw_seq (aw_region ?_))
  simp (config := {maxSteps := 10000000}) (disch := first | exact okYes (by kernel_rfl) | omega) only [thenQ, List.length, Nat.zero_add, Nat.reduceAdd, Nat.reduceMul, ARun_none, AOpRun, aexec, FSt.ev, St.F, eget_c, Nat.reduceBEq, ↓eget_h, cond_false, AGo_ok, St.app, putO, eput_c, eput_n, hups, List.map, Option.map, run1, hget_c, beq_self_eq_true, hget_n, cond_true, List.getElem?_cons_zero, cls_len, isSh, Bool.false_eq_true, ↓reduceIte, abin, q1, ARun_some, AG_ff, List.getElem?_cons_succ, sps_len, q2, ARun_nil, dropE_c, inL_c, inL_n, dropE_n]
  refine aw_condF rfl (aw_skip ?_)
  refine aw_seq (aw_seq (aw_region ?_))
  simp (config := {maxSteps := 10000000}) (disch := first | exact okYes (by kernel_rfl) | omega) only [thenQ, List.length, Nat.zero_add, Nat.reduceAdd, Nat.reduceMul, ARun_none, AOpRun, aexec, FSt.ev, St.F, eget_c, Nat.reduceBEq, ↓eget_h, cond_false, AGo_ok, St.app, putO, eput_c, eput_n, hups, List.map, Option.map, run1, hget_c, beq_self_eq_true, hget_n, cond_true, List.getElem?_cons_zero, cls_len, ARun_nil, dropE_c, inL_c, inL_n, dropE_n]
  refine aw_block ?_
  refine aw_loop (fun k : Nat => ⟨[(1, .ptr 0 0), (16, .list (cls c.cl)), (17, dI c.cl.length), (18, dI k)], [(0, [.list (cls c.cl), .list (sps c.pf)])], 400⟩) (fun k => k ≤ c.cl.length ∧ ∀ i, i < k → Asc (clAt c i).needs i ∧ Asc (clAt c i).proofs c.pf.length) (fun k => c.cl.length - k) ⟨0, ⟨by omega, fun i hi => by omega⟩, ?_⟩ ?_
  · refine wk_to [] [(0, 0)] (by kernel_rfl) (by kernel_rfl) (by kernel_rfl) (by kernel_rfl) (by kernel_rfl) ?_ ?_ <;> repeat' (first | exact trivial | exact vr_val _ | exact vr_list _ | exact vr_ptr _ _ _ rfl | refine And.intro ⟨_, rfl, .inl ⟨_, rfl, by decide, ?_⟩⟩ ?_ | apply And.intro)
  rintro k ⟨hk, hp⟩
  by_cases hk2 : k < c.cl.length
  case neg =>
    obtain rfl : k = c.cl.length := by omega
    have hf := cfsp_ac 147 (fun x => !decide (pfOk x)) valid1_ac c.pf (by omega)
    have e : casB c = !(c.pf.any fun x => !decide (pfOk x)) := by
      cases h : (c.pf.any fun x => !decide (pfOk x)) with
      | true => exact casB_n fun hh => (pf_any.1 h) hh.pf
      | false => exact casB_y ⟨by omega, by omega, hp, Classical.byContradiction fun hn => by rw [pf_any.2 hn] at h; cases h⟩
    rw [e]
    generalize (c.pf.any fun x => !decide (pfOk x)) = bb at *
    (have hg : (987654321 : Nat) - 987654321 = 0 := rfl; have hr := hg; repeat' (first | refine aw_seq ?_ | (refine aw_skip ?_; try simp only [thenQ, blockQ, if_true, if_false, Nat.reduceEqDiff, reduceCtorEq]) | (refine aw_exit ?_; try simp only [thenQ, blockQ, if_true, if_false, Nat.reduceEqDiff, reduceCtorEq]) | refine aw_ret ?_ | refine aw_block ?_ | refine aw_condT rfl ?_ | refine aw_condF rfl ?_ | (refine aw_cond rfl (fun hg => ?_) (fun hg => ?_) <;> (try (have hq := hg; simp only [Bool.not_eq_true', Bool.not_eq_false', Bool.and_eq_true, Bool.and_eq_false_iff, Bool.or_eq_true, Bool.or_eq_false_iff, decide_eq_true_eq, decide_eq_false_iff_not, bne_iff_ne, beq_iff_eq, beq_eq_false_iff_ne, bne_eq_false_iff_eq, ne_eq, Int.not_lt, Int.not_le, Decidable.not_not] at hq)) <;> (try (have hr := hg; simp only [decide_eq_true_eq, decide_eq_false_iff_not] at hr)) <;> (try (exfalso; omega))) | ((first | refine aw_region ?_ | refine acall0 (hf) ?_ | refine ago_if (by omega) ?_ | skip); simp (config := {maxSteps := 10000000}) (disch := first | exact okYes (by kernel_rfl) | omega) only [thenQ, dI, List.length, Nat.zero_add, Nat.reduceMul, Nat.reduceAdd, ARun_none, AOpRun, aexec, FSt.ev, St.F, eget_c, Nat.reduceBEq, ↓eget_h, cond_false, isSh, Bool.false_eq_true, ↓reduceIte, Option.map, abin, AGo_ok, St.app, putO, eput_c, eput_n, hups, List.map, ARun_nil, dropE_c, inL_n, dropE_n, hr, decide_false, run1, hget_c, beq_self_eq_true, hget_n, cond_true, List.getElem?_cons_succ, List.getElem?_cons_zero, dB, inL_c])))
    all_goals (refine end_to [] [] (by first | exact .inl rfl | exact .inr rfl) rfl (by kernel_rfl) (by kernel_rfl) (by kernel_rfl) ?_ ?_ <;> repeat' (first | exact trivial | exact vr_val _))
  have g1 : (cls c.cl)[k]? = some (clC (clAt c k)) := cls_gd c.cl k hk2
  unfold clC at g1
  have l1 := hc.l1 k
  have l2 := hc.l2 k
  have hyes : Asc (clAt c k).needs k → Asc (clAt c k).proofs c.pf.length → ∀ i, i < k + 1 → Asc (clAt c i).needs i ∧ Asc (clAt c i).proofs c.pf.length := fun h1 h2 i hi => by
    rcases (by omega : i < k ∨ i = k) with h | rfl
    · exact hp i h
    · exact ⟨h1, h2⟩
  have hno : ¬ (Asc (clAt c k).needs k ∧ Asc (clAt c k).proofs c.pf.length) → casB c = false := fun h => casB_n fun hh => h (hh.asc k hk2)
  generalize clAt c k = x at g1 l1 l2 hyes hno
  have a1 := ascends_ac x.needs k l1
  have a2 := ascends_ac x.proofs c.pf.length l2
  by_cases h1 : Asc x.needs k
  case neg =>
    rw [decide_eq_false h1] at a1
    rw [hno fun h => h1 h.1]
    (have hg : (987654321 : Nat) - 987654321 = 0 := rfl; have hr := hg; repeat' (first | refine aw_seq ?_ | (refine aw_skip ?_; try simp only [thenQ, blockQ, if_true, if_false, Nat.reduceEqDiff, reduceCtorEq]) | (refine aw_exit ?_; try simp only [thenQ, blockQ, if_true, if_false, Nat.reduceEqDiff, reduceCtorEq]) | refine aw_ret ?_ | refine aw_block ?_ | refine aw_condT rfl ?_ | refine aw_condF rfl ?_ | (refine aw_cond rfl (fun hg => ?_) (fun hg => ?_) <;> (try (have hq := hg; simp only [Bool.not_eq_true', Bool.not_eq_false', Bool.and_eq_true, Bool.and_eq_false_iff, Bool.or_eq_true, Bool.or_eq_false_iff, decide_eq_true_eq, decide_eq_false_iff_not, bne_iff_ne, beq_iff_eq, beq_eq_false_iff_ne, bne_eq_false_iff_eq, ne_eq, Int.not_lt, Int.not_le, Decidable.not_not] at hq)) <;> (try (have hr := hg; simp only [decide_eq_true_eq, decide_eq_false_iff_not] at hr)) <;> (try (exfalso; omega))) | ((first | refine aw_region ?_ | refine acall0 (a1) ?_ | refine ago_if (by omega) ?_ | skip); simp (config := {maxSteps := 10000000}) (disch := first | exact okYes (by kernel_rfl) | omega) only [thenQ, dI, List.length, Nat.zero_add, Nat.reduceMul, Nat.reduceAdd, ARun_none, AOpRun, aexec, FSt.ev, St.F, eget_c, Nat.reduceBEq, ↓eget_h, cond_false, isSh, Bool.false_eq_true, ↓reduceIte, Option.map, abin, AGo_ok, St.app, putO, eput_c, eput_n, hups, List.map, ARun_nil, dropE_c, inL_n, dropE_n, hr, decide_true, Int.natCast_nonneg, cls_all, and_self, opt1, Int.toNat_natCast, g1, dB, Nat.reduceLeDiff, List.take, Option.isSome, hget_c, hget_n, hput_c, hput_n, ↓hget_h, D.isBot, D.cells, List.all, D.leaf, Bool.and_true, splice, List.nil_append, List.drop, List.append_nil, beq_self_eq_true, cond_true, inL_c, run1, List.getElem?_cons_zero, Bool.not_false, ARun_some, AG_tf, blockQ])))
    all_goals (refine end_to [] [] (by first | exact .inl rfl | exact .inr rfl) rfl (by kernel_rfl) (by kernel_rfl) (by kernel_rfl) ?_ ?_ <;> repeat' (first | exact trivial | exact vr_val _))
  by_cases h2 : Asc x.proofs c.pf.length
  case neg =>
    rw [decide_eq_true h1] at a1
    rw [decide_eq_false h2] at a2
    rw [hno fun h => h2 h.2]
    (have hg : (987654321 : Nat) - 987654321 = 0 := rfl; have hr := hg; repeat' (first | refine aw_seq ?_ | (refine aw_skip ?_; try simp only [thenQ, blockQ, if_true, if_false, Nat.reduceEqDiff, reduceCtorEq]) | (refine aw_exit ?_; try simp only [thenQ, blockQ, if_true, if_false, Nat.reduceEqDiff, reduceCtorEq]) | refine aw_ret ?_ | refine aw_block ?_ | refine aw_condT rfl ?_ | refine aw_condF rfl ?_ | (refine aw_cond rfl (fun hg => ?_) (fun hg => ?_) <;> (try (have hq := hg; simp only [Bool.not_eq_true', Bool.not_eq_false', Bool.and_eq_true, Bool.and_eq_false_iff, Bool.or_eq_true, Bool.or_eq_false_iff, decide_eq_true_eq, decide_eq_false_iff_not, bne_iff_ne, beq_iff_eq, beq_eq_false_iff_ne, bne_eq_false_iff_eq, ne_eq, Int.not_lt, Int.not_le, Decidable.not_not] at hq)) <;> (try (have hr := hg; simp only [decide_eq_true_eq, decide_eq_false_iff_not] at hr)) <;> (try (exfalso; omega))) | ((first | refine aw_region ?_ | refine acall0 (a1) ?_ | refine acall0 (a2) ?_ | refine ago_if (by omega) ?_ | skip); simp (config := {maxSteps := 10000000}) (disch := first | exact okYes (by kernel_rfl) | omega) only [thenQ, dI, List.length, Nat.zero_add, Nat.reduceMul, Nat.reduceAdd, ARun_none, AOpRun, aexec, FSt.ev, St.F, eget_c, Nat.reduceBEq, ↓eget_h, cond_false, isSh, Bool.false_eq_true, ↓reduceIte, Option.map, abin, AGo_ok, St.app, putO, eput_c, eput_n, hups, List.map, ARun_nil, dropE_c, inL_n, dropE_n, hr, decide_true, Int.natCast_nonneg, cls_all, and_self, opt1, Int.toNat_natCast, g1, dB, Nat.reduceLeDiff, List.take, Option.isSome, hget_c, hget_n, hput_c, hput_n, ↓hget_h, D.isBot, D.cells, List.all, D.leaf, Bool.and_true, splice, List.nil_append, List.drop, List.append_nil, beq_self_eq_true, cond_true, inL_c, run1, List.getElem?_cons_zero, Bool.not_true, ARun_some, AG_ff, List.getElem?_cons_succ, sps_len, Bool.not_false, blockQ])))
    all_goals (refine end_to [] [] (by first | exact .inl rfl | exact .inr rfl) rfl (by kernel_rfl) (by kernel_rfl) (by kernel_rfl) ?_ ?_ <;> repeat' (first | exact trivial | exact vr_val _))
  rw [decide_eq_true h1] at a1
  rw [decide_eq_true h2] at a2
  (have hg : (987654321 : Nat) - 987654321 = 0 := rfl; have hr := hg; repeat' (first | refine aw_seq ?_ | (refine aw_skip ?_; try simp only [thenQ, blockQ, if_true, if_false, Nat.reduceEqDiff, reduceCtorEq]) | (refine aw_exit ?_; try simp only [thenQ, blockQ, if_true, if_false, Nat.reduceEqDiff, reduceCtorEq]) | refine aw_ret ?_ | refine aw_block ?_ | refine aw_condT rfl ?_ | refine aw_condF rfl ?_ | (refine aw_cond rfl (fun hg => ?_) (fun hg => ?_) <;> (try (have hq := hg; simp only [Bool.not_eq_true', Bool.not_eq_false', Bool.and_eq_true, Bool.and_eq_false_iff, Bool.or_eq_true, Bool.or_eq_false_iff, decide_eq_true_eq, decide_eq_false_iff_not, bne_iff_ne, beq_iff_eq, beq_eq_false_iff_ne, bne_eq_false_iff_eq, ne_eq, Int.not_lt, Int.not_le, Decidable.not_not] at hq)) <;> (try (have hr := hg; simp only [decide_eq_true_eq, decide_eq_false_iff_not] at hr)) <;> (try (exfalso; omega))) | ((first | refine aw_region ?_ | refine acall0 (a1) ?_ | refine acall0 (a2) ?_ | refine ago_if (by omega) ?_ | skip); simp (config := {maxSteps := 10000000}) (disch := first | exact okYes (by kernel_rfl) | omega) only [thenQ, dI, List.length, Nat.zero_add, Nat.reduceMul, Nat.reduceAdd, ARun_none, AOpRun, aexec, FSt.ev, St.F, eget_c, Nat.reduceBEq, ↓eget_h, cond_false, isSh, Bool.false_eq_true, ↓reduceIte, Option.map, abin, AGo_ok, St.app, putO, eput_c, eput_n, hups, List.map, ARun_nil, dropE_c, inL_n, dropE_n, hr, decide_true, Int.natCast_nonneg, cls_all, and_self, opt1, Int.toNat_natCast, g1, dB, Nat.reduceLeDiff, List.take, Option.isSome, hget_c, hget_n, hput_c, hput_n, ↓hget_h, D.isBot, D.cells, List.all, D.leaf, Bool.and_true, splice, List.nil_append, List.drop, List.append_nil, beq_self_eq_true, cond_true, inL_c, run1, List.getElem?_cons_zero, Bool.not_true, ARun_some, AG_ff, List.getElem?_cons_succ, sps_len, fits])))
  refine ⟨k + 1, ⟨by omega, hyes h1 h2⟩, by omega, ?_⟩
  refine wk_to [] [(0, 0)] (by kernel_rfl) (by kernel_rfl) (by kernel_rfl) (by kernel_rfl) (by kernel_rfl) ?_ ?_ <;> repeat' (first | exact trivial | exact vr_val _ | exact vr_list _ | exact vr_ptr _ _ _ rfl | refine And.intro ⟨_, rfl, .inl ⟨_, rfl, by decide, ?_⟩⟩ ?_ | apply And.intro)
theorem casE_B (c : Cas) (E : Int) : casE c E = if casB c = true then 0 else E := by
  by_cases h : CasOk c
  · rw [casE_ok h, casB_y h, if_pos rfl]
  · rw [casE_no h, casB_n h, if_neg (by simp)]
set_option maxRecDepth 100000 in
set_option maxHeartbeats 4000000 in
theorem ccheck_ac (c : Cas) (hc : CasIn c) (claim tick : Int) : AC Try.prog 82 [casD c, dI claim, dI tick] [] [] (dI (clmE c claim tick 122 1)) := by
  refine krecord_check.ac (n0 := 0) (by simp) ⟨in_cas _ _, .val _, .val _, trivial⟩ trivial rfl ?_
  have cv := cvalid_ac c hc
  unfold crecord_check clmE
  rw [casE_B]
  have hmax : maxLen = 9223372036854775807 := rfl
  have m1 := hc.n1
  unfold casD at *
  cases hb : casB c with
  | false =>
    rw [hb] at cv
    simp only [Bool.false_eq_true, if_false, ne_eq, reduceCtorEq, not_false_eq_true, if_true]
    (have hg : (987654321 : Nat) - 987654321 = 0 := rfl; have hr := hg; repeat' (first | refine aw_seq ?_ | (refine aw_skip ?_; try simp only [thenQ, blockQ, if_true, if_false, Nat.reduceEqDiff, reduceCtorEq]) | (refine aw_exit ?_; try simp only [thenQ, blockQ, if_true, if_false, Nat.reduceEqDiff, reduceCtorEq]) | refine aw_ret ?_ | refine aw_block ?_ | refine aw_condT rfl ?_ | refine aw_condF rfl ?_ | ((first | refine aw_region ?_ | refine acall0 (cv) ?_ | refine ago_if (by omega) ?_ | skip); simp (config := {maxSteps := 10000000}) (disch := first | exact okYes (by kernel_rfl) | omega) only [thenQ, List.map, dI, Int.reduceEq, not_false_eq_true, ↓reduceIte, List.length, Nat.zero_add, Nat.reduceAdd, Nat.reduceMul, envOf, ARun_none, AOpRun, aexec, D.isBot, FSt.ev, St.F, ↓eget_h, Bool.false_eq_true, Option.isSome, hget_n, or_self, D.cells, AGo_ok, St.app, putO, eput_c, Nat.reduceBEq, eput_n, cond_false, hups, hput_n, ARun_nil, dropE_c, inL_n, dropE_n, eget_c, hget_c, beq_self_eq_true, cond_true, Nat.reduceLeDiff, List.drop, List.take, dB, Bool.not_false, inL_c, blockQ])))
    all_goals (refine end_to [] [] (by first | exact .inl rfl | exact .inr rfl) rfl (by kernel_rfl) (by kernel_rfl) (by kernel_rfl) ?_ ?_ <;> repeat' (first | exact trivial | exact vr_val _))
  | true =>
    rw [hb] at cv
    simp only [if_true, ne_eq, not_true_eq_false, if_false]
    have w1 := within_ac claim 0 ((c.cl.length : Int) - 1)
    have w2 := within_ac tick 0 2000
    cases h1 : wI claim 0 ((c.cl.length : Int) - 1) with
    | false =>
      rw [h1] at w1
      rw [if_neg fun h => by have := wI_f h1; omega]
      (have hg : (987654321 : Nat) - 987654321 = 0 := rfl; have hr := hg; repeat' (first | refine aw_seq ?_ | (refine aw_skip ?_; try simp only [thenQ, blockQ, if_true, if_false, Nat.reduceEqDiff, reduceCtorEq]) | (refine aw_exit ?_; try simp only [thenQ, blockQ, if_true, if_false, Nat.reduceEqDiff, reduceCtorEq]) | refine aw_ret ?_ | refine aw_block ?_ | refine aw_condT rfl ?_ | refine aw_condF rfl ?_ | ((first | refine aw_region ?_ | refine acall0 (cv) ?_ | refine acall0 (w1) ?_ | refine ago_if (by omega) ?_ | skip); simp (config := {maxSteps := 10000000}) (disch := first | exact okYes (by kernel_rfl) | omega) only [thenQ, List.map, dI, List.length, Nat.zero_add, Nat.reduceAdd, Nat.reduceMul, envOf, ARun_none, AOpRun, aexec, D.isBot, FSt.ev, St.F, ↓eget_h, Bool.false_eq_true, Option.isSome, hget_n, or_self, ↓reduceIte, D.cells, AGo_ok, St.app, putO, eput_c, Nat.reduceBEq, eput_n, cond_false, hups, hput_n, ARun_nil, dropE_c, inL_n, dropE_n, eget_c, hget_c, beq_self_eq_true, cond_true, Nat.reduceLeDiff, List.drop, List.take, dB, Bool.not_true, inL_c, Option.map, run1, List.getElem?_cons_zero, cls_len, isSh, abin, fits, Bool.not_false, blockQ])))
      all_goals (refine end_to [] [] (by first | exact .inl rfl | exact .inr rfl) rfl (by kernel_rfl) (by kernel_rfl) (by kernel_rfl) ?_ ?_ <;> repeat' (first | exact trivial | exact vr_val _))
    | true =>
      rw [h1] at w1
      cases h2 : wI tick 0 2000 with
      | false =>
        rw [h2] at w2
        rw [if_neg fun h => by have := wI_f h2; omega]
        (have hg : (987654321 : Nat) - 987654321 = 0 := rfl; have hr := hg; repeat' (first | refine aw_seq ?_ | (refine aw_skip ?_; try simp only [thenQ, blockQ, if_true, if_false, Nat.reduceEqDiff, reduceCtorEq]) | (refine aw_exit ?_; try simp only [thenQ, blockQ, if_true, if_false, Nat.reduceEqDiff, reduceCtorEq]) | refine aw_ret ?_ | refine aw_block ?_ | refine aw_condT rfl ?_ | refine aw_condF rfl ?_ | ((first | refine aw_region ?_ | refine acall0 (cv) ?_ | refine acall0 (w1) ?_ | refine acall0 (w2) ?_ | refine ago_if (by omega) ?_ | skip); simp (config := {maxSteps := 10000000}) (disch := first | exact okYes (by kernel_rfl) | omega) only [thenQ, List.map, dI, List.length, Nat.zero_add, Nat.reduceAdd, Nat.reduceMul, envOf, ARun_none, AOpRun, aexec, D.isBot, FSt.ev, St.F, ↓eget_h, Bool.false_eq_true, Option.isSome, hget_n, or_self, ↓reduceIte, D.cells, AGo_ok, St.app, putO, eput_c, Nat.reduceBEq, eput_n, cond_false, hups, hput_n, ARun_nil, dropE_c, inL_n, dropE_n, eget_c, hget_c, beq_self_eq_true, cond_true, Nat.reduceLeDiff, List.drop, List.take, dB, Bool.not_true, inL_c, Option.map, run1, List.getElem?_cons_zero, cls_len, isSh, abin, fits, Bool.not_false, blockQ])))
        all_goals (refine end_to [] [] (by first | exact .inl rfl | exact .inr rfl) rfl (by kernel_rfl) (by kernel_rfl) (by kernel_rfl) ?_ ?_ <;> repeat' (first | exact trivial | exact vr_val _))
      | true =>
        rw [h2] at w2
        rw [if_pos (by have := wI_t h1; have := wI_t h2; omega)]
        (have hg : (987654321 : Nat) - 987654321 = 0 := rfl; have hr := hg; repeat' (first | refine aw_seq ?_ | (refine aw_skip ?_; try simp only [thenQ, blockQ, if_true, if_false, Nat.reduceEqDiff, reduceCtorEq]) | (refine aw_exit ?_; try simp only [thenQ, blockQ, if_true, if_false, Nat.reduceEqDiff, reduceCtorEq]) | refine aw_ret ?_ | refine aw_block ?_ | refine aw_condT rfl ?_ | refine aw_condF rfl ?_ | ((first | refine aw_region ?_ | refine acall0 (cv) ?_ | refine acall0 (w1) ?_ | refine acall0 (w2) ?_ | refine ago_if (by omega) ?_ | skip); simp (config := {maxSteps := 10000000}) (disch := first | exact okYes (by kernel_rfl) | omega) only [thenQ, List.map, dI, List.length, Nat.zero_add, Nat.reduceAdd, Nat.reduceMul, envOf, ARun_none, AOpRun, aexec, D.isBot, FSt.ev, St.F, ↓eget_h, Bool.false_eq_true, Option.isSome, hget_n, or_self, ↓reduceIte, D.cells, AGo_ok, St.app, putO, eput_c, Nat.reduceBEq, eput_n, cond_false, hups, hput_n, ARun_nil, dropE_c, inL_n, dropE_n, eget_c, hget_c, beq_self_eq_true, cond_true, Nat.reduceLeDiff, List.drop, List.take, dB, Bool.not_true, inL_c, Option.map, run1, List.getElem?_cons_zero, cls_len, isSh, abin, fits])))
        all_goals (refine end_to [] [] (by first | exact .inl rfl | exact .inr rfl) rfl (by kernel_rfl) (by kernel_rfl) (by kernel_rfl) ?_ ?_ <;> repeat' (first | exact trivial | exact vr_val _))
end Go.Proofs.Ytdcodicoclecnaa
/- record: sets of proofs as bits; which count in a tick. No conditions. -/
set_option linter.unusedSimpArgs false
set_option linter.unusedVariables false
namespace Go.Proofs.Ytdcodicoclecnaa
open Go Go.RowKit Lift

/-- a set of proofs -/
def bitsN (cn : Nat → Bool) : Nat → Nat
  | 0 => 0
  | i + 1 => if cn i = true then bitsN cn i ||| 2 ^ i else bitsN cn i
theorem bitsN_lt (cn : Nat → Bool) : ∀ n, bitsN cn n < 2 ^ n
  | 0 => by simp [bitsN]
  | n + 1 => by
    have ih := bitsN_lt cn n
    have h2 : 2 ^ n < 2 ^ (n + 1) := Nat.pow_lt_pow_right (by omega) (by omega)
    unfold bitsN
    split
    · exact Nat.or_lt_two_pow (by omega) h2
    · omega
theorem bitsN_test (cn : Nat → Bool) (j : Nat) : ∀ n, (bitsN cn n).testBit j = (decide (j < n) && cn j)
  | 0 => by simp [bitsN]
  | n + 1 => by
    have ih := bitsN_test cn j n
    unfold bitsN
    split
    · rename_i h
      rw [Nat.testBit_or, ih, Nat.testBit_two_pow]
      by_cases h1 : n = j
      · subst h1; simp [h]
      · rcases Nat.lt_or_ge j n with h2 | h2
        · simp [h1, h2, show j < n + 1 by omega]
        · simp [h1, show ¬ j < n by omega, show ¬ j < n + 1 by omega]
    · rename_i h
      rw [ih]
      by_cases h1 : n = j
      · subst h1; simp at h; simp [h]
      · rcases Nat.lt_or_ge j n with h2 | h2
        · simp [h2, show j < n + 1 by omega]
        · simp [show ¬ j < n by omega, show ¬ j < n + 1 by omega]
theorem bits_small {n k : Nat} (cn : Nat → Bool) (h : n ≤ 12) (hk : k ≤ n) : bitsN cn k < 4096 := by
  have h1 := bitsN_lt cn k
  have h2 : 2 ^ k ≤ 2 ^ 12 := Nat.pow_le_pow_right (by omega) (by omega)
  omega
set_option maxRecDepth 100000 in
set_option maxHeartbeats 1000000 in
theorem phas_ac (p i : Nat) (hp : p < 4096) (hi : i < 60) : AC Try.prog 89 [dI p, dI i] [] [] (dB (p.testBit i)) := by
  refine krecord_proofs_has.ac (n0 := 0) (by simp) ⟨.val _, .val _, trivial⟩ trivial rfl ?_
  unfold crecord_proofs_has
  have e0 : IntKind.i64.bits = 64 := rfl
  have e1 : min i IntKind.i64.bits = i := by rw [e0]; omega
  have hd : p / 2 ^ i ≤ p := Nat.div_le_self _ _
  have a1 : Int.fdiv (p : Int) (2 ^ i) = ((p / 2 ^ i : Nat) : Int) := fdiv_pow _ _
  have a2 : IntKind.i64.wrap ((BitVec.ofInt IntKind.i64.bits ((p / 2 ^ i : Nat) : Int) &&& BitVec.ofInt IntKind.i64.bits 1).toNat) = ((p / 2 ^ i &&& 1 : Nat) : Int) := and_nat _ 1 (by omega) (by omega)
  have a3 : (((p / 2 ^ i &&& 1 : Nat) : Int) == 1) = p.testBit i := by
    rw [Nat.and_one_is_mod, Nat.testBit_eq_decide_div_mod_eq]
    cases h : decide (p / 2 ^ i % 2 = 1) with
    | true => have := of_decide_eq_true h; simp only [beq_iff_eq]; omega
    | false => have := of_decide_eq_false h; simp only [beq_eq_false_iff_ne]; omega
  (have hg : (987654321 : Nat) - 987654321 = 0 := rfl; have hr := hg; repeat' (first | refine aw_seq ?_ | (refine aw_skip ?_; try simp only [thenQ, blockQ, if_true, if_false, Nat.reduceEqDiff, reduceCtorEq]) | (refine aw_exit ?_; try simp only [thenQ, blockQ, if_true, if_false, Nat.reduceEqDiff, reduceCtorEq]) | refine aw_ret ?_ | refine aw_block ?_ | refine aw_condT rfl ?_ | refine aw_condF rfl ?_ | ((first | refine aw_region ?_ | refine ago_if (by omega) ?_ | skip); simp (config := {maxSteps := 10000000}) (disch := first | exact okYes (by kernel_rfl) | omega) only [thenQ, List.map, dB, List.length, Nat.zero_add, Nat.reduceMul, envOf, dI, ARun_none, AOpRun, aexec, FSt.ev, AGo_ok, St.app, putO, eput_c, Nat.reduceBEq, eput_n, cond_false, hups, ARun_nil, dropE_c, inL_n, dropE_n, Nat.reduceAdd, St.F, ↓eget_h, eget_c, isSh, ↓reduceIte, Option.map, ash, Int.natCast_nonneg, Int.toNat_natCast, e1, a1, Bool.false_eq_true, abin, a2, a3, beq_self_eq_true, cond_true, inL_c])))
  all_goals (refine end_to [] [] (by first | exact .inl rfl | exact .inr rfl) rfl (by kernel_rfl) (by kernel_rfl) (by kernel_rfl) ?_ ?_ <;> repeat' (first | exact trivial | exact vr_val _))
set_option maxRecDepth 100000 in
set_option maxHeartbeats 1000000 in
theorem pwith_ac (p i : Nat) (hp : p < 4096) (hi : i < 12) : AC Try.prog 90 [dI p, dI i] [] [] (dI ((p ||| 2 ^ i : Nat) : Int)) := by
  refine krecord_proofs_with.ac (n0 := 0) (by simp) ⟨.val _, .val _, trivial⟩ trivial rfl ?_
  unfold crecord_proofs_with
  have e0 : IntKind.i64.bits = 64 := rfl
  have e1 : min i IntKind.i64.bits = i := by rw [e0]; omega
  have h2 : 2 ^ i < 2 ^ 12 := Nat.pow_lt_pow_right (by omega) hi
  have a1 : IntKind.i64.wrap (1 * 2 ^ i) = ((2 ^ i : Nat) : Int) := by
    rw [Int.one_mul, show (2 : Int) ^ i = ((2 ^ i : Nat) : Int) by simp]
    generalize 2 ^ i = z at h2 ⊢
    exact wrap_in (by omega) (by omega)
  have a2 := or_nat p (2 ^ i) (by omega) (by omega)
  (have hg : (987654321 : Nat) - 987654321 = 0 := rfl; have hr := hg; repeat' (first | refine aw_seq ?_ | (refine aw_skip ?_; try simp only [thenQ, blockQ, if_true, if_false, Nat.reduceEqDiff, reduceCtorEq]) | (refine aw_exit ?_; try simp only [thenQ, blockQ, if_true, if_false, Nat.reduceEqDiff, reduceCtorEq]) | refine aw_ret ?_ | refine aw_block ?_ | refine aw_condT rfl ?_ | refine aw_condF rfl ?_ | ((first | refine aw_region ?_ | refine ago_if (by omega) ?_ | skip); simp (config := {maxSteps := 10000000}) (disch := first | exact okYes (by kernel_rfl) | omega) only [thenQ, List.map, dI, List.length, Nat.zero_add, Nat.reduceMul, envOf, ARun_none, AOpRun, aexec, FSt.ev, AGo_ok, St.app, putO, eput_c, Nat.reduceBEq, eput_n, cond_false, hups, ARun_nil, dropE_c, inL_n, dropE_n, Nat.reduceAdd, St.F, ↓eget_h, eget_c, isSh, ↓reduceIte, Option.map, ash, Int.natCast_nonneg, Int.toNat_natCast, e1, a1, Bool.false_eq_true, abin, a2, beq_self_eq_true, cond_true, inL_c])))
  all_goals (refine end_to [] [] (by first | exact .inl rfl | exact .inr rfl) rfl (by kernel_rfl) (by kernel_rfl) (by kernel_rfl) ?_ ?_ <;> repeat' (first | exact trivial | exact vr_val _))
theorem cnt_at {c : Cas} {tick : Int} {i : Nat} (h : i < c.pf.length) : cntT c tick i = wI tick (pfAt c i).1 (pfAt c i).2 := by unfold cntT wI; rw [decide_eq_true h, Bool.true_and]
/-- the proofs that count, as a number -/
def cntN (c : Cas) (tick : Int) : Nat := bitsN (cntT c tick) c.pf.length
theorem cntN_test (c : Cas) (tick : Int) (j : Nat) : (cntN c tick).testBit j = cntT c tick j := by
  unfold cntN
  rw [bitsN_test]
  cases h : decide (j < c.pf.length) with
  | true => rfl
  | false => unfold cntT; rw [h]; rfl
set_option maxRecDepth 100000 in
set_option maxHeartbeats 2000000 in
theorem counting_ac (c : Cas) (h12 : c.pf.length ≤ 12) (tick : Int) : AC Try.prog 84 [casD c, dI tick] [] [] (dI ((cntN c tick : Nat) : Int)) := by
  refine krecord_counting.ac (n0 := 0) (by simp) ⟨in_cas _ _, .val _, trivial⟩ trivial rfl ?_
  unfold crecord_counting casD
  (have hg : (987654321 : Nat) - 987654321 = 0 := rfl; have hr := hg; repeat' (first | refine aw_seq ?_ | (refine aw_skip ?_; try simp only [thenQ, blockQ, if_true, if_false, Nat.reduceEqDiff, reduceCtorEq]) | (refine aw_exit ?_; try simp only [thenQ, blockQ, if_true, if_false, Nat.reduceEqDiff, reduceCtorEq]) | refine aw_ret ?_ | refine aw_block ?_ | refine aw_condT rfl ?_ | refine aw_condF rfl ?_ | ((first | refine aw_region ?_ | refine ago_if (by omega) ?_ | skip); simp (config := {maxSteps := 10000000}) (disch := first | exact okYes (by kernel_rfl) | omega) only [thenQ, List.map, dI, List.length, Nat.zero_add, Nat.reduceAdd, Nat.reduceMul, envOf, ARun_none, AOpRun, aexec, D.isBot, FSt.ev, St.F, ↓eget_h, Bool.false_eq_true, Option.isSome, hget_n, or_self, ↓reduceIte, D.cells, AGo_ok, St.app, putO, eput_c, Nat.reduceBEq, eput_n, cond_false, hups, hput_n, ARun_nil, dropE_c, inL_n, dropE_n, eget_c, Option.map, run1, hget_c, beq_self_eq_true, cond_true, List.getElem?_cons_succ, List.getElem?_cons_zero, sps_len, inL_c])))
  refine aw_loop (fun k : Nat => ⟨[(1, dI tick), (2, .ptr 0 0), (4, dI ((bitsN (cntT c tick) k : Nat) : Int)), (8, .list (sps c.pf)), (9, dI c.pf.length), (10, dI k)], [(0, [.list (cls c.cl), .list (sps c.pf)])], 400⟩) (fun k => k ≤ c.pf.length) (fun k => c.pf.length - k) ⟨0, by omega, ?_⟩ ?_
  · refine wk_to [] [(0, 0)] (by kernel_rfl) (by kernel_rfl) (by kernel_rfl) (by kernel_rfl) (by kernel_rfl) ?_ ?_ <;> repeat' (first | exact trivial | exact vr_val _ | exact vr_list _ | exact vr_ptr _ _ _ rfl | refine And.intro ⟨_, rfl, .inl ⟨_, rfl, by decide, ?_⟩⟩ ?_ | apply And.intro)
  intro k hk
  by_cases hk2 : k < c.pf.length
  case neg =>
    obtain rfl : k = c.pf.length := by omega
    show AWb _ _ _ _ _ _ _
    unfold cntN
    (have hg : (987654321 : Nat) - 987654321 = 0 := rfl; have hr := hg; repeat' (first | refine aw_seq ?_ | (refine aw_skip ?_; try simp only [thenQ, blockQ, if_true, if_false, Nat.reduceEqDiff, reduceCtorEq]) | (refine aw_exit ?_; try simp only [thenQ, blockQ, if_true, if_false, Nat.reduceEqDiff, reduceCtorEq]) | refine aw_ret ?_ | refine aw_block ?_ | refine aw_condT rfl ?_ | refine aw_condF rfl ?_ | (refine aw_cond rfl (fun hg => ?_) (fun hg => ?_) <;> (try (have hq := hg; simp only [Bool.not_eq_true', Bool.not_eq_false', Bool.and_eq_true, Bool.and_eq_false_iff, Bool.or_eq_true, Bool.or_eq_false_iff, decide_eq_true_eq, decide_eq_false_iff_not, bne_iff_ne, beq_iff_eq, beq_eq_false_iff_ne, bne_eq_false_iff_eq, ne_eq, Int.not_lt, Int.not_le, Decidable.not_not] at hq)) <;> (try (have hr := hg; simp only [decide_eq_true_eq, decide_eq_false_iff_not] at hr)) <;> (try (exfalso; omega))) | ((first | refine aw_region ?_ | refine ago_if (by omega) ?_ | skip); simp (config := {maxSteps := 10000000}) (disch := first | exact okYes (by kernel_rfl) | omega) only [thenQ, dI, List.length, Nat.zero_add, Nat.reduceMul, Nat.reduceAdd, ARun_none, AOpRun, aexec, FSt.ev, St.F, eget_c, Nat.reduceBEq, ↓eget_h, cond_false, isSh, Bool.false_eq_true, ↓reduceIte, Option.map, abin, AGo_ok, St.app, putO, eput_c, eput_n, hups, List.map, ARun_nil, dropE_c, inL_n, dropE_n, hr, decide_false, beq_self_eq_true, cond_true, inL_c])))
    all_goals (refine end_to [] [] (by first | exact .inl rfl | exact .inr rfl) rfl (by kernel_rfl) (by kernel_rfl) (by kernel_rfl) ?_ ?_ <;> repeat' (first | exact trivial | exact vr_val _))
  have g1 : (sps c.pf)[k]? = some [dI (pfAt c k).1, dI (pfAt c k).2] := sp_at c.pf k hk2
  have w := within_ac tick (pfAt c k).1 (pfAt c k).2
  have hs := bits_small (cntT c tick) h12 hk
  have hc := cnt_at (tick := tick) hk2
  have hb : bitsN (cntT c tick) (k + 1) = if cntT c tick k = true then bitsN (cntT c tick) k ||| 2 ^ k else bitsN (cntT c tick) k := rfl
  have cw := pwith_ac (bitsN (cntT c tick) k) k hs (by omega)
  cases h : cntT c tick k with
  | true =>
    rw [h, if_pos rfl] at hb
    rw [← hc, h] at w
    (have hg : (987654321 : Nat) - 987654321 = 0 := rfl; have hr := hg; repeat' (first | refine aw_seq ?_ | (refine aw_skip ?_; try simp only [thenQ, blockQ, if_true, if_false, Nat.reduceEqDiff, reduceCtorEq]) | (refine aw_exit ?_; try simp only [thenQ, blockQ, if_true, if_false, Nat.reduceEqDiff, reduceCtorEq]) | refine aw_ret ?_ | refine aw_block ?_ | refine aw_condT rfl ?_ | refine aw_condF rfl ?_ | (refine aw_cond rfl (fun hg => ?_) (fun hg => ?_) <;> (try (have hq := hg; simp only [Bool.not_eq_true', Bool.not_eq_false', Bool.and_eq_true, Bool.and_eq_false_iff, Bool.or_eq_true, Bool.or_eq_false_iff, decide_eq_true_eq, decide_eq_false_iff_not, bne_iff_ne, beq_iff_eq, beq_eq_false_iff_ne, bne_eq_false_iff_eq, ne_eq, Int.not_lt, Int.not_le, Decidable.not_not] at hq)) <;> (try (have hr := hg; simp only [decide_eq_true_eq, decide_eq_false_iff_not] at hr)) <;> (try (exfalso; omega))) | ((first | refine aw_region ?_ | refine acall0 (w) ?_ | refine acall0 (cw) ?_ | refine ago_if (by omega) ?_ | skip); simp (config := {maxSteps := 10000000}) (disch := first | exact okYes (by kernel_rfl) | omega) only [thenQ, dI, List.length, Nat.zero_add, Nat.reduceMul, Nat.reduceAdd, ARun_none, AOpRun, aexec, FSt.ev, St.F, eget_c, Nat.reduceBEq, ↓eget_h, cond_false, isSh, Bool.false_eq_true, ↓reduceIte, Option.map, abin, AGo_ok, St.app, putO, eput_c, eput_n, hups, List.map, ARun_nil, dropE_c, inL_n, dropE_n, hr, decide_true, Int.natCast_nonneg, sps_all, and_self, opt1, Int.toNat_natCast, g1, Nat.reduceLeDiff, List.take, Option.isSome, hget_c, hget_n, hput_c, hput_n, ↓hget_h, D.isBot, D.cells, List.all, D.leaf, Bool.and_true, splice, List.nil_append, List.drop, List.append_nil, beq_self_eq_true, cond_true, inL_c, run1, List.getElem?_cons_zero, List.getElem?_cons_succ, dB, blockQ, fits])))
    refine ⟨k + 1, by omega, by omega, ?_⟩
    rw [hb]
    refine wk_to [] [(0, 0)] (by kernel_rfl) (by kernel_rfl) (by kernel_rfl) (by kernel_rfl) (by kernel_rfl) ?_ ?_ <;> repeat' (first | exact trivial | exact vr_val _ | exact vr_list _ | exact vr_ptr _ _ _ rfl | refine And.intro ⟨_, rfl, .inl ⟨_, rfl, by decide, ?_⟩⟩ ?_ | apply And.intro)
  | false =>
    rw [h, if_neg (by simp)] at hb
    rw [← hc, h] at w
    (have hg : (987654321 : Nat) - 987654321 = 0 := rfl; have hr := hg; repeat' (first | refine aw_seq ?_ | (refine aw_skip ?_; try simp only [thenQ, blockQ, if_true, if_false, Nat.reduceEqDiff, reduceCtorEq]) | (refine aw_exit ?_; try simp only [thenQ, blockQ, if_true, if_false, Nat.reduceEqDiff, reduceCtorEq]) | refine aw_ret ?_ | refine aw_block ?_ | refine aw_condT rfl ?_ | refine aw_condF rfl ?_ | (refine aw_cond rfl (fun hg => ?_) (fun hg => ?_) <;> (try (have hq := hg; simp only [Bool.not_eq_true', Bool.not_eq_false', Bool.and_eq_true, Bool.and_eq_false_iff, Bool.or_eq_true, Bool.or_eq_false_iff, decide_eq_true_eq, decide_eq_false_iff_not, bne_iff_ne, beq_iff_eq, beq_eq_false_iff_ne, bne_eq_false_iff_eq, ne_eq, Int.not_lt, Int.not_le, Decidable.not_not] at hq)) <;> (try (have hr := hg; simp only [decide_eq_true_eq, decide_eq_false_iff_not] at hr)) <;> (try (exfalso; omega))) | ((first | refine aw_region ?_ | refine acall0 (w) ?_ | refine ago_if (by omega) ?_ | skip); simp (config := {maxSteps := 10000000}) (disch := first | exact okYes (by kernel_rfl) | omega) only [thenQ, dI, List.length, Nat.zero_add, Nat.reduceMul, Nat.reduceAdd, ARun_none, AOpRun, aexec, FSt.ev, St.F, eget_c, Nat.reduceBEq, ↓eget_h, cond_false, isSh, Bool.false_eq_true, ↓reduceIte, Option.map, abin, AGo_ok, St.app, putO, eput_c, eput_n, hups, List.map, ARun_nil, dropE_c, inL_n, dropE_n, hr, decide_true, Int.natCast_nonneg, sps_all, and_self, opt1, Int.toNat_natCast, g1, Nat.reduceLeDiff, List.take, Option.isSome, hget_c, hget_n, hput_c, hput_n, ↓hget_h, D.isBot, D.cells, List.all, D.leaf, Bool.and_true, splice, List.nil_append, List.drop, List.append_nil, beq_self_eq_true, cond_true, inL_c, run1, List.getElem?_cons_zero, List.getElem?_cons_succ, dB, fits])))
    refine ⟨k + 1, by omega, by omega, ?_⟩
    rw [hb]
    refine wk_to [] [(0, 0)] (by kernel_rfl) (by kernel_rfl) (by kernel_rfl) (by kernel_rfl) (by kernel_rfl) ?_ ?_ <;> repeat' (first | exact trivial | exact vr_val _ | exact vr_list _ | exact vr_ptr _ _ _ rfl | refine And.intro ⟨_, rfl, .inl ⟨_, rfl, by decide, ?_⟩⟩ ?_ | apply And.intro)
end Go.Proofs.Ytdcodicoclecnaa
/- record: choosing truth values. No conditions. -/
set_option linter.unusedSimpArgs false
set_option linter.unusedVariables false
namespace Go.Proofs.Ytdcodicoclecnaa
open Go Go.RowKit Lift

set_option maxRecDepth 100000 in
set_option maxHeartbeats 1000000 in
theorem ibool_ac (l : List Bool) (b : Bool) (hl : l.length ≤ 1000000) : AC Try.prog 149 [.list (bools l), dB b] [] [] (dI (match l.findIdx? (fun x => x == b) with
    | some k => (k : Int)
    | none => -1)) := by
  refine kslices_Index_L_L_Jbool_Kbool_J.ac (n0 := 0) (by simp) ⟨.list _, .val _, trivial⟩ trivial rfl ?_
  unfold cslices_Index_L_L_Jbool_Kbool_J
  (have hg : (987654321 : Nat) - 987654321 = 0 := rfl; have hr := hg; repeat' (first | refine aw_seq ?_ | (refine aw_skip ?_; try simp only [thenQ, blockQ, if_true, if_false, Nat.reduceEqDiff, reduceCtorEq]) | (refine aw_exit ?_; try simp only [thenQ, blockQ, if_true, if_false, Nat.reduceEqDiff, reduceCtorEq]) | refine aw_ret ?_ | refine aw_block ?_ | refine aw_condT rfl ?_ | refine aw_condF rfl ?_ | ((first | refine aw_region ?_ | refine ago_if (by omega) ?_ | skip); simp (config := {maxSteps := 10000000}) (disch := first | exact okYes (by kernel_rfl) | omega) only [thenQ, List.map, Int.reduceNeg, dI, List.length, Nat.zero_add, Nat.reduceMul, envOf, dB, ARun_none, AOpRun, aexec, FSt.ev, AGo_ok, St.app, putO, eput_c, Nat.reduceBEq, eput_n, cond_false, hups, ARun_nil, dropE_c, inL_n, dropE_n, Nat.reduceAdd, St.F, ↓eget_h, eget_c, bools_len, inL_c, beq_self_eq_true, cond_true])))
  refine aw_loop (fun k : Nat => ⟨[(0, .list (bools l)), (1, dB b), (7, dI l.length), (8, dI k)], [], 400⟩) (fun k => k ≤ l.length ∧ ∀ j, j < k → (l[j]?.getD false == b) = false) (fun k => l.length - k) ⟨0, ⟨by omega, fun j hj => by omega⟩, ?_⟩ ?_
  · refine wk_to [] [] (by kernel_rfl) (by kernel_rfl) (by kernel_rfl) (by kernel_rfl) (by kernel_rfl) ?_ ?_ <;> repeat' (first | exact trivial | exact vr_val _ | exact vr_list _ | apply And.intro)
  rintro k ⟨hk, hin⟩
  by_cases hk2 : k < l.length
  · have g1 := bools_gd l k hk2
    unfold dB at g1
    cases he : (l[k]?.getD false == b) with
    | true =>
      have q : l.findIdx? (fun x => x == b) = some k := by
        rw [List.findIdx?_eq_some_iff_getElem]
        refine ⟨hk2, by have := he; simp only [hk2, List.getElem?_eq_getElem, Option.getD_some] at this; exact this, fun j hj => ?_⟩
        have := hin j hj
        simp only [show j < l.length by omega, List.getElem?_eq_getElem, Option.getD_some] at this
        simp [this]
      have he2 : (b == l[k]?.getD false) = true := by rw [beq_iff_eq] at he ⊢; exact he.symm
      rw [q]
      generalize l[k]?.getD false = v at *
      (have hg : (987654321 : Nat) - 987654321 = 0 := rfl; have hr := hg; repeat' (first | refine aw_seq ?_ | (refine aw_skip ?_; try simp only [thenQ, blockQ, if_true, if_false, Nat.reduceEqDiff, reduceCtorEq]) | (refine aw_exit ?_; try simp only [thenQ, blockQ, if_true, if_false, Nat.reduceEqDiff, reduceCtorEq]) | refine aw_ret ?_ | refine aw_block ?_ | refine aw_condT rfl ?_ | refine aw_condF rfl ?_ | (refine aw_cond rfl (fun hg => ?_) (fun hg => ?_) <;> (try (have hq := hg; simp only [Bool.not_eq_true', Bool.not_eq_false', Bool.and_eq_true, Bool.and_eq_false_iff, Bool.or_eq_true, Bool.or_eq_false_iff, decide_eq_true_eq, decide_eq_false_iff_not, bne_iff_ne, beq_iff_eq, beq_eq_false_iff_ne, bne_eq_false_iff_eq, ne_eq, Int.not_lt, Int.not_le, Decidable.not_not] at hq)) <;> (try (have hr := hg; simp only [decide_eq_true_eq, decide_eq_false_iff_not] at hr)) <;> (try (exfalso; omega))) | ((first | refine aw_region ?_ | refine ago_if (by omega) ?_ | skip); simp (config := {maxSteps := 10000000}) (disch := first | exact okYes (by kernel_rfl) | omega) only [thenQ, dB, dI, Int.reduceNeg, List.length, Nat.zero_add, Nat.reduceMul, Nat.reduceAdd, ARun_none, AOpRun, aexec, FSt.ev, St.F, eget_c, Nat.reduceBEq, ↓eget_h, cond_false, isSh, Bool.false_eq_true, ↓reduceIte, Option.map, abin, AGo_ok, St.app, putO, eput_c, eput_n, hups, List.map, ARun_nil, dropE_c, inL_n, dropE_n, hr, decide_true, inL_c, beq_self_eq_true, cond_true, Int.natCast_nonneg, bools_all, and_self, opt1, Int.toNat_natCast, g1, run1, List.getElem?_cons_zero, he2, blockQ])))
      all_goals (refine end_to [] [] (by first | exact .inl rfl | exact .inr rfl) rfl (by kernel_rfl) (by kernel_rfl) (by kernel_rfl) ?_ ?_ <;> repeat' (first | exact trivial | exact vr_val _))
    | false =>
      have he2 : (b == l[k]?.getD false) = false := by rw [beq_eq_false_iff_ne] at he ⊢; exact fun h => he h.symm
      generalize hv : l[k]?.getD false = v at *
      (have hg : (987654321 : Nat) - 987654321 = 0 := rfl; have hr := hg; repeat' (first | refine aw_seq ?_ | (refine aw_skip ?_; try simp only [thenQ, blockQ, if_true, if_false, Nat.reduceEqDiff, reduceCtorEq]) | (refine aw_exit ?_; try simp only [thenQ, blockQ, if_true, if_false, Nat.reduceEqDiff, reduceCtorEq]) | refine aw_ret ?_ | refine aw_block ?_ | refine aw_condT rfl ?_ | refine aw_condF rfl ?_ | (refine aw_cond rfl (fun hg => ?_) (fun hg => ?_) <;> (try (have hq := hg; simp only [Bool.not_eq_true', Bool.not_eq_false', Bool.and_eq_true, Bool.and_eq_false_iff, Bool.or_eq_true, Bool.or_eq_false_iff, decide_eq_true_eq, decide_eq_false_iff_not, bne_iff_ne, beq_iff_eq, beq_eq_false_iff_ne, bne_eq_false_iff_eq, ne_eq, Int.not_lt, Int.not_le, Decidable.not_not] at hq)) <;> (try (have hr := hg; simp only [decide_eq_true_eq, decide_eq_false_iff_not] at hr)) <;> (try (exfalso; omega))) | ((first | refine aw_region ?_ | refine ago_if (by omega) ?_ | skip); simp (config := {maxSteps := 10000000}) (disch := first | exact okYes (by kernel_rfl) | omega) only [thenQ, dB, dI, Int.reduceNeg, List.length, Nat.zero_add, Nat.reduceMul, Nat.reduceAdd, ARun_none, AOpRun, aexec, FSt.ev, St.F, eget_c, Nat.reduceBEq, ↓eget_h, cond_false, isSh, Bool.false_eq_true, ↓reduceIte, Option.map, abin, AGo_ok, St.app, putO, eput_c, eput_n, hups, List.map, ARun_nil, dropE_c, inL_n, dropE_n, hr, decide_true, inL_c, beq_self_eq_true, cond_true, Int.natCast_nonneg, bools_all, and_self, opt1, Int.toNat_natCast, g1, run1, List.getElem?_cons_zero, he2, bne_self_eq_false, fits])))
      refine ⟨k + 1, ⟨by omega, fun j hj => ?_⟩, by omega, by refine wk_to [] [] (by kernel_rfl) (by kernel_rfl) (by kernel_rfl) (by kernel_rfl) (by kernel_rfl) ?_ ?_ <;> repeat' (first | exact trivial | exact vr_val _ | exact vr_list _ | apply And.intro)⟩
      rcases (by omega : j < k ∨ j = k) with h | rfl
      · exact hin j h
      · rw [hv]; exact he
  · obtain rfl : k = l.length := by omega
    have q : l.findIdx? (fun x => x == b) = none := by
      rw [List.findIdx?_eq_none_iff]
      intro y hy
      obtain ⟨j, hj, rfl⟩ := List.getElem_of_mem hy
      have := hin j hj
      simp only [hj, List.getElem?_eq_getElem, Option.getD_some] at this
      exact this
    rw [q]
    (have hg : (987654321 : Nat) - 987654321 = 0 := rfl; have hr := hg; repeat' (first | refine aw_seq ?_ | (refine aw_skip ?_; try simp only [thenQ, blockQ, if_true, if_false, Nat.reduceEqDiff, reduceCtorEq]) | (refine aw_exit ?_; try simp only [thenQ, blockQ, if_true, if_false, Nat.reduceEqDiff, reduceCtorEq]) | refine aw_ret ?_ | refine aw_block ?_ | refine aw_condT rfl ?_ | refine aw_condF rfl ?_ | (refine aw_cond rfl (fun hg => ?_) (fun hg => ?_) <;> (try (have hq := hg; simp only [Bool.not_eq_true', Bool.not_eq_false', Bool.and_eq_true, Bool.and_eq_false_iff, Bool.or_eq_true, Bool.or_eq_false_iff, decide_eq_true_eq, decide_eq_false_iff_not, bne_iff_ne, beq_iff_eq, beq_eq_false_iff_ne, bne_eq_false_iff_eq, ne_eq, Int.not_lt, Int.not_le, Decidable.not_not] at hq)) <;> (try (have hr := hg; simp only [decide_eq_true_eq, decide_eq_false_iff_not] at hr)) <;> (try (exfalso; omega))) | ((first | refine aw_region ?_ | refine ago_if (by omega) ?_ | skip); simp (config := {maxSteps := 10000000}) (disch := first | exact okYes (by kernel_rfl) | omega) only [thenQ, dB, dI, Int.reduceNeg, List.length, Nat.zero_add, Nat.reduceMul, Nat.reduceAdd, ARun_none, AOpRun, aexec, FSt.ev, St.F, eget_c, Nat.reduceBEq, ↓eget_h, cond_false, isSh, Bool.false_eq_true, ↓reduceIte, Option.map, abin, AGo_ok, St.app, putO, eput_c, eput_n, hups, List.map, ARun_nil, dropE_c, inL_n, dropE_n, hr, decide_false])))
    all_goals (refine end_to [] [] (by first | exact .inl rfl | exact .inr rfl) rfl (by kernel_rfl) (by kernel_rfl) (by kernel_rfl) ?_ ?_ <;> repeat' (first | exact trivial | exact vr_val _))
set_option maxRecDepth 100000 in
set_option maxHeartbeats 1000000 in
theorem cbool_ac (l : List Bool) (b : Bool) (hl : l.length ≤ 1000000) : AC Try.prog 121 [.list (bools l), dB b] [] [] (dB (l.any fun x => x == b)) := by
  refine kslices_Contains_L_L_Jbool_Kbool_J.ac (n0 := 0) (by simp) ⟨.list _, .val _, trivial⟩ trivial rfl ?_
  unfold cslices_Contains_L_L_Jbool_Kbool_J
  have hf := ibool_ac l b hl
  cases h : l.findIdx? (fun x => x == b) with
  | none =>
    have ha : l.any (fun x => x == b) = false := by
      rw [List.findIdx?_eq_none_iff] at h
      exact List.any_eq_false.2 fun x hx => by simp [h x hx]
    rw [h] at hf
    rw [ha]
    (have hg : (987654321 : Nat) - 987654321 = 0 := rfl; have hr := hg; repeat' (first | refine aw_seq ?_ | (refine aw_skip ?_; try simp only [thenQ, blockQ, if_true, if_false, Nat.reduceEqDiff, reduceCtorEq]) | (refine aw_exit ?_; try simp only [thenQ, blockQ, if_true, if_false, Nat.reduceEqDiff, reduceCtorEq]) | refine aw_ret ?_ | refine aw_block ?_ | refine aw_condT rfl ?_ | refine aw_condF rfl ?_ | ((first | refine aw_region ?_ | refine acall0 (hf) ?_ | refine ago_if (by omega) ?_ | skip); simp (config := {maxSteps := 10000000}) (disch := first | exact okYes (by kernel_rfl) | omega) only [thenQ, List.map, dB, List.length, Nat.zero_add, Nat.reduceMul, envOf, ARun_none, AOpRun, aexec, FSt.ev, AGo_ok, St.app, putO, eput_c, Nat.reduceBEq, eput_n, cond_false, hups, ARun_nil, dropE_c, inL_n, dropE_n, Nat.reduceAdd, St.F, ↓eget_h, eget_c, dI, Int.reduceNeg, isSh, Bool.false_eq_true, ↓reduceIte, Option.map, abin, beq_self_eq_true, cond_true, inL_c])))
    all_goals (refine end_to [] [] (by first | exact .inl rfl | exact .inr rfl) rfl (by kernel_rfl) (by kernel_rfl) (by kernel_rfl) ?_ ?_ <;> repeat' (first | exact trivial | exact vr_val _))
  | some k =>
    have ha : l.any (fun x => x == b) = true := by
      rw [List.findIdx?_eq_some_iff_getElem] at h
      obtain ⟨hk, he, _⟩ := h
      exact List.any_eq_true.2 ⟨l[k], List.getElem_mem hk, he⟩
    rw [h] at hf
    rw [ha]
    have q : decide ((k : Int) ≥ 0) = true := decide_eq_true (by omega)
    (have hg : (987654321 : Nat) - 987654321 = 0 := rfl; have hr := hg; repeat' (first | refine aw_seq ?_ | (refine aw_skip ?_; try simp only [thenQ, blockQ, if_true, if_false, Nat.reduceEqDiff, reduceCtorEq]) | (refine aw_exit ?_; try simp only [thenQ, blockQ, if_true, if_false, Nat.reduceEqDiff, reduceCtorEq]) | refine aw_ret ?_ | refine aw_block ?_ | refine aw_condT rfl ?_ | refine aw_condF rfl ?_ | ((first | refine aw_region ?_ | refine acall0 (hf) ?_ | refine ago_if (by omega) ?_ | skip); simp (config := {maxSteps := 10000000}) (disch := first | exact okYes (by kernel_rfl) | omega) only [thenQ, List.map, dB, List.length, Nat.zero_add, Nat.reduceMul, envOf, ARun_none, AOpRun, aexec, FSt.ev, AGo_ok, St.app, putO, eput_c, Nat.reduceBEq, eput_n, cond_false, hups, ARun_nil, dropE_c, inL_n, dropE_n, Nat.reduceAdd, St.F, ↓eget_h, eget_c, dI, isSh, Bool.false_eq_true, ↓reduceIte, Option.map, abin, Int.natCast_nonneg, decide_true, beq_self_eq_true, cond_true, inL_c])))
    all_goals (refine end_to [] [] (by first | exact .inl rfl | exact .inr rfl) rfl (by kernel_rfl) (by kernel_rfl) (by kernel_rfl) ?_ ?_ <;> repeat' (first | exact trivial | exact vr_val _))
set_option maxRecDepth 100000 in
set_option maxHeartbeats 1000000 in
theorem holds1_ac (hd : List Bool) (hne : (bcl hd).isEmpty = false) (n : Int) (h0 : 0 ≤ n) (h1 : n.toNat < hd.length) : AC Try.prog 120 [dI n, .ptr 16 0] [(16, [.vec 24 hd.length 1]), (24, bcl hd)] [(16, some [.vec 24 hd.length 1]), (24, some (bcl hd))] (dB (hd[n.toNat]?.getD false)) := by
  refine krecord_holds_S1.ac (n0 := 400) (by simp) ⟨.val _, .ptr _ _ (by omega), trivial⟩ ⟨⟨by omega, by intro d hd; simp at hd; subst hd; exact .vec _ _ _ (by omega)⟩, ⟨by omega, fun d h => (bcl_in hd d h).mono fun _ h => h.elim⟩, trivial⟩ (by simp [okUp, hne]) ?_
  unfold crecord_holds_S1
  have g1 := bc_gd hd n.toNat h1
  have g2 : n < (hd.length : Int) := by omega
  have g3 := bcl_len hd
  (have hg : (987654321 : Nat) - 987654321 = 0 := rfl; have hr := hg; repeat' (first | refine aw_seq ?_ | (refine aw_skip ?_; try simp only [thenQ, blockQ, if_true, if_false, Nat.reduceEqDiff, reduceCtorEq]) | (refine aw_exit ?_; try simp only [thenQ, blockQ, if_true, if_false, Nat.reduceEqDiff, reduceCtorEq]) | refine aw_ret ?_ | refine aw_block ?_ | refine aw_condT rfl ?_ | refine aw_condF rfl ?_ | ((first | refine aw_region ?_ | refine ago_if (by omega) ?_ | skip); simp (config := {maxSteps := 10000000}) (disch := first | exact okYes (by kernel_rfl) | omega) only [thenQ, List.map, dB, List.length, Nat.zero_add, Nat.mul_one, Nat.reduceAdd, envOf, dI, ARun_none, AOpRun, aexec, FSt.ev, AGo_ok, St.app, putO, eput_c, Nat.reduceBEq, eput_n, cond_false, hups, ARun_nil, dropE_c, inL_n, dropE_n, Nat.reduceMul, Option.map, run1, St.F, eget_c, ↓eget_h, hget_c, beq_self_eq_true, hget_n, cond_true, Nat.add_zero, List.getElem?_cons_zero, h0, g2, and_self, ↓reduceIte, ↓hget_h, g1, inL_c])))
  all_goals (refine end_to [] [(16, 16), (24, 24)] (by first | exact .inl rfl | exact .inr rfl) rfl (by kernel_rfl) (by kernel_rfl) (by kernel_rfl) ?_ ?_ <;> repeat' (first | exact trivial | exact vr_val _ | exact vr_vec _ _ _ _ rfl | refine And.intro ⟨_, rfl, _, rfl, by decide, ?_⟩ ?_ | apply And.intro))
  all_goals exact vrl_flat _ (bcl_in _)
set_option maxRecDepth 100000 in
set_option maxHeartbeats 2000000 in
theorem pick1_ac (hd : List Bool) (hne : (bcl hd).isEmpty = false) (l : List Int) (hl : l.length ≤ 1000000) (hn : ∀ k, k < l.length → 0 ≤ l[k]?.getD 0 ∧ (l[k]?.getD 0).toNat < hd.length) : AC Try.prog 119 [.list (ints l), .fn 120 [] [.ptr 16 0]] [(16, [.vec 24 hd.length 1]), (24, bcl hd)] [(16, some [.vec 24 hd.length 1]), (24, some (bcl hd)), (96, some (bcl (l.map fun n => hd[n.toNat]?.getD false)))] (.vec 96 l.length 1) := by
  refine krecord_pick.ac (n0 := 400) (by simp) ⟨.list _, .fn _ _ _ (by simp) (by intro d hd; simp at hd; subst hd; exact .ptr _ _ (by omega)), trivial⟩ ⟨⟨by omega, by intro d hd; simp at hd; subst hd; exact .vec _ _ _ (by omega)⟩, ⟨by omega, fun d h => (bcl_in hd d h).mono fun _ h => h.elim⟩, trivial⟩ (by simp [okUp, hne]) ?_
  unfold crecord_pick
  refine aw_seq (aw_region ?_)
  simp (config := {maxSteps := 10000000}) (disch := first | exact okYes (by kernel_rfl) | omega) only [thenQ, List.map, List.length, Nat.zero_add, Nat.reduceMul, Nat.reduceAdd, envOf, ARun_none, AOpRun, aexec, FSt.ev, AGo_ok, St.app, putO, eput_c, Nat.reduceBEq, eput_n, cond_false, hups, ARun_nil, dropE_c, inL_n, dropE_n]
  refine aw_seq (aw_seq (aw_region ?_))
  simp (config := {maxSteps := 10000000}) (disch := first | exact okYes (by kernel_rfl) | omega) only [thenQ, List.length, Nat.zero_add, Nat.reduceAdd, Nat.reduceMul, ARun_none, AOpRun, aexec, FSt.ev, St.F, ↓eget_h, AGo_ok, St.app, putO, eput_c, Nat.reduceBEq, eput_n, cond_false, hups, List.map, eget_c, ints_len, ARun_nil, dropE_c, inL_n, dropE_n]
  refine aw_block ?_
  refine aw_loop (fun k : Nat => ⟨[(1, .fn 120 [] [.ptr 16 0]), (4, .vec 500 k 1), (7, .list (ints l)), (8, dI l.length), (9, dI k)], [(16, [.vec 24 hd.length 1]), (24, bcl hd), (500, bcl ((l.map (fun n => hd[n.toNat]?.getD false)).take k))], 600⟩) (fun k => k ≤ l.length) (fun k => l.length - k) ⟨0, by omega, ?_⟩ ?_
  · simp only [List.take_zero]
    show Wk _ _ ⟨_, [(16, [.vec 24 hd.length 1]), (24, bcl hd), (500, [])], _⟩
    refine wk_to [] [(16, 16), (24, 24), (500, 900)] (by kernel_rfl) (by kernel_rfl) (by kernel_rfl) (by kernel_rfl) (by kernel_rfl) ?_ ?_ <;> repeat' (first | exact trivial | exact vr_val _ | exact vr_list _ | exact vr_vec _ _ _ _ rfl | exact vr_ptr _ _ _ rfl | exact vr_nilv _ _ _ rfl | apply vr_fn | refine And.intro ⟨_, rfl, .inl ⟨_, rfl, by decide, ?_⟩⟩ ?_ | refine And.intro ⟨_, rfl, .inr ⟨rfl, rfl, of_decide_eq_true (by kernel_rfl)⟩⟩ ?_ | apply And.intro)
    all_goals exact vrl_flat _ (bcl_in _)
  intro k hk
  have hml : (l.map (fun n => hd[n.toNat]?.getD false)).length = l.length := List.length_map ..
  by_cases hk2 : k < l.length
  case neg =>
    obtain rfl : k = l.length := by omega
    have e : (l.map (fun n => hd[n.toNat]?.getD false)).take l.length = l.map (fun n => hd[n.toNat]?.getD false) := List.take_of_length_le (by omega)
    rw [e]
    (have hg : (987654321 : Nat) - 987654321 = 0 := rfl; have hr := hg; repeat' (first | refine aw_seq ?_ | (refine aw_skip ?_; try simp only [thenQ, blockQ, if_true, if_false, Nat.reduceEqDiff, reduceCtorEq]) | (refine aw_exit ?_; try simp only [thenQ, blockQ, if_true, if_false, Nat.reduceEqDiff, reduceCtorEq]) | refine aw_ret ?_ | refine aw_block ?_ | refine aw_condT rfl ?_ | refine aw_condF rfl ?_ | (refine aw_cond rfl (fun hg => ?_) (fun hg => ?_) <;> (try (have hq := hg; simp only [Bool.not_eq_true', Bool.not_eq_false', Bool.and_eq_true, Bool.and_eq_false_iff, Bool.or_eq_true, Bool.or_eq_false_iff, decide_eq_true_eq, decide_eq_false_iff_not, bne_iff_ne, beq_iff_eq, beq_eq_false_iff_ne, bne_eq_false_iff_eq, ne_eq, Int.not_lt, Int.not_le, Decidable.not_not] at hq)) <;> (try (have hr := hg; simp only [decide_eq_true_eq, decide_eq_false_iff_not] at hr)) <;> (try (exfalso; omega))) | ((first | refine aw_region ?_ | refine ago_if (by omega) ?_ | skip); simp (config := {maxSteps := 10000000}) (disch := first | exact okYes (by kernel_rfl) | omega) only [thenQ, dI, List.length, Nat.zero_add, Nat.reduceMul, Nat.reduceAdd, ARun_none, AOpRun, aexec, FSt.ev, St.F, eget_c, Nat.reduceBEq, ↓eget_h, cond_false, isSh, Bool.false_eq_true, ↓reduceIte, Option.map, abin, AGo_ok, St.app, putO, eput_c, eput_n, hups, List.map, ARun_nil, dropE_c, inL_n, dropE_n, hr, decide_false, beq_self_eq_true, cond_true, inL_c])))
    refine end_to [] [(16, 16), (24, 24), (96, 500)] (by first | exact .inl rfl | exact .inr rfl) rfl (by kernel_rfl) (by kernel_rfl) (by kernel_rfl) ?_ ?_ <;> repeat' (first | exact trivial | exact vr_vec _ _ _ _ rfl | refine And.intro ⟨_, rfl, _, rfl, by decide, ?_⟩ ?_ | apply And.intro)
    all_goals exact vrl_flat _ (bcl_in _)
  have g1 := ints_gd l k hk2
  have e : (l.map (fun n => hd[n.toNat]?.getD false)).take (k + 1) = (l.map (fun n => hd[n.toNat]?.getD false)).take k ++ [(fun n => hd[n.toNat]?.getD false) (l[k]?.getD 0)] := by
    rw [List.take_add_one]
    simp [hk2]
  have hca := holds1_ac hd hne (l[k]?.getD 0) (hn k hk2).1 (hn k hk2).2
  have hic : (bcl ((l.map (fun n => hd[n.toNat]?.getD false)).take k)).length = k := by rw [bcl_len, List.length_take]; omega
  have hit : (bcl ((l.map (fun n => hd[n.toNat]?.getD false)).take k)).take k = bcl ((l.map (fun n => hd[n.toNat]?.getD false)).take k) := List.take_of_length_le (by omega)
  have hlf := bcl_leaf ((l.map (fun n => hd[n.toNat]?.getD false)).take k)
  have e2 : bcl ((l.map (fun n => hd[n.toNat]?.getD false)).take (k + 1)) = bcl ((l.map (fun n => hd[n.toNat]?.getD false)).take k) ++ [.val (.bool ((fun n => hd[n.toNat]?.getD false) (l[k]?.getD 0)))] := by rw [e, bc_app]
  have hcin : ∀ y ∈ bcl ((l.map (fun n => hd[n.toNat]?.getD false)).take k) ++ [.val (.bool ((fun n => hd[n.toNat]?.getD false) (l[k]?.getD 0)))], In (fun _ => False) y := by rw [bc_app]; exact bcl_in _
  generalize bcl ((l.map (fun n => hd[n.toNat]?.getD false)).take k) = L at *
  simp only at e2 hcin
  (have hg : (987654321 : Nat) - 987654321 = 0 := rfl; have hr := hg; repeat' (first | refine aw_seq ?_ | (refine aw_skip ?_; try simp only [thenQ, blockQ, if_true, if_false, Nat.reduceEqDiff, reduceCtorEq]) | (refine aw_exit ?_; try simp only [thenQ, blockQ, if_true, if_false, Nat.reduceEqDiff, reduceCtorEq]) | refine aw_ret ?_ | refine aw_block ?_ | refine aw_condT rfl ?_ | refine aw_condF rfl ?_ | (refine aw_cond rfl (fun hg => ?_) (fun hg => ?_) <;> (try (have hq := hg; simp only [Bool.not_eq_true', Bool.not_eq_false', Bool.and_eq_true, Bool.and_eq_false_iff, Bool.or_eq_true, Bool.or_eq_false_iff, decide_eq_true_eq, decide_eq_false_iff_not, bne_iff_ne, beq_iff_eq, beq_eq_false_iff_ne, bne_eq_false_iff_eq, ne_eq, Int.not_lt, Int.not_le, Decidable.not_not] at hq)) <;> (try (have hr := hg; simp only [decide_eq_true_eq, decide_eq_false_iff_not] at hr)) <;> (try (exfalso; omega))) | ((first | refine aw_region ?_ | refine acallB (hca) (by repeat' (first | exact trivial | exact rfl | refine And.intro ?_ ?_)) (by kernel_rfl) (by kernel_rfl) (by kernel_rfl) ?_ | refine ago_if (by omega) ?_ | skip); simp (config := {maxSteps := 10000000}) (disch := first | exact okYes (by kernel_rfl) | omega) only [thenQ, dI, List.length, Nat.zero_add, Nat.mul_one, Nat.reduceAdd, ARun_none, AOpRun, aexec, FSt.ev, St.F, eget_c, Nat.reduceBEq, ↓eget_h, cond_false, isSh, Bool.false_eq_true, ↓reduceIte, Option.map, abin, AGo_ok, St.app, putO, eput_c, eput_n, hups, List.map, ARun_nil, dropE_c, inL_n, dropE_n, Nat.reduceMul, hr, decide_true, Int.natCast_nonneg, ints_all, and_self, opt1, Int.toNat_natCast, g1, run1, List.getElem?_cons_zero, inL_c, beq_self_eq_true, cond_true, blockQ, dB, hput_c, hput_n, List.append_nil, Option.isSome, hget_c, hget_n, fillD, D.isBot, D.cells, ne_eq, not_true_eq_false, Nat.reduceGT, or_self, splice, List.take, List.nil_append, List.drop, base, ↓hget_h, hic, Nat.le_refl, hit, elems, List.all, D.leaf, Bool.and_true, and_true, ups, List.cons_append, hdel_c, hdel_n, fits])))
  refine ⟨k + 1, by omega, by omega, ?_⟩
  rw [e2]
  refine wk_to [] [(16, 16), (24, 24), (500, 672)] (by kernel_rfl) (by kernel_rfl) (by kernel_rfl) (by kernel_rfl) (by kernel_rfl) ?_ ?_ <;> repeat' (first | exact trivial | exact vr_val _ | exact vr_list _ | exact vr_vec _ _ _ _ rfl | exact vr_ptr _ _ _ rfl | apply vr_fn | refine And.intro ⟨_, rfl, .inl ⟨_, rfl, by decide, ?_⟩⟩ ?_ | apply And.intro | exact vrl_flat _ (by first | exact icells_in _ | exact rcells_in _ | exact scells_in _ | exact bcells_in _ | assumption) | fail)
  all_goals first | exact vrl_flat _ (bcl_in _) | assumption
set_option maxRecDepth 100000 in
set_option maxHeartbeats 2000000 in
theorem pick2_ac (p : Nat) (hp : p < 4096) (l : List Int) (hl : l.length ≤ 1000000) (hn : ∀ k, k < l.length → 0 ≤ l[k]?.getD 0 ∧ (l[k]?.getD 0) < 12) : AC Try.prog 119 [.list (ints l), .fn 89 [dI p] []] [] [(136, some (bcl (l.map fun n => p.testBit n.toNat)))] (.vec 136 l.length 1) := by
  refine krecord_pick.ac (n0 := 400) (by simp) ⟨.list _, .fn _ _ _ (by intro d hd; simp at hd; subst hd; exact .val _) (by simp), trivial⟩ trivial rfl ?_
  unfold crecord_pick
  refine aw_seq (aw_region ?_)
  simp (config := {maxSteps := 10000000}) (disch := first | exact okYes (by kernel_rfl) | omega) only [thenQ, List.map, List.length, Nat.zero_add, Nat.reduceMul, Nat.reduceAdd, envOf, dI, ARun_none, AOpRun, aexec, FSt.ev, AGo_ok, St.app, putO, eput_c, Nat.reduceBEq, eput_n, cond_false, hups, ARun_nil, dropE_c, inL_n, dropE_n]
  refine aw_seq (aw_seq (aw_region ?_))
  simp (config := {maxSteps := 10000000}) (disch := first | exact okYes (by kernel_rfl) | omega) only [thenQ, List.length, Nat.zero_add, Nat.reduceAdd, Nat.reduceMul, ARun_none, AOpRun, aexec, FSt.ev, St.F, ↓eget_h, AGo_ok, St.app, putO, eput_c, Nat.reduceBEq, eput_n, cond_false, hups, List.map, eget_c, ints_len, ARun_nil, dropE_c, inL_n, dropE_n]
  refine aw_block ?_
  refine aw_loop (fun k : Nat => ⟨[(1, .fn 89 [dI p] []), (4, .vec 500 k 1), (7, .list (ints l)), (8, dI l.length), (9, dI k)], [(500, bcl ((l.map (fun n => p.testBit n.toNat)).take k))], 600⟩) (fun k => k ≤ l.length) (fun k => l.length - k) ⟨0, by omega, ?_⟩ ?_
  · simp only [List.take_zero]
    show Wk _ _ ⟨_, [(500, [])], _⟩
    refine wk_to [] [(500, 900)] (by kernel_rfl) (by kernel_rfl) (by kernel_rfl) (by kernel_rfl) (by kernel_rfl) ?_ ?_ <;> repeat' (first | exact trivial | exact vr_val _ | exact vr_list _ | exact vr_nilv _ _ _ rfl | apply vr_fn | refine And.intro ⟨_, rfl, .inr ⟨rfl, rfl, of_decide_eq_true (by kernel_rfl)⟩⟩ ?_ | apply And.intro)
    all_goals exact vrl_flat _ (bcl_in _)
  intro k hk
  have hml : (l.map (fun n => p.testBit n.toNat)).length = l.length := List.length_map ..
  by_cases hk2 : k < l.length
  case neg =>
    obtain rfl : k = l.length := by omega
    have e : (l.map (fun n => p.testBit n.toNat)).take l.length = l.map (fun n => p.testBit n.toNat) := List.take_of_length_le (by omega)
    rw [e]
    (have hg : (987654321 : Nat) - 987654321 = 0 := rfl; have hr := hg; repeat' (first | refine aw_seq ?_ | (refine aw_skip ?_; try simp only [thenQ, blockQ, if_true, if_false, Nat.reduceEqDiff, reduceCtorEq]) | (refine aw_exit ?_; try simp only [thenQ, blockQ, if_true, if_false, Nat.reduceEqDiff, reduceCtorEq]) | refine aw_ret ?_ | refine aw_block ?_ | refine aw_condT rfl ?_ | refine aw_condF rfl ?_ | (refine aw_cond rfl (fun hg => ?_) (fun hg => ?_) <;> (try (have hq := hg; simp only [Bool.not_eq_true', Bool.not_eq_false', Bool.and_eq_true, Bool.and_eq_false_iff, Bool.or_eq_true, Bool.or_eq_false_iff, decide_eq_true_eq, decide_eq_false_iff_not, bne_iff_ne, beq_iff_eq, beq_eq_false_iff_ne, bne_eq_false_iff_eq, ne_eq, Int.not_lt, Int.not_le, Decidable.not_not] at hq)) <;> (try (have hr := hg; simp only [decide_eq_true_eq, decide_eq_false_iff_not] at hr)) <;> (try (exfalso; omega))) | ((first | refine aw_region ?_ | refine ago_if (by omega) ?_ | skip); simp (config := {maxSteps := 10000000}) (disch := first | exact okYes (by kernel_rfl) | omega) only [thenQ, dI, List.length, Nat.zero_add, Nat.reduceMul, Nat.reduceAdd, ARun_none, AOpRun, aexec, FSt.ev, St.F, eget_c, Nat.reduceBEq, ↓eget_h, cond_false, isSh, Bool.false_eq_true, ↓reduceIte, Option.map, abin, AGo_ok, St.app, putO, eput_c, eput_n, hups, List.map, ARun_nil, dropE_c, inL_n, dropE_n, hr, decide_false, beq_self_eq_true, cond_true, inL_c])))
    refine end_to [] [(136, 500)] (by first | exact .inl rfl | exact .inr rfl) rfl (by kernel_rfl) (by kernel_rfl) (by kernel_rfl) ?_ ?_ <;> repeat' (first | exact trivial | exact vr_vec _ _ _ _ rfl | refine And.intro ⟨_, rfl, _, rfl, by decide, ?_⟩ ?_)
    all_goals exact vrl_flat _ (bcl_in _)
  have g1 := ints_gd l k hk2
  have e : (l.map (fun n => p.testBit n.toNat)).take (k + 1) = (l.map (fun n => p.testBit n.toNat)).take k ++ [(fun n => p.testBit n.toNat) (l[k]?.getD 0)] := by
    rw [List.take_add_one]
    simp [hk2]
  have hca := phas_ac p (l[k]?.getD 0).toNat hp (by have := hn k hk2; omega)
  rw [Int.toNat_of_nonneg (hn k hk2).1] at hca
  have hic : (bcl ((l.map (fun n => p.testBit n.toNat)).take k)).length = k := by rw [bcl_len, List.length_take]; omega
  have hit : (bcl ((l.map (fun n => p.testBit n.toNat)).take k)).take k = bcl ((l.map (fun n => p.testBit n.toNat)).take k) := List.take_of_length_le (by omega)
  have hlf := bcl_leaf ((l.map (fun n => p.testBit n.toNat)).take k)
  have e2 : bcl ((l.map (fun n => p.testBit n.toNat)).take (k + 1)) = bcl ((l.map (fun n => p.testBit n.toNat)).take k) ++ [.val (.bool ((fun n => p.testBit n.toNat) (l[k]?.getD 0)))] := by rw [e, bc_app]
  have hcin : ∀ y ∈ bcl ((l.map (fun n => p.testBit n.toNat)).take k) ++ [.val (.bool ((fun n => p.testBit n.toNat) (l[k]?.getD 0)))], In (fun _ => False) y := by rw [bc_app]; exact bcl_in _
  generalize bcl ((l.map (fun n => p.testBit n.toNat)).take k) = L at *
  simp only at e2 hcin
  (have hg : (987654321 : Nat) - 987654321 = 0 := rfl; have hr := hg; repeat' (first | refine aw_seq ?_ | (refine aw_skip ?_; try simp only [thenQ, blockQ, if_true, if_false, Nat.reduceEqDiff, reduceCtorEq]) | (refine aw_exit ?_; try simp only [thenQ, blockQ, if_true, if_false, Nat.reduceEqDiff, reduceCtorEq]) | refine aw_ret ?_ | refine aw_block ?_ | refine aw_condT rfl ?_ | refine aw_condF rfl ?_ | (refine aw_cond rfl (fun hg => ?_) (fun hg => ?_) <;> (try (have hq := hg; simp only [Bool.not_eq_true', Bool.not_eq_false', Bool.and_eq_true, Bool.and_eq_false_iff, Bool.or_eq_true, Bool.or_eq_false_iff, decide_eq_true_eq, decide_eq_false_iff_not, bne_iff_ne, beq_iff_eq, beq_eq_false_iff_ne, bne_eq_false_iff_eq, ne_eq, Int.not_lt, Int.not_le, Decidable.not_not] at hq)) <;> (try (have hr := hg; simp only [decide_eq_true_eq, decide_eq_false_iff_not] at hr)) <;> (try (exfalso; omega))) | ((first | refine aw_region ?_ | refine acall0 (hca) ?_ | refine ago_if (by omega) ?_ | skip); simp (config := {maxSteps := 10000000}) (disch := first | exact okYes (by kernel_rfl) | omega) only [thenQ, dI, List.length, Nat.zero_add, Nat.mul_one, Nat.reduceAdd, ARun_none, AOpRun, aexec, FSt.ev, St.F, eget_c, Nat.reduceBEq, ↓eget_h, cond_false, isSh, Bool.false_eq_true, ↓reduceIte, Option.map, abin, AGo_ok, St.app, putO, eput_c, eput_n, hups, List.map, ARun_nil, dropE_c, inL_n, dropE_n, Nat.reduceMul, hr, decide_true, Int.natCast_nonneg, ints_all, and_self, opt1, Int.toNat_natCast, g1, run1, List.getElem?_cons_zero, inL_c, beq_self_eq_true, cond_true, blockQ, dB, Option.isSome, hget_c, hget_n, fillD, D.isBot, D.cells, ne_eq, not_true_eq_false, Nat.reduceGT, or_self, splice, List.take, List.nil_append, List.drop, List.append_nil, hput_c, hput_n, base, hic, Nat.le_refl, hit, elems, ↓hget_h, List.all, D.leaf, Bool.and_true, and_true, ups, List.cons_append, hdel_c, hdel_n, fits])))
  refine ⟨k + 1, by omega, by omega, ?_⟩
  rw [e2]
  refine wk_to [] [(500, 672)] (by kernel_rfl) (by kernel_rfl) (by kernel_rfl) (by kernel_rfl) (by kernel_rfl) ?_ ?_ <;> repeat' (first | exact trivial | exact vr_val _ | exact vr_list _ | exact vr_vec _ _ _ _ rfl | apply vr_fn | refine And.intro ⟨_, rfl, .inl ⟨_, rfl, by decide, ?_⟩⟩ ?_ | apply And.intro | exact vrl_flat _ (by first | exact icells_in _ | exact rcells_in _ | exact scells_in _ | exact bcells_in _ | assumption) | fail)
  all_goals assumption
end Go.Proofs.Ytdcodicoclecnaa
