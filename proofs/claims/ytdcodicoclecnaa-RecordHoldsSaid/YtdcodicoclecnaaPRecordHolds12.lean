/- Texts of the law RecordHolds, part 12. No conditions. -/
import Derived.Test.YtdcodicoclecnaaPRecordHolds11
import Derived.Test.YtdcodicoclecnaaRows
/- law12: a case that is too large; a case in new memory. No conditions. -/
set_option linter.unusedSimpArgs false
set_option linter.unusedVariables false
namespace Go.Proofs.Ytdcodicoclecnaa
open Go Go.RowKit Lift

def farCl (x : Clm) : Bool := decide ((x.needs.length : Int) > 30) || decide ((x.proofs.length : Int) > 30)
def farCas (c : Cas) : Bool := decide ((c.cl.length : Int) > 20) || (decide ((c.pf.length : Int) > 16) || c.cl.any farCl)
/-- what a case has that came in -/
structure CasRaw (c : Cas) : Prop where
  n1 : c.cl.length ≤ maxLen
  n2 : c.pf.length ≤ maxLen
  l1 : ∀ i, (clAt c i).needs.length ≤ maxLen
  l2 : ∀ i, (clAt c i).proofs.length ≤ maxLen
theorem far_no {c : Cas} (h : farCas c = false) : c.cl.length ≤ 20 ∧ c.pf.length ≤ 16 ∧ ∀ i, (clAt c i).needs.length ≤ 30 ∧ (clAt c i).proofs.length ≤ 30 := by
  unfold farCas at h
  simp only [Bool.or_eq_false_iff, decide_eq_false_iff_not, List.any_eq_false] at h
  obtain ⟨h1, h2, h3⟩ := h
  refine ⟨by omega, by omega, fun i => ?_⟩
  unfold clAt
  by_cases hi : i < c.cl.length
  · have := h3 _ (List.getElem_mem hi)
    unfold farCl at this
    simp only [Bool.not_eq_true, Bool.or_eq_false_iff, decide_eq_false_iff_not] at this
    rw [List.getElem?_eq_getElem hi]
    exact ⟨by have := this.1; simp only [Option.getD_some]; omega, by have := this.2; simp only [Option.getD_some]; omega⟩
  · rw [List.getElem?_eq_none (by omega)]
    simp [cl0]
theorem far_in {c : Cas} (h : farCas c = false) : CasIn c := by
  obtain ⟨h1, h2, h3⟩ := far_no h
  have hmax : maxLen = 9223372036854775807 := rfl
  exact ⟨by omega, by omega, fun i => by have := (h3 i).1; omega, fun i => by have := (h3 i).2; omega⟩
set_option maxRecDepth 100000 in
set_option maxHeartbeats 2000000 in
theorem farC_ac (c : Cas) (hw : CasRaw c) : AC Try.prog 33 [casD c] [] [] (dB (farCas c)) := by
  refine klaw12_FarCase.ac (n0 := 0) (by simp) ⟨in_cas _ _, trivial⟩ trivial rfl ?_
  unfold claw12_FarCase casD farCas
  have hmax : maxLen = 9223372036854775807 := rfl
  have m1 := hw.n1
  have m2 := hw.n2
  have cll := cls_len c.cl
  have cla := cls_all c.cl
  have pfl := sps_len c.pf
  cases q1 : decide ((c.cl.length : Int) > 20) with
  | true =>
    simp only [Bool.true_or]
    (have hg : (987654321 : Nat) - 987654321 = 0 := rfl; have hr := hg; repeat' (first | refine aw_seq ?_ | (refine aw_skip ?_; repeat' (first | with_reducible refine thenQ_n ?_ | with_reducible refine blockQ_n ?_ | with_reducible refine thenQ_e ?_ | with_reducible refine blockQ_t ?_ | with_reducible refine blockQ_f (by decide) ?_)) | (refine aw_exit ?_; repeat' (first | with_reducible refine thenQ_n ?_ | with_reducible refine blockQ_n ?_ | with_reducible refine thenQ_e ?_ | with_reducible refine blockQ_t ?_ | with_reducible refine blockQ_f (by decide) ?_)) | refine aw_ret ?_ | refine aw_block ?_ | refine aw_condT rfl ?_ | refine aw_condF rfl ?_ | ((first | refine aw_hide fun K hK => aw_region ?_ | refine ago_if (by omega) ?_ | skip); simp (config := {maxSteps := 10000000}) (disch := first | exact okYes (by kernel_rfl) | omega) only [List.length, Nat.zero_add, Nat.reduceAdd, Nat.reduceMul, envOf, ARun_none, AOpRun, aexec, D.isBot, FSt.ev, St.F, ↓eget_h, Bool.false_eq_true, Option.isSome, hget_n, or_self, ↓reduceIte, D.cells, AGo_ok, St.app, putO, eput_c, Nat.reduceBEq, eput_n, cond_false, hups, hput_n, List.map, ARun_nil, dropE_c, inL_n, dropE_n, eget_c, Option.map, run1, hget_c, beq_self_eq_true, cond_true, List.getElem?_cons_zero, cll, isSh, abin, q1, ARun_some, AG_tf, inL_c, thenQ, dB]) | (subst hK; repeat' (first | with_reducible refine thenQ_n ?_ | with_reducible refine blockQ_n ?_ | with_reducible refine thenQ_e ?_ | with_reducible refine blockQ_t ?_ | with_reducible refine blockQ_f (by decide) ?_))))
    all_goals (refine end_to [] [] (by first | exact .inl rfl | exact .inr rfl) rfl (by kernel_rfl) (by kernel_rfl) (by kernel_rfl) ?_ ?_ <;> repeat' (first | exact trivial | exact vr_val _))
  | false =>
  cases q2 : decide ((c.pf.length : Int) > 16) with
  | true =>
    simp only [Bool.true_or, Bool.or_true]
    (have hg : (987654321 : Nat) - 987654321 = 0 := rfl; have hr := hg; repeat' (first | refine aw_seq ?_ | (refine aw_skip ?_; repeat' (first | with_reducible refine thenQ_n ?_ | with_reducible refine blockQ_n ?_ | with_reducible refine thenQ_e ?_ | with_reducible refine blockQ_t ?_ | with_reducible refine blockQ_f (by decide) ?_)) | (refine aw_exit ?_; repeat' (first | with_reducible refine thenQ_n ?_ | with_reducible refine blockQ_n ?_ | with_reducible refine thenQ_e ?_ | with_reducible refine blockQ_t ?_ | with_reducible refine blockQ_f (by decide) ?_)) | refine aw_ret ?_ | refine aw_block ?_ | refine aw_condT rfl ?_ | refine aw_condF rfl ?_ | ((first | refine aw_hide fun K hK => aw_region ?_ | refine ago_if (by omega) ?_ | skip); simp (config := {maxSteps := 10000000}) (disch := first | exact okYes (by kernel_rfl) | omega) only [List.length, Nat.zero_add, Nat.reduceAdd, Nat.reduceMul, envOf, ARun_none, AOpRun, aexec, D.isBot, FSt.ev, St.F, ↓eget_h, Bool.false_eq_true, Option.isSome, hget_n, or_self, ↓reduceIte, D.cells, AGo_ok, St.app, putO, eput_c, Nat.reduceBEq, eput_n, cond_false, hups, hput_n, List.map, ARun_nil, dropE_c, inL_n, dropE_n, eget_c, Option.map, run1, hget_c, beq_self_eq_true, cond_true, List.getElem?_cons_zero, cll, isSh, abin, q1, ARun_some, AG_ff, List.getElem?_cons_succ, pfl, q2, inL_c, thenQ, dB]) | (subst hK; repeat' (first | with_reducible refine thenQ_n ?_ | with_reducible refine blockQ_n ?_ | with_reducible refine thenQ_e ?_ | with_reducible refine blockQ_t ?_ | with_reducible refine blockQ_f (by decide) ?_))))
    all_goals (refine end_to [] [] (by first | exact .inl rfl | exact .inr rfl) rfl (by kernel_rfl) (by kernel_rfl) (by kernel_rfl) ?_ ?_ <;> repeat' (first | exact trivial | exact vr_val _))
  | false =>
  simp only [Bool.false_or]
  (have hg : (987654321 : Nat) - 987654321 = 0 := rfl; have hr := hg; repeat' (first | refine aw_seq ?_ | (refine aw_skip ?_; repeat' (first | with_reducible refine thenQ_n ?_ | with_reducible refine blockQ_n ?_ | with_reducible refine thenQ_e ?_ | with_reducible refine blockQ_t ?_ | with_reducible refine blockQ_f (by decide) ?_)) | (refine aw_exit ?_; repeat' (first | with_reducible refine thenQ_n ?_ | with_reducible refine blockQ_n ?_ | with_reducible refine thenQ_e ?_ | with_reducible refine blockQ_t ?_ | with_reducible refine blockQ_f (by decide) ?_)) | refine aw_ret ?_ | refine aw_block ?_ | refine aw_condT rfl ?_ | refine aw_condF rfl ?_ | ((first | refine aw_hide fun K hK => aw_region ?_ | refine ago_if (by omega) ?_ | skip); simp (config := {maxSteps := 10000000}) (disch := first | exact okYes (by kernel_rfl) | omega) only [List.length, Nat.zero_add, Nat.reduceAdd, Nat.reduceMul, envOf, ARun_none, AOpRun, aexec, D.isBot, FSt.ev, St.F, ↓eget_h, Bool.false_eq_true, Option.isSome, hget_n, or_self, ↓reduceIte, D.cells, AGo_ok, St.app, putO, eput_c, Nat.reduceBEq, eput_n, cond_false, hups, hput_n, List.map, ARun_nil, dropE_c, inL_n, dropE_n, eget_c, Option.map, run1, hget_c, beq_self_eq_true, cond_true, List.getElem?_cons_zero, cll, isSh, abin, q1, ARun_some, AG_ff, List.getElem?_cons_succ, pfl, q2, inL_c, dB]) | (subst hK; repeat' (first | with_reducible refine thenQ_n ?_ | with_reducible refine blockQ_n ?_ | with_reducible refine thenQ_e ?_ | with_reducible refine blockQ_t ?_ | with_reducible refine blockQ_f (by decide) ?_))))
  refine aw_loop (fun k : Nat => ⟨[(1, .ptr 0 0), (3, dI k)], [(0, [.list (cls c.cl), .list (sps c.pf)])], 400⟩) (fun k => k ≤ c.cl.length ∧ ∀ j, j < k → farCl (clAt c j) = false) (fun k => c.cl.length - k) ⟨0, ⟨by omega, fun j hj => by omega⟩, ?_⟩ ?_
  · unfold dI
    refine wk_to [] [(0, 0)] (by kernel_rfl) (by kernel_rfl) (by kernel_rfl) (by kernel_rfl) (by kernel_rfl) ?_ ?_ <;> repeat' (first | exact trivial | exact vr_val _ | exact vr_list _ | exact vr_ptr _ _ _ rfl | refine And.intro ⟨_, rfl, .inl ⟨_, rfl, by decide, ?_⟩⟩ ?_ | apply And.intro)
  rintro k ⟨hk, hin⟩
  by_cases hk2 : k < c.cl.length
  case neg =>
    obtain rfl : k = c.cl.length := by omega
    have e : c.cl.any farCl = false := List.any_eq_false.2 fun x hx => by
      obtain ⟨j, hj, rfl⟩ := List.getElem_of_mem hx
      have := hin j hj
      simp only [clAt, hj, List.getElem?_eq_getElem, Option.getD_some] at this
      rw [this]; simp
    rw [e]
    (have hg : (987654321 : Nat) - 987654321 = 0 := rfl; have hr := hg; repeat' (first | refine aw_seq ?_ | (refine aw_skip ?_; repeat' (first | with_reducible refine thenQ_n ?_ | with_reducible refine blockQ_n ?_ | with_reducible refine thenQ_e ?_ | with_reducible refine blockQ_t ?_ | with_reducible refine blockQ_f (by decide) ?_)) | (refine aw_exit ?_; repeat' (first | with_reducible refine thenQ_n ?_ | with_reducible refine blockQ_n ?_ | with_reducible refine thenQ_e ?_ | with_reducible refine blockQ_t ?_ | with_reducible refine blockQ_f (by decide) ?_)) | refine aw_ret ?_ | refine aw_block ?_ | refine aw_condT rfl ?_ | refine aw_condF rfl ?_ | (refine aw_cond rfl (fun hg => ?_) (fun hg => ?_) <;> (try (have hq := hg; simp only [Bool.not_eq_true', Bool.not_eq_false', Bool.and_eq_true, Bool.and_eq_false_iff, Bool.or_eq_true, Bool.or_eq_false_iff, decide_eq_true_eq, decide_eq_false_iff_not, bne_iff_ne, beq_iff_eq, beq_eq_false_iff_ne, bne_eq_false_iff_eq, ne_eq, Int.not_lt, Int.not_le, Decidable.not_not] at hq)) <;> (try (have hr := hg; simp only [decide_eq_true_eq, decide_eq_false_iff_not] at hr)) <;> (try (exfalso; omega))) | ((first | refine aw_hide fun K hK => aw_region ?_ | refine ago_if (by omega) ?_ | skip); simp (config := {maxSteps := 10000000}) (disch := first | exact okYes (by kernel_rfl) | omega) only [List.length, Nat.zero_add, Nat.reduceAdd, Nat.reduceMul, dI, ARun_none, AOpRun, aexec, FSt.ev, St.F, eget_c, Nat.reduceBEq, ↓eget_h, cond_false, AGo_ok, St.app, putO, eput_c, eput_n, hups, List.map, Option.map, run1, hget_c, beq_self_eq_true, hget_n, cond_true, List.getElem?_cons_zero, cll, isSh, Bool.false_eq_true, ↓reduceIte, abin, ARun_nil, dropE_c, inL_c, inL_n, dropE_n, hr, decide_false]) | (subst hK; repeat' (first | with_reducible refine thenQ_n ?_ | with_reducible refine blockQ_n ?_ | with_reducible refine thenQ_e ?_ | with_reducible refine blockQ_t ?_ | with_reducible refine blockQ_f (by decide) ?_))))
    all_goals (refine end_to [] [] (by first | exact .inl rfl | exact .inr rfl) rfl (by kernel_rfl) (by kernel_rfl) (by kernel_rfl) ?_ ?_ <;> repeat' (first | exact trivial | exact vr_val _))
  have g1 : (cls c.cl)[k]? = some (clC (clAt c k)) := cls_gd c.cl k hk2
  unfold clC at g1
  have l1 := hw.l1 k
  have l2 := hw.l2 k
  have ki : (k : Int) < (c.cl.length : Int) := by omega
  have hno : farCl (clAt c k) = true → c.cl.any farCl = true := fun h => List.any_eq_true.2 ⟨c.cl[k], List.getElem_mem hk2, by
    simp only [clAt, hk2, List.getElem?_eq_getElem, Option.getD_some] at h
    exact h⟩
  have hyes : farCl (clAt c k) = false → ∀ j, j < k + 1 → farCl (clAt c j) = false := fun h j hj => by
    rcases (by omega : j < k ∨ j = k) with h1 | rfl
    · exact hin j h1
    · exact h
  clear hin
  unfold farCl at hno hyes
  generalize clAt c k = x at g1 l1 l2 hno hyes
  have nl := ints_len x.needs
  have pl := ints_len x.proofs
  cases h1 : decide ((x.needs.length : Int) > 30) with
  | true =>
    have e := hno (by rw [h1]; rfl)
    unfold farCl at e ⊢
    rw [e]
    (have hg : (987654321 : Nat) - 987654321 = 0 := rfl; have hr := hg; repeat' (first | refine aw_seq ?_ | (refine aw_skip ?_; repeat' (first | with_reducible refine thenQ_n ?_ | with_reducible refine blockQ_n ?_ | with_reducible refine thenQ_e ?_ | with_reducible refine blockQ_t ?_ | with_reducible refine blockQ_f (by decide) ?_)) | (refine aw_exit ?_; repeat' (first | with_reducible refine thenQ_n ?_ | with_reducible refine blockQ_n ?_ | with_reducible refine thenQ_e ?_ | with_reducible refine blockQ_t ?_ | with_reducible refine blockQ_f (by decide) ?_)) | refine aw_ret ?_ | refine aw_block ?_ | refine aw_condT rfl ?_ | refine aw_condF rfl ?_ | ((first | refine aw_hide fun K hK => aw_region ?_ | refine ago_if (by omega) ?_ | skip); simp (config := {maxSteps := 10000000}) (disch := first | exact okYes (by kernel_rfl) | omega) only [List.length, Nat.zero_add, Nat.reduceAdd, Nat.reduceMul, dI, ARun_none, AOpRun, aexec, FSt.ev, St.F, eget_c, Nat.reduceBEq, ↓eget_h, cond_false, AGo_ok, St.app, putO, eput_c, eput_n, hups, List.map, Option.map, run1, hget_c, beq_self_eq_true, hget_n, cond_true, List.getElem?_cons_zero, cll, isSh, Bool.false_eq_true, ↓reduceIte, abin, ki, decide_true, ARun_nil, dropE_c, inL_c, inL_n, dropE_n, Int.natCast_nonneg, cla, and_self, opt1, Int.toNat_natCast, g1, dB, List.drop, nl, h1, ARun_some, AG_tf, blockQ, thenQ]) | (subst hK; repeat' (first | with_reducible refine thenQ_n ?_ | with_reducible refine blockQ_n ?_ | with_reducible refine thenQ_e ?_ | with_reducible refine blockQ_t ?_ | with_reducible refine blockQ_f (by decide) ?_))))
    all_goals (refine end_to [] [] (by first | exact .inl rfl | exact .inr rfl) rfl (by kernel_rfl) (by kernel_rfl) (by kernel_rfl) ?_ ?_ <;> repeat' (first | exact trivial | exact vr_val _))
  | false =>
  cases h2 : decide ((x.proofs.length : Int) > 30) with
  | true =>
    have e := hno (by rw [h1, h2]; rfl)
    unfold farCl at e ⊢
    rw [e]
    (have hg : (987654321 : Nat) - 987654321 = 0 := rfl; have hr := hg; repeat' (first | refine aw_seq ?_ | (refine aw_skip ?_; repeat' (first | with_reducible refine thenQ_n ?_ | with_reducible refine blockQ_n ?_ | with_reducible refine thenQ_e ?_ | with_reducible refine blockQ_t ?_ | with_reducible refine blockQ_f (by decide) ?_)) | (refine aw_exit ?_; repeat' (first | with_reducible refine thenQ_n ?_ | with_reducible refine blockQ_n ?_ | with_reducible refine thenQ_e ?_ | with_reducible refine blockQ_t ?_ | with_reducible refine blockQ_f (by decide) ?_)) | refine aw_ret ?_ | refine aw_block ?_ | refine aw_condT rfl ?_ | refine aw_condF rfl ?_ | ((first | refine aw_hide fun K hK => aw_region ?_ | refine ago_if (by omega) ?_ | skip); simp (config := {maxSteps := 10000000}) (disch := first | exact okYes (by kernel_rfl) | omega) only [List.length, Nat.zero_add, Nat.reduceAdd, Nat.reduceMul, dI, ARun_none, AOpRun, aexec, FSt.ev, St.F, eget_c, Nat.reduceBEq, ↓eget_h, cond_false, AGo_ok, St.app, putO, eput_c, eput_n, hups, List.map, Option.map, run1, hget_c, beq_self_eq_true, hget_n, cond_true, List.getElem?_cons_zero, cll, isSh, Bool.false_eq_true, ↓reduceIte, abin, ki, decide_true, ARun_nil, dropE_c, inL_c, inL_n, dropE_n, Int.natCast_nonneg, cla, and_self, opt1, Int.toNat_natCast, g1, dB, List.drop, nl, h1, ARun_some, AG_ff, pl, h2, blockQ, thenQ]) | (subst hK; repeat' (first | with_reducible refine thenQ_n ?_ | with_reducible refine blockQ_n ?_ | with_reducible refine thenQ_e ?_ | with_reducible refine blockQ_t ?_ | with_reducible refine blockQ_f (by decide) ?_))))
    all_goals (refine end_to [] [] (by first | exact .inl rfl | exact .inr rfl) rfl (by kernel_rfl) (by kernel_rfl) (by kernel_rfl) ?_ ?_ <;> repeat' (first | exact trivial | exact vr_val _))
  | false =>
    have hy := hyes (by rw [h1, h2]; rfl)
    (have hg : (987654321 : Nat) - 987654321 = 0 := rfl; have hr := hg; repeat' (first | refine aw_seq ?_ | (refine aw_skip ?_; repeat' (first | with_reducible refine thenQ_n ?_ | with_reducible refine blockQ_n ?_ | with_reducible refine thenQ_e ?_ | with_reducible refine blockQ_t ?_ | with_reducible refine blockQ_f (by decide) ?_)) | (refine aw_exit ?_; repeat' (first | with_reducible refine thenQ_n ?_ | with_reducible refine blockQ_n ?_ | with_reducible refine thenQ_e ?_ | with_reducible refine blockQ_t ?_ | with_reducible refine blockQ_f (by decide) ?_)) | refine aw_ret ?_ | refine aw_block ?_ | refine aw_condT rfl ?_ | refine aw_condF rfl ?_ | ((first | refine aw_hide fun K hK => aw_region ?_ | refine ago_if (by omega) ?_ | skip); simp (config := {maxSteps := 10000000}) (disch := first | exact okYes (by kernel_rfl) | omega) only [List.length, Nat.zero_add, Nat.reduceAdd, Nat.reduceMul, dI, ARun_none, AOpRun, aexec, FSt.ev, St.F, eget_c, Nat.reduceBEq, ↓eget_h, cond_false, AGo_ok, St.app, putO, eput_c, eput_n, hups, List.map, Option.map, run1, hget_c, beq_self_eq_true, hget_n, cond_true, List.getElem?_cons_zero, cll, isSh, Bool.false_eq_true, ↓reduceIte, abin, ki, decide_true, ARun_nil, dropE_c, inL_c, inL_n, dropE_n, Int.natCast_nonneg, cla, and_self, opt1, Int.toNat_natCast, g1, dB, List.drop, nl, h1, ARun_some, AG_ff, pl, h2, fits]) | (subst hK; repeat' (first | with_reducible refine thenQ_n ?_ | with_reducible refine blockQ_n ?_ | with_reducible refine thenQ_e ?_ | with_reducible refine blockQ_t ?_ | with_reducible refine blockQ_f (by decide) ?_))))
    refine ⟨k + 1, ⟨by omega, hy⟩, by omega, ?_⟩
    refine wk_to [] [(0, 0)] (by kernel_rfl) (by kernel_rfl) (by kernel_rfl) (by kernel_rfl) (by kernel_rfl) ?_ ?_ <;> repeat' (first | exact trivial | exact vr_val _ | exact vr_list _ | exact vr_ptr _ _ _ rfl | refine And.intro ⟨_, rfl, .inl ⟨_, rfl, by decide, ?_⟩⟩ ?_ | apply And.intro)
theorem sc_leaf (b : List (Int × Int)) : (scells b).all D.leaf = true := by
  rw [List.all_eq_true]
  intro d hd
  obtain ⟨n, rfl⟩ := scells_mem hd
  rfl
theorem clcells_in (l : List Clm) : ∀ d ∈ clcells l, In (fun _ => False) d := by
  intro d hd
  unfold clcells at hd
  obtain ⟨x, _, hx⟩ := List.mem_flatMap.1 hd
  simp only [clC, List.mem_cons, List.not_mem_nil, or_false] at hx
  rcases hx with rfl | rfl | rfl
  · exact .list _
  · exact .list _
  · exact .val _
theorem clcells_len (l : List Clm) : (clcells l).length = l.length * 3 := by
  unfold clcells
  induction l with
  | nil => rfl
  | cons x l ih => rw [List.flatMap_cons, List.length_append, ih, List.length_cons]; simp [clC]; omega
theorem clcells_snoc (l : List Clm) (x : Clm) : clcells (l ++ [x]) = clcells l ++ [.list (ints x.needs), .list (ints x.proofs), dB x.any] := by
  unfold clcells
  rw [List.flatMap_append]; rfl
set_option maxRecDepth 100000 in
set_option maxHeartbeats 4000000 in
theorem copyC_ac (c : Cas) (hf : farCas c = false) : AC Try.prog 34 [casD c] [] [] (casD c) := by
  refine kref12_CopyCase.ac (n0 := 0) (by simp) ⟨in_cas _ _, trivial⟩ trivial rfl ?_
  unfold cref12_CopyCase casD
  obtain ⟨h1, h2, h3⟩ := far_no hf
  have cll := cls_len c.cl
  have cla := cls_all c.cl
  have pfl := sps_len c.pf
  have pfa := sps_all c.pf
  have pff := sps_flat c.pf
  have pfc := sc_leaf c.pf
  refine aw_seq (aw_region ?_)
  simp (config := {maxSteps := 10000000}) (disch := first | exact okYes (by kernel_rfl) | omega) only [thenQ, List.map, List.length, Nat.zero_add, Nat.reduceAdd, Nat.reduceMul, envOf, ARun_none, AOpRun, aexec, D.isBot, FSt.ev, St.F, ↓eget_h, Bool.false_eq_true, Option.isSome, hget_n, or_self, ↓reduceIte, D.cells, AGo_ok, St.app, putO, eput_c, Nat.reduceBEq, eput_n, cond_false, hups, hput_n, hget_c, hput_c, ARun_nil, dropE_c, inL_n, dropE_n]
  refine aw_seq (aw_region ?_)
  simp (config := {maxSteps := 10000000}) (disch := first | exact okYes (by kernel_rfl) | omega) only [thenQ, List.length, Nat.zero_add, Nat.reduceAdd, Nat.reduceMul, ARun_none, AOpRun, aexec, Option.isSome, hget_c, Nat.reduceBEq, hget_n, cond_false, Bool.false_eq_true, ↓reduceIte, Option.map, fillD, AGo_ok, St.app, putO, eput_c, eput_n, hups, hput_c, hput_n, List.map, FSt.ev, St.F, eget_c, ↓eget_h, run1, beq_self_eq_true, cond_true, List.getElem?_cons_succ, List.getElem?_cons_zero, base, ↓hget_h, Nat.zero_le, and_self, List.take, elems, pfa, pfl, pff, pfc, and_true, ups, List.nil_append, List.cons_append]
  refine ago_if (by omega) ?_
  simp (config := {maxSteps := 10000000}) (disch := first | exact okYes (by kernel_rfl) | omega) only [AGo_ok, Nat.reduceAdd, St.app, putO, eput_c, Nat.reduceBEq, eput_n, cond_false, hups, hput_c, hput_n, hdel_c, beq_self_eq_true, hdel_n, cond_true, List.map, ARun_none, AOpRun, aexec, Option.map, fillD, D.isBot, FSt.ev, St.F, eget_c, ↓eget_h, Bool.false_eq_true, D.cells, List.length, Nat.zero_add, ne_eq, not_true_eq_false, Nat.reduceGT, or_self, ↓reduceIte, splice, List.take, List.cons_append, List.nil_append, List.drop, List.append_nil, Option.isSome, Nat.reduceMul, hget_c, hget_n, ↓hget_h, Nat.reduceLeDiff, List.all, D.leaf, Bool.and_true, and_self, ARun_nil, dropE_c, inL_c, inL_n, dropE_n]
  refine aw_seq (aw_seq (aw_region ?_))
  simp (config := {maxSteps := 10000000}) (disch := first | exact okYes (by kernel_rfl) | omega) only [thenQ, List.length, Nat.zero_add, Nat.reduceMul, Nat.reduceAdd, ARun_none, AOpRun, aexec, FSt.ev, AGo_ok, St.app, putO, eput_c, Nat.reduceBEq, eput_n, cond_false, hups, List.map, ARun_nil, dropE_c, inL_n, dropE_n]
  refine aw_block ?_
  refine aw_loop (fun k : Nat => ⟨[(1, .ptr 0 0), (2, .ptr 8 0), (3, .ptr 16 0), (4, dI k)], [(0, [.list (cls c.cl), .list (sps c.pf)]), (8, [.val (.slice none 0 0), .val (.slice none 0 0)]), (16, [.vec 24 k 3, .list (sps c.pf)]), (24, clcells (c.cl.take k))], 400⟩) (fun k => k ≤ c.cl.length) (fun k => c.cl.length - k) ⟨0, by omega, ?_⟩ ?_
  · show Wk _ _ ⟨_, [_, _, _, (24, [])], _⟩
    unfold dI
    refine wk_to [40] [(0, 0), (8, 8), (16, 56), (24, 900)] (by kernel_rfl) (by kernel_rfl) (by kernel_rfl) (by kernel_rfl) (by kernel_rfl) ?_ ?_ <;> repeat' (first | exact trivial | exact vr_val _ | exact vr_list _ | exact vr_ptr _ _ _ rfl | exact vr_nilv _ _ _ rfl | refine vr_fl _ _ _ _ _ (by decide) rfl ?_ ?_ ?_ ?_ | refine And.intro ⟨_, rfl, .inl ⟨_, rfl, by decide, ?_⟩⟩ ?_ | refine And.intro ⟨_, rfl, .inr ⟨rfl, rfl, of_decide_eq_true (by kernel_rfl)⟩⟩ ?_ | apply And.intro)
    all_goals first | exact sps_two _ | exact sps_len _ | exact sps_flat _ | exact scells_in _
  intro k hk
  by_cases hk2 : k < c.cl.length
  case neg =>
    obtain rfl : k = c.cl.length := by omega
    rw [List.take_of_length_le (Nat.le_refl _)]
    (have hg : (987654321 : Nat) - 987654321 = 0 := rfl; have hr := hg; repeat' (first | refine aw_seq ?_ | (refine aw_skip ?_; repeat' (first | with_reducible refine thenQ_n ?_ | with_reducible refine blockQ_n ?_ | with_reducible refine thenQ_e ?_ | with_reducible refine blockQ_t ?_ | with_reducible refine blockQ_f (by decide) ?_)) | (refine aw_exit ?_; repeat' (first | with_reducible refine thenQ_n ?_ | with_reducible refine blockQ_n ?_ | with_reducible refine thenQ_e ?_ | with_reducible refine blockQ_t ?_ | with_reducible refine blockQ_f (by decide) ?_)) | refine aw_ret ?_ | refine aw_block ?_ | refine aw_condT rfl ?_ | refine aw_condF rfl ?_ | (refine aw_cond rfl (fun hg => ?_) (fun hg => ?_) <;> (try (have hq := hg; simp only [Bool.not_eq_true', Bool.not_eq_false', Bool.and_eq_true, Bool.and_eq_false_iff, Bool.or_eq_true, Bool.or_eq_false_iff, decide_eq_true_eq, decide_eq_false_iff_not, bne_iff_ne, beq_iff_eq, beq_eq_false_iff_ne, bne_eq_false_iff_eq, ne_eq, Int.not_lt, Int.not_le, Decidable.not_not] at hq)) <;> (try (have hr := hg; simp only [decide_eq_true_eq, decide_eq_false_iff_not] at hr)) <;> (try (exfalso; omega))) | ((first | refine aw_hide fun K hK => aw_region ?_ | refine ago_if (by omega) ?_ | skip); simp (config := {maxSteps := 10000000}) (disch := first | exact okYes (by kernel_rfl) | omega) only [List.length, Nat.zero_add, Nat.reduceAdd, Nat.reduceMul, dI, ARun_none, AOpRun, aexec, FSt.ev, St.F, eget_c, Nat.reduceBEq, ↓eget_h, cond_false, AGo_ok, St.app, putO, eput_c, eput_n, hups, List.map, Option.map, run1, hget_c, beq_self_eq_true, hget_n, cond_true, List.getElem?_cons_zero, cll, isSh, Bool.false_eq_true, ↓reduceIte, abin, ARun_nil, dropE_c, inL_c, inL_n, dropE_n, hr, decide_false, ↓hget_h, Nat.reduceLeDiff, List.drop, List.take, D.isBot, D.cells, List.all, D.leaf, Bool.and_true, and_self, splice, List.nil_append, List.append_nil, hput_c, hput_n]) | (subst hK; repeat' (first | with_reducible refine thenQ_n ?_ | with_reducible refine blockQ_n ?_ | with_reducible refine thenQ_e ?_ | with_reducible refine blockQ_t ?_ | with_reducible refine blockQ_f (by decide) ?_))))
    refine end_to [24] [] (by first | exact .inl rfl | exact .inr rfl) rfl (by kernel_rfl) (by kernel_rfl) (by kernel_rfl) ?_ ?_ <;> repeat' (first | exact trivial | exact vr_list _ | apply vr_agg | refine vr_fl _ _ _ _ _ (by decide) rfl ?_ ?_ ?_ ?_ | apply And.intro)
    all_goals first | exact cls_three _ | exact cls_len _ | exact cls_flat _ | exact clcells_in _
  have g1 : (cls c.cl)[k]? = some (clC (clAt c k)) := cls_gd c.cl k hk2
  unfold clC at g1
  obtain ⟨l1, l2⟩ := h3 k
  have ki : (k : Int) < (c.cl.length : Int) := by omega
  have hsn : clcells (c.cl.take (k + 1)) = clcells (c.cl.take k) ++ [.list (ints (clAt c k).needs), .list (ints (clAt c k).proofs), dB (clAt c k).any] := by
    rw [← clcells_snoc, List.take_add_one]
    unfold clAt
    simp [hk2]
  have hcl1 : (clcells (c.cl.take k)).length = k * 3 := by rw [clcells_len, List.length_take]; omega
  have hct : (clcells (c.cl.take k)).take (k * 3) = clcells (c.cl.take k) := List.take_of_length_le (by omega)
  have hcin := clcells_in (c.cl.take k)
  have hcin2 := clcells_in (c.cl.take (k + 1))
  rw [hsn] at hcin2
  generalize clAt c k = x at *
  generalize clcells (c.cl.take k) = R at *
  have nl := ints_len x.needs
  have na := ints_all x.needs
  have nf := ints_flat x.needs
  have nc := icells_leaf x.needs
  have pl := ints_len x.proofs
  have pa := ints_all x.proofs
  have pf := ints_flat x.proofs
  have pc := icells_leaf x.proofs
  refine aw_seq (aw_seq (aw_region ?_))
  simp (config := {maxSteps := 10000000}) (disch := first | exact okYes (by kernel_rfl) | omega) only [thenQ, dI, List.length, Nat.zero_add, Nat.reduceAdd, Nat.reduceMul, ARun_none, AOpRun, aexec, FSt.ev, St.F, eget_c, Nat.reduceBEq, ↓eget_h, cond_false, AGo_ok, St.app, putO, eput_c, eput_n, hups, List.map, Option.map, run1, hget_c, beq_self_eq_true, hget_n, cond_true, List.getElem?_cons_zero, cll, isSh, Bool.false_eq_true, ↓reduceIte, abin, ki, decide_true, ARun_nil, dropE_c, inL_c, inL_n, dropE_n]
  refine aw_condT rfl (aw_skip ?_)
  refine aw_seq (aw_block (aw_seq (aw_region ?_)))
  simp (config := {maxSteps := 10000000}) (disch := first | exact okYes (by kernel_rfl) | omega) only [thenQ, List.length, Nat.zero_add, Nat.reduceAdd, Nat.reduceMul, ARun_none, AOpRun, aexec, FSt.ev, St.F, ↓eget_h, AGo_ok, St.app, putO, eput_c, Nat.reduceBEq, eput_n, cond_false, hups, List.map, Option.map, run1, eget_c, hget_c, beq_self_eq_true, hget_n, cond_true, List.getElem?_cons_zero, Int.natCast_nonneg, cla, and_self, ↓reduceIte, opt1, Int.toNat_natCast, g1, dB, Nat.reduceLeDiff, List.take, Option.isSome, Bool.false_eq_true, hput_c, hput_n, ↓hget_h, D.isBot, D.cells, List.all, D.leaf, Bool.and_true, splice, List.nil_append, List.drop, List.append_nil, ARun_nil, dropE_c, inL_c, inL_n, dropE_n]
  refine aw_region_cutD [⟨some 23, .fad 0 (.tmp 3), none, []⟩,
            ⟨some 24, .load1 (.tmp 23), none, [0]⟩,
            ⟨some 25, .buildSl 1 0 [] [], none, []⟩,
            ⟨some 26, .fad 0 (.tmp 5), none, []⟩,
            ⟨some 27, .load1 (.tmp 26), none, [3]⟩,
            ⟨some 28, .app 1 8 (.tmp 25) (.tmp 27), none, [2, 4, 3]⟩,
            ⟨some 29, .buildSl 1 0 [] [], none, []⟩,
            ⟨some 30, .fad 1 (.tmp 5), none, []⟩,
            ⟨some 31, .load1 (.tmp 30), none, [7]⟩,
            ⟨some 32, .app 1 8 (.tmp 29) (.tmp 31), none, [6, 8, 7, 5, 2, 4, 3]⟩,
            ⟨some 33, .fad 2 (.tmp 5), none, []⟩,
            ⟨some 34, .load1 (.tmp 33), none, [10]⟩,
            ⟨some 35, .build [(.val (.slice none 0 0)), (.val (.slice none 0 0)), (.val (.bool false))] [(0, 1, (.tmp 28)), (1, 1, (.tmp 32)), (2, 1, (.tmp 34))], none, [5, 2, 4, 3, 9, 6, 8, 7, 11, 10]⟩,
            ⟨some 36, .buildSl 3 1 [(.val (.slice none 0 0)), (.val (.slice none 0 0)), (.val (.bool false))] [(0, 3, (.tmp 35))], none, [12, 5, 2, 4, 3, 9, 6, 8, 7, 11, 10]⟩] ⟨some 37, .app 3 56 (.tmp 24) (.tmp 36), none, [1, 0, 13, 12, 5, 2, 4, 3, 9, 6, 8, 7, 11, 10]⟩
            [⟨some 38, .fad 0 (.tmp 3), none, [0, 1, 2, 3, 4, 5, 6, 7, 8, 9, 10, 11, 12, 13, 14]⟩,
            ⟨none, .store 1 (.tmp 38) (.tmp 37), none, [15, 0, 1, 2, 3, 4, 5, 6, 7, 8, 9, 10, 11, 12, 13, 14]⟩] (by decide) (by decide) ?_
  simp (config := {maxSteps := 10000000}) (disch := first | exact okYes (by kernel_rfl) | omega) only [List.length, Nat.zero_add, Nat.reduceAdd, Nat.reduceMul, blockQ, thenQ, ARun_none, AOpRun, aexec, base, FSt.ev, St.F, elems, Option.isSome, ups, eget_c, Nat.reduceBEq, ↓eget_h, cond_false, AGo_ok, St.app, putO, eput_c, eput_n, hups, List.map, Option.map, run1, hget_c, ↓hget_h, List.getElem?_cons_zero, hget_n, Bool.false_eq_true, ↓reduceIte, fillD, hput_c, hput_n, Nat.zero_le, and_self, List.take, na, nl, nf, nc, and_true, List.nil_append, List.cons_append]
  refine ago_if (by omega) ?_
  simp (config := {maxSteps := 10000000}) (disch := first | exact okYes (by kernel_rfl) | omega) only [AGo_ok, Nat.reduceAdd, St.app, putO, eput_c, Nat.reduceBEq, eput_n, cond_false, hups, hput_c, hput_n, hdel_c, beq_self_eq_true, hdel_n, cond_true, List.map, ARun_none, AOpRun, aexec, Option.isSome, Nat.reduceMul, hget_c, hget_n, Bool.false_eq_true, ↓reduceIte, Option.map, fillD, FSt.ev, St.F, eget_c, ↓eget_h, Nat.zero_add, run1, ↓hget_h, List.getElem?_cons_succ, List.getElem?_cons_zero, base, List.length, Nat.zero_le, and_self, List.take, elems, pa, pl, pf, pc, and_true, ups, List.nil_append, List.cons_append]
  refine ago_if (by omega) ?_
  simp (config := {maxSteps := 10000000}) (disch := first | exact okYes (by kernel_rfl) | omega) only [AGo_ok, Nat.reduceAdd, St.app, putO, eput_c, Nat.reduceBEq, eput_n, cond_false, hups, hput_c, hput_n, hdel_c, beq_self_eq_true, hdel_n, cond_true, List.map, ARun_none, AOpRun, aexec, FSt.ev, St.F, eget_c, ↓eget_h, Nat.zero_add, Option.map, run1, hget_c, ↓hget_h, List.getElem?_cons_succ, List.getElem?_cons_zero, fillD, D.isBot, Bool.false_eq_true, D.cells, List.length, ne_eq, not_true_eq_false, Nat.reduceGT, or_self, ↓reduceIte, splice, List.take, List.nil_append, List.drop, List.cons_append, List.append_nil, Option.isSome, Nat.reduceMul, hget_n, ARun_nil]
  have hl3 : ([.list (ints x.needs), .list (ints x.proofs), .val (.bool x.any)] : List D).all D.leaf = true := rfl
  have hle : k * 3 ≤ R.length := by omega
  refine ⟨⟨[(1, .ptr 0 0), (2, .ptr 8 0), (3, .ptr 16 0), (4, dI k), (24, .vec 24 k 3), (36, .vec 32 1 3)], [(0, [.list (cls c.cl), .list (sps c.pf)]), (8, [.val (.slice none 0 0), .val (.slice none 0 0)]), (16, [.vec 24 k 3, .list (sps c.pf)]), (24, R), (32, [.list (ints x.needs), .list (ints x.proofs), .val (.bool x.any)])], 600⟩, ?_, of_decide_eq_true (by kernel_rfl), ?_⟩
  · unfold dI
    refine wk_to [536, 568] [(0, 0), (8, 8), (16, 16), (24, 24), (32, 600)] (by kernel_rfl) (by kernel_rfl) (by kernel_rfl) (by kernel_rfl) (by kernel_rfl) ?_ ?_ <;> repeat' (first | exact trivial | exact vr_val _ | exact vr_list _ | exact vr_vec _ _ _ _ rfl | exact vr_ptr _ _ _ rfl | refine vr_fl _ _ _ _ _ (by decide) rfl ?_ ?_ ?_ ?_ | refine And.intro ⟨_, rfl, .inl ⟨_, rfl, by decide, ?_⟩⟩ ?_ | apply And.intro | exact vrl_flat _ (by first | exact icells_in _ | exact rcells_in _ | exact scells_in _ | exact bcells_in _ | assumption))
    all_goals first | exact ints_one _ | exact ints_len _ | exact ints_flat _ | exact icells_in _
  simp (config := {maxSteps := 10000000}) (disch := first | exact okYes (by kernel_rfl) | omega) only [Nat.reduceSub, Nat.reduceAdd, dI, eget_c, Nat.reduceBEq, ↓eget_h, cond_false, hget_c, ↓hget_h, hle, and_self, ↓reduceIte, hct, Nat.reduceMul, List.length, Nat.zero_add, Nat.reduceLeDiff, List.take, hget_n, List.all, D.leaf, Bool.and_true, and_true, List.map, List.cons_append, List.nil_append]
  refine ago_if (by omega) ?_
  simp (config := {maxSteps := 10000000}) (disch := first | exact okYes (by kernel_rfl) | omega) only [AGo_ok, Nat.reduceAdd, St.app, putO, eput_c, Nat.reduceBEq, eput_n, cond_false, hups, hput_c, hput_n, hdel_c, beq_self_eq_true, hdel_n, cond_true, List.map, ARun_none, AOpRun, aexec, FSt.ev, St.F, eget_c, ↓eget_h, Nat.zero_add, hget_c, ↓hget_h, D.isBot, D.cells, List.length, Nat.reduceLeDiff, List.all, D.leaf, Bool.and_true, and_self, ↓reduceIte, splice, List.take, List.nil_append, List.drop, List.cons_append, ARun_nil, dropE_c, inL_c, inL_n, dropE_n]
  refine aw_region ?_
  simp (config := {maxSteps := 10000000}) (disch := first | exact okYes (by kernel_rfl) | omega) only [thenQ, List.length, Nat.zero_add, Nat.reduceAdd, Nat.reduceMul, ARun_none, AOpRun, aexec, FSt.ev, St.F, eget_c, Nat.reduceBEq, ↓eget_h, cond_false, AGo_ok, St.app, putO, eput_c, eput_n, hups, List.map, isSh, Bool.false_eq_true, ↓reduceIte, Option.map, abin, fits, beq_self_eq_true, cond_true, ARun_nil, dropE_c, inL_c, inL_n, dropE_n]
  refine ⟨k + 1, by omega, by omega, ?_⟩
  rw [hsn]
  unfold dB at *
  refine wk_to [] [(0, 0), (8, 8), (16, 16), (24, 600)] (by kernel_rfl) (by kernel_rfl) (by kernel_rfl) (by kernel_rfl) (by kernel_rfl) ?_ ?_ <;> repeat' (first | exact trivial | exact vr_val _ | exact vr_list _ | exact vr_vec _ _ _ _ rfl | exact vr_ptr _ _ _ rfl | refine And.intro ⟨_, rfl, .inl ⟨_, rfl, by decide, ?_⟩⟩ ?_ | apply And.intro | exact vrl_flat _ (by first | exact icells_in _ | exact rcells_in _ | exact scells_in _ | exact bcells_in _ | assumption))
end Go.Proofs.Ytdcodicoclecnaa
/- The functions' bodies, translated. Written by a program; no conditions. -/
namespace Go.Proofs.Ytdcodicoclecnaa
open Go.RowKit Lift

/-- record_Peak -/
def crecord_Peak_B26 : ACode :=
  (.block 1
    (.seq
     (.region false [⟨some 28, .load1 (.tmp 6), none, []⟩,
       ⟨some 29, .bin .lss (.tmp 28) (.const (.int .i64 0)), none, []⟩,
       ⟨some 30, .mv (.tmp 29), none, []⟩,
       ⟨some 31, .mv (.tmp 11), (some (some 30, false)), []⟩,
       ⟨some 32, .load1 (.tmp 7), (some (some 30, false)), []⟩,
       ⟨some 33, .bin .gtr (.tmp 31) (.tmp 32), (some (some 30, false)), []⟩,
       ⟨some 34, .pick (.tmp 30) (.const (.bool true)) (.tmp 33), none, []⟩] [28, 29, 30, 31, 32, 33])
    (.cond (.tmp 34)
      (.region false [⟨some 35, .mv (.tmp 10), none, []⟩,
        ⟨some 36, .mv (.tmp 11), none, []⟩,
        ⟨none, .store 1 (.tmp 6) (.tmp 35), none, []⟩,
        ⟨none, .store 1 (.tmp 7) (.tmp 36), none, []⟩] [35, 36])
      .skip)))
def crecord_Peak : ACode :=
  (.seq
   (.region false [⟨some 3, .box (.tmp 0), none, []⟩,
     ⟨some 6, .mem [(.val (.int .i64 0))], none, []⟩,
     ⟨some 7, .mem [(.val (.int .i64 0))], none, []⟩,
     ⟨some 8, .mv (.const (.int .i64 0)), none, []⟩] [])
  (.seq
   (.region false [⟨some 13, .loadN 6 (.tmp 3), none, []⟩,
     ⟨some 14, .mv (.tmp 1), none, []⟩,
     ⟨some 15, .mv (.tmp 2), none, []⟩,
     ⟨some 16, .buildSl 1 1 [(.val (.int .i64 0))] [(0, 1, (.tmp 15))], none, []⟩,
     ⟨some 17, .call (.func 66) [(.tmp 13), (.tmp 14), (.tmp 16)], none, []⟩,
     ⟨some 12, .mv (.tmp 17), none, []⟩,
     ⟨some 18, .ext (.tmp 12) 0, none, []⟩,
     ⟨some 19, .ext (.tmp 12) 1, none, []⟩,
     ⟨some 9, .mv (.tmp 18), none, []⟩,
     ⟨some 8, .mv (.tmp 19), none, []⟩] [13, 14, 15, 16, 17, 12, 18, 19])
  (.seq
   (.seq
    (.region false [⟨some 20, .mv (.tmp 8), none, []⟩,
      ⟨some 21, .bin .neq (.tmp 20) (.const (.int .i64 0)), none, []⟩] [20])
   (.cond (.tmp 21)
     (.seq
      (.region false [⟨some 22, .mv (.tmp 8), none, []⟩,
        ⟨none, .store 1 (.tmp 6) (.const (.int .i64 0)), none, []⟩,
        ⟨none, .store 1 (.tmp 7) (.const (.int .i64 0)), none, []⟩,
        ⟨some 8, .mv (.tmp 22), none, []⟩] [22])
     .ret)
     .skip))
  (.seq
   (.region false [⟨none, .store 1 (.tmp 6) (.const (.int .i64 (-1))), none, []⟩] [])
  (.seq
   (.seq
    (.region false [⟨some 23, .mv (.tmp 9), none, []⟩,
      ⟨some 24, .mv (.tmp 2), none, []⟩,
      ⟨some 25, .call (.func 67) [(.tmp 23), (.tmp 24)], none, []⟩] [23, 24])
   (.block 0
     (.rangeFunc (.tmp 25) [26, 27] [(10, 26), (11, 27)] crecord_Peak_B26)))
  (.seq
   (.seq
    (.region false [⟨some 37, .load1 (.tmp 6), none, []⟩,
      ⟨some 38, .bin .lss (.tmp 37) (.const (.int .i64 0)), none, []⟩] [37])
   (.cond (.tmp 38)
     (.seq
      (.region false [⟨none, .store 1 (.tmp 6) (.const (.int .i64 0)), none, []⟩,
        ⟨none, .store 1 (.tmp 7) (.const (.int .i64 0)), none, []⟩,
        ⟨some 8, .mv (.const (.int .i64 3)), none, []⟩] [])
     .ret)
     .skip))
  (.seq
   (.region true [⟨some 39, .load1 (.tmp 6), none, []⟩,
     ⟨some 40, .load1 (.tmp 7), none, []⟩,
     ⟨none, .store 1 (.tmp 6) (.tmp 39), none, [0]⟩,
     ⟨none, .store 1 (.tmp 7) (.tmp 40), none, [1, 2, 0]⟩,
     ⟨some 8, .mv (.const (.int .i64 0)), none, [3, 1, 2, 0]⟩] [39, 40])
  .ret)))))))
set_option maxRecDepth 100000 in
theorem krecord_Peak : IsCode Try.prog 20 41 crecord_Peak [.cell1 6, .cell1 7, .tmp 8] :=
  ⟨Try.f20, _, [38, 34, 26, 27, 25, 21, 0, 3, 1, 2, 8, 6, 7, 9, 11, 10], Try.func20, rfl, by decide, rfl, by kernel_rfl, by kernel_rfl⟩
/-- law12_sameInts -/
def claw12_sameInts : ACode :=
  (.seq
   (.region false [⟨some 4, .mv (.const (.bool false)), none, []⟩] [])
  (.seq
   (.seq
    (.region false [⟨some 6, .mv (.tmp 0), none, []⟩,
      ⟨some 7, .len_ (.tmp 6), none, []⟩,
      ⟨some 8, .mv (.tmp 1), none, []⟩,
      ⟨some 9, .len_ (.tmp 8), none, []⟩,
      ⟨some 10, .bin .neq (.tmp 7) (.tmp 9), none, []⟩] [6, 7, 8, 9])
   (.cond (.tmp 10)
     (.seq
      (.region false [⟨some 4, .mv (.const (.bool false)), none, []⟩] [])
     .ret)
     .skip))
  (.seq
   (.seq
    (.region false [⟨some 5, .mv (.const (.int .i64 0)), none, []⟩] [])
   (.block 0
     (.loop
       (.seq
        (.seq
         (.region false [⟨some 11, .mv (.tmp 5), none, []⟩,
           ⟨some 12, .mv (.tmp 0), none, []⟩,
           ⟨some 13, .len_ (.tmp 12), none, []⟩,
           ⟨some 14, .bin .lss (.tmp 11) (.tmp 13), none, []⟩] [11, 12, 13])
        (.cond (.tmp 14)
          .skip
          (.exit 0)))
       (.seq
        (.block 1
          (.seq
           (.region true [⟨some 17, .mv (.tmp 0), none, []⟩,
             ⟨some 18, .mv (.tmp 5), none, []⟩,
             ⟨some 19, .iadS 1 (.tmp 17) (.tmp 18), none, [0, 1]⟩,
             ⟨some 20, .load1 (.tmp 19), none, [2, 0, 1]⟩,
             ⟨some 21, .mv (.tmp 1), none, []⟩,
             ⟨some 22, .mv (.tmp 5), none, []⟩,
             ⟨some 23, .iadS 1 (.tmp 21) (.tmp 22), none, [4, 5]⟩,
             ⟨some 24, .load1 (.tmp 23), none, [6, 4, 5]⟩,
             ⟨some 25, .bin .neq (.tmp 20) (.tmp 24), none, [3, 2, 0, 1, 7, 6, 4, 5]⟩] [17, 18, 19, 20, 21, 22, 23, 24])
          (.cond (.tmp 25)
            (.seq
             (.region false [⟨some 4, .mv (.const (.bool false)), none, []⟩] [])
            .ret)
            .skip)))
       (.region false [⟨some 15, .mv (.tmp 5), none, []⟩,
         ⟨some 16, .bin .add (.tmp 15) (.const (.int .i64 1)), none, []⟩,
         ⟨some 5, .mv (.tmp 16), none, []⟩] [15, 16]))))))
  (.seq
   (.region false [⟨some 4, .mv (.const (.bool true)), none, []⟩] [])
  .ret))))
set_option maxRecDepth 100000 in
theorem klaw12_sameInts : IsCode Try.prog 29 26 claw12_sameInts [.tmp 4] :=
  ⟨Try.f29, _, [25, 14, 10, 0, 1, 5, 4], Try.func29, rfl, by decide, rfl, by kernel_rfl, by kernel_rfl⟩
end Go.Proofs.Ytdcodicoclecnaa
/- record: the loop over the samples of a field, whatever its body does. No conditions. -/
set_option linter.unusedSimpArgs false
set_option linter.unusedVariables false
namespace Go.Proofs.Ytdcodicoclecnaa.Lift
open Go Go.RowKit

/-- cells as they are, or with references in place of yields -/
def CT (n : Nat) : List D → List D → Prop
  | [], [] => True
  | x :: c, y :: c' => (y = x ∨ ∃ a r k, x = .yld a r k ∧ y = .yref a) ∧ In (· < n) y ∧ CT n c c'
  | _, _ => False
theorem CT.get {n : Nat} : ∀ {c c' : List D}, CT n c c' → c.length = c'.length ∧ ∀ i (h : i < c.length) (h' : i < c'.length), (c'[i] = c[i] ∨ ∃ a r k, c[i] = .yld a r k ∧ c'[i] = .yref a) ∧ In (· < n) c'[i]
  | [], [], _ => ⟨rfl, fun i h => by simp at h⟩
  | [], _ :: _, h => h.elim
  | _ :: _, [], h => h.elim
  | x :: c, y :: c', h => by
    obtain ⟨h1, h2⟩ := CT.get h.2.2
    refine ⟨by simp [h1], fun i hi hi' => ?_⟩
    cases i with
    | zero => exact ⟨h.1, h.2.1⟩
    | succ i => exact h2 i (by simpa using hi) (by simpa using hi')
theorem CT.refl {n : Nat} : ∀ {c : List D}, (∀ d ∈ c, In (· < n) d) → CT n c c
  | [], _ => trivial
  | d :: c, h => ⟨.inl rfl, h d (List.mem_cons_self ..), CT.refl fun x hx => h x (List.mem_cons_of_mem _ hx)⟩
/-- fewer objects, fewer names, references in place of yields -/
theorem wk_ref {pre : List Nat} {s s' : St} (hpre : ∀ g ∈ pre, g < s'.nx) (hE : EL s'.nx s.env s'.env) (hH : ∀ g c', hget s'.hp g = some c' → g < s'.nx ∧ ∃ c, hget s.hp g = some c ∧ CT s'.nx c c') : Wk pre s s' := by
  rintro C a w rfl ⟨β, Z, h, hβ⟩
  obtain ⟨β', hb'⟩ : ∃ β' : Bet, β' = fun g => if g < s'.nx then β g else none := ⟨_, rfl⟩
  have eq : ∀ g, g < s'.nx → β' g = β g := fun g hg => by rw [hb']; exact if_pos hg
  have no : ∀ g, s'.nx ≤ g → β' g = none := fun g hg => by rw [hb']; exact if_neg (by omega)
  have back : ∀ g B, β' g = some B → β g = some B := fun g B hB => by
    by_cases hg : g < s'.nx
    · rw [← eq g hg]; exact hB
    · rw [no g (by omega)] at hB; cases hB
  refine ⟨β', Z, ⟨h.size, h.defers, fun t => ?_, fun g c hc => ?_, fun g g' c c' B hc hc' hb hb'' => ?_, h.fr, h.z0, h.old, fun g c B hc hB => ?_, fun g hg B hB => ?_, h.zlt⟩, no⟩
  · show Rep w _ Z _ (eget s'.env t)
    rcases hE.get t with h1 | ⟨h1, h2⟩
    · rw [h1]; exact .bot _
    · rw [h1] at h2 ⊢
      exact (h.env t).rename h2 eq
  · obtain ⟨h1, c0, h2, h3⟩ := hH g c hc
    obtain ⟨h4, h5⟩ := h3.get
    rcases h.objs g c0 h2 with ⟨h6, h7⟩ | ⟨B, cs, e, hO⟩
    · subst h6
      have : c = [] := List.length_eq_zero_iff.1 h4.symm
      subst this
      exact .inl ⟨rfl, by rw [eq g h1]; exact h7⟩
    · refine .inr ⟨B, cs, e, by rw [eq g h1]; exact hO.at_, hO.ours, hO.block, by rw [← h4]; exact hO.fits, fun i hi => ?_⟩
      have hi0 : i < c0.length := by omega
      obtain ⟨h8, h9⟩ := h5 i hi0 hi
      have hr := hO.rep i hi0
      rcases h8 with h8 | ⟨a, r, k, h8, h10⟩
      · rw [h8] at h9 ⊢
        exact hr.rename h9 eq
      · rw [h8] at hr
        rw [h10] at h9 ⊢
        cases h9 with
        | yref _ ha =>
          generalize cs.getD i undef = v at hr
          cases hr with
          | yld _ l _ _ y1 => exact .yref a l ((eq a ha).trans y1)
  · obtain ⟨_, c1, h2, _⟩ := hH g c hc
    obtain ⟨_, c2, h3, _⟩ := hH g' c' hc'
    exact h.inj g g' c1 c2 B h2 h3 (back _ _ hb) (back _ _ hb'')
  · obtain ⟨_, c1, h2, _⟩ := hH g c hc
    exact h.orig g c1 B h2 (back _ _ hB)
  · have h1 := h.ext g hg B hB
    rw [eq g (hpre g hg)]; exact h1
theorem hget_put (h : Hp) (t u : Nat) (d : List D) : hget (hput h t d) u = if t = u then some d else hget h u := by
  induction h with
  | nil => simp [hput, hget]
  | cons x r ih =>
    obtain ⟨k, e⟩ := x
    simp only [hput]
    by_cases hk : k = t
    · subst hk
      rw [if_pos rfl]
      simp only [hget]
      split <;> rfl
    · rw [if_neg hk]
      simp only [hget, ih]
      by_cases h1 : k = u
      · subst h1; rw [if_pos rfl, if_pos rfl, if_neg fun h => hk h.symm]
      · rw [if_neg h1, if_neg h1]
theorem kOK_of {k : List D} (h : k.all (noY 9) = true) : kOK k = true := by
  refine List.all_eq_true.2 fun d hd => ?_
  have h1 := List.all_eq_true.1 h d hd
  cases d <;> first | exact h1 | (simp [noY] at h1)
theorem LowH.up {n m : Nat} {h : Hp} (h1 : LowH n h) (hm : n ≤ m) : LowH m h := ⟨h1.get hm, h1.2⟩
end Go.Proofs.Ytdcodicoclecnaa.Lift
namespace Go.Proofs.Ytdcodicoclecnaa
open Go Go.RowKit Lift

/-- the objects of a loop over samples -/
def smH (l : Lay) (frs : List (List Int)) (f : Fl) (h : Hp) : Hp := (96, tpC l frs) :: (120, [.ptr 96 0]) :: (121, flC f) :: (808, [.yref 800]) :: h
theorem flC_in (S : Nat → Prop) (f : Fl) : ∀ d ∈ flC f, In S d := by
  intro d hd; simp [flC] at hd; rcases hd with rfl | rfl | rfl | rfl | rfl | rfl | rfl | rfl | rfl <;> exact .val _
theorem smT_low {f : Fl} {h : Hp} (h1 : LowH 800 h) : LowH 1000 ((120, [.ptr 96 0]) :: (121, flC f) :: (808, [.yref 800]) :: h) :=
  .cons (nlt rfl) (by intro d hd; simp at hd; subst hd; exact .ptr _ _ (nlt rfl)) rfl (.cons (nlt rfl) (flC_in _ f) rfl (.cons (nlt rfl) (by intro d hd; simp at hd; subst hd; exact .yref _ (nlt rfl)) rfl (h1.up (nle rfl))))
set_option maxRecDepth 100000 in
set_option maxHeartbeats 4000000 in
/-- the round of a good frame -/
theorem samples_round {n : Nat} {ps : List Nat} {asg : List (Nat × Nat)} {cb : ACode} {r : Loop} (hr : LoopIs Try.prog n ps asg cb r) (hps : ps.length = 2) (l : Lay) (frs : List (List Int)) (f : Fl) (hf : FOk l.words f) (hm : FrIn frs)
    (pin : List Nat) (hpin : ∀ g ∈ pin, g < 800) (k : List D) (hk : k.all (noY 9) = true) (hkp : ∀ d ∈ k, In (· ∈ pin) d) (hp : Nat → Hp) (hlow : ∀ i, LowH 800 (hp i))
    (i : Nat) (hi : i < frs.length) (hs : 0 ≤ subF l (frm frs i)) (hno : smp l f (frm frs i) = none → hp (i + 1) = hp i)
    (hb : ∀ v, smp l f (frm frs i) = some v → AWb true Try.prog n (1000 :: 800 :: 808 :: pin) cb (fun e s => e = .norm ∧ Wk (1000 :: 800 :: 808 :: pin) s ⟨[], smH l frs f (hp (i + 1)), 1500⟩) ⟨bodyE k ps [dI i, dI v] asg, smH l frs f (hp i), 1500⟩) :
    AWb true Try.prog 35 (1000 :: 800 :: 808 :: pin) cprecord_tape_samples_S1_B8 (fun e s => e = .norm ∧ Wk (1000 :: 800 :: 808 :: pin) s ⟨[], smH l frs f (hp (i + 1)), 1300⟩) ⟨bodyE [.yld 800 r k, .ptr 120 0, .ptr 121 0, .ptr 808 0] [8, 9] [dI i, dI (subF l (frm frs i))] [(4, 8), (5, 9)], smH l frs f (hp i), 1300⟩ := by
  have hmax : maxLen = 9223372036854775807 := rfl
  have hpre : ∀ g ∈ 1000 :: 800 :: 808 :: pin, g < 1300 := by
    intro g hg
    simp only [List.mem_cons] at hg
    rcases hg with rfl | rfl | rfl | hg
    · omega
    · omega
    · omega
    · have := hpin g hg; omega
  have hL : ∀ i, LowH 1000 (smH l frs f (hp i)) := fun i => .cons (nlt rfl) (tpC_in _ l frs) rfl (smT_low (hlow i))
  have ci := in_sub_ac hf (subF l (frm frs i))
  have hfm := hm.m i
  have hfo := subF_ok hs
  by_cases hin : inSub f (subF l (frm frs i))
  case neg =>
    have hsm : smp l f (frm frs i) = none := if_neg fun h => hin h.2
    rw [hno hsm]
    rw [inB_f hin] at ci
    have hfin : ∀ s : St, s.hp = smH l frs f (hp i) → (fun (e : AExit) s => e = .norm ∧ Wk (1000 :: 800 :: 808 :: pin) s ⟨[], smH l frs f (hp i), 1300⟩) .norm s := fun s h => ⟨rfl, wk_low hpre h.symm trivial (by rw [h]; exact (hL i).get (nle rfl))⟩
    generalize (fun (e : AExit) (s : St) => e = .norm ∧ Wk (1000 :: 800 :: 808 :: pin) s ⟨[], smH l frs f (hp i), 1300⟩) = QQ at hfin
    unfold cprecord_tape_samples_S1_B8
    unfold smH tpC flC at *
    refine aw_block (aw_seq (aw_region ?_))
    simp (config := {maxSteps := 10000000}) (disch := first | exact okYes (by kernel_rfl) | omega) only [thenQ, List.length, Nat.zero_add, Nat.reduceAdd, Nat.reduceMul, bodyE, asgE, parE, envOf, dI, eput_c, Nat.reduceBEq, eput_n, cond_false, eget_c, ↓eget_h, dB, ARun_none, AOpRun, aexec, FSt.ev, St.F, hget_c, ↓hget_h, Nat.reduceLeDiff, ↓reduceIte, List.drop, List.take, AGo_ok, St.app, putO, hups, List.map]
    refine acall0 ci ?_
    simp (config := {maxSteps := 10000000}) (disch := first | exact okYes (by kernel_rfl) | omega) only [Nat.reduceAdd, St.app, putO, dB, eput_c, Nat.reduceBEq, eput_n, cond_false, hups, ARun_none, AOpRun, aexec, FSt.ev, St.F, eget_c, ↓eget_h, AGo_ok, List.map, ARun_some, AG_ft, Bool.false_eq_true, ↓reduceIte, ARun_nil, dropE_c, inL_c, inL_n, beq_self_eq_true, cond_true, dropE_n]
    refine aw_condF rfl (aw_skip ?_)
    simp only [thenQ, blockQ, if_true, if_false, Nat.reduceEqDiff, reduceCtorEq]
    exact hfin _ rfl
  rw [inB_t hin] at ci
  obtain ⟨hfl, hfa⟩ := hfo
  have w1 := hf.w1
  have w2 := hf.w2
  have hwl : f.word.toNat < (frm frs i).length := by omega
  have hwI : f.word < ((frm frs i).length : Int) := by omega
  have hw0 : 0 ≤ f.word := by omega
  have h4 : wOk ((frm frs i)[f.word.toNat]?.getD 0) = true := by
    rw [List.getElem?_eq_getElem hwl]
    exact List.all_eq_true.1 hfa _ (List.getElem_mem hwl)
  have h5 : 0 ≤ (frm frs i)[f.word.toNat]?.getD 0 ∧ (frm frs i)[f.word.toNat]?.getD 0 ≤ 4095 := by unfold wOk at h4; simpa using h4
  have hsm : smp l f (frm frs i) = some (valI f (rawI f ((frm frs i)[f.word.toNat]?.getD 0).toNat)) := if_pos ⟨hs, hin⟩
  have g2 := ints_gd (frm frs i) f.word.toNat hwl
  have hb2 := hb _ hsm
  have hx : (frm frs i)[f.word.toNat]?.getD 0 = ((((frm frs i)[f.word.toNat]?.getD 0).toNat : Nat) : Int) := (Int.toNat_of_nonneg h5.1).symm
  rw [hx] at g2
  have hxl : ((frm frs i)[f.word.toNat]?.getD 0).toNat < 4096 := by omega
  generalize ((frm frs i)[f.word.toNat]?.getD 0).toNat = x at g2 hb2 hxl
  have g1 := rows_gd frs i hi
  rw [show frs[i]?.getD [] = frm frs i from rfl] at g1
  have cr := raw_ac hf x hxl
  have cv := value_ac hf x
  have hfin : ∀ s : St, s.hp = smH l frs f (hp (i + 1)) → (fun (e : AExit) s => e = .norm ∧ Wk (1000 :: 800 :: 808 :: pin) s ⟨[], smH l frs f (hp (i + 1)), 1300⟩) .norm s := fun s h => ⟨rfl, wk_low hpre h.symm trivial (by rw [h]; exact (hL (i + 1)).get (nle rfl))⟩
  generalize (fun (e : AExit) (s : St) => e = .norm ∧ Wk (1000 :: 800 :: 808 :: pin) s ⟨[], smH l frs f (hp (i + 1)), 1300⟩) = QQ at hfin
  have hL2 := hL
  have ki : (i : Int) < (frs.length : Int) := by omega
  generalize frm frs i = fr at *
  unfold cprecord_tape_samples_S1_B8
  unfold smH tpC flC at *
  refine aw_block (aw_seq (aw_region_yieldD hr
    [⟨some 10, .loadN 9 (.tmp 2), none, []⟩,
       ⟨some 11, .mv (.tmp 5), none, []⟩,
       ⟨some 12, .call (.func 77) [(.tmp 10), (.tmp 11)], none, [0, 1]⟩,
       ⟨some 13, .mv (.tmp 12), none, [2, 0, 1]⟩,
       ⟨some 14, .load1 (.tmp 3), (some (some 13, true)), [3, 2, 0, 1]⟩,
       ⟨some 15, .mv (.tmp 4), (some (some 13, true)), [3, 2, 0, 1]⟩,
       ⟨some 16, .loadN 9 (.tmp 2), (some (some 13, true)), [3, 2, 0, 1]⟩,
       ⟨some 17, .loadN 9 (.tmp 2), (some (some 13, true)), [3, 2, 0, 1]⟩,
       ⟨some 18, .load1 (.tmp 1), (some (some 13, true)), [3, 2, 0, 1]⟩,
       ⟨some 19, .nilc (.tmp 18), (some (some 13, true)), [8, 3, 2, 0, 1]⟩,
       ⟨some 20, .fad 6 (.tmp 19), (some (some 13, true)), [9, 8, 3, 2, 0, 1]⟩,
       ⟨some 21, .load1 (.tmp 20), (some (some 13, true)), [10, 9, 8, 3, 2, 0, 1]⟩,
       ⟨some 22, .mv (.tmp 4), (some (some 13, true)), [3, 2, 0, 1]⟩,
       ⟨some 23, .iadS 1 (.tmp 21) (.tmp 22), (some (some 13, true)), [11, 10, 9, 8, 3, 2, 0, 1, 12]⟩,
       ⟨some 24, .load1 (.tmp 23), (some (some 13, true)), [13, 11, 10, 9, 8, 3, 2, 0, 1, 12]⟩,
       ⟨some 25, .fad 0 (.tmp 2), (some (some 13, true)), [3, 2, 0, 1]⟩,
       ⟨some 26, .fad 0 (.tmp 25), (some (some 13, true)), [15, 3, 2, 0, 1]⟩,
       ⟨some 27, .load1 (.tmp 26), (some (some 13, true)), [16, 15, 3, 2, 0, 1]⟩,
       ⟨some 28, .iadS 1 (.tmp 24) (.tmp 27), (some (some 13, true)), [14, 13, 11, 10, 9, 8, 3, 2, 0, 1, 12, 17, 16, 15]⟩,
       ⟨some 29, .load1 (.tmp 28), (some (some 13, true)), [18, 14, 13, 11, 10, 9, 8, 3, 2, 0, 1, 12, 17, 16, 15]⟩,
       ⟨some 30, .call (.func 115) [(.tmp 17), (.tmp 29)], (some (some 13, true)), [7, 3, 2, 0, 1, 19, 18, 14, 13, 11, 10, 9, 8, 12, 17, 16, 15]⟩,
       ⟨some 31, .call (.func 114) [(.tmp 16), (.tmp 30)], (some (some 13, true)), [6, 3, 2, 0, 1, 20, 7, 19, 18, 14, 13, 11, 10, 9, 8, 12, 17, 16, 15]⟩]
    [⟨some 33, .un .not (.tmp 32), (some (some 13, true)), [22, 4, 3, 2, 0, 1, 5, 21, 6, 20, 7, 19, 18, 14, 13, 11, 10, 9, 8, 12, 17, 16, 15]⟩,
       ⟨some 34, .pick (.tmp 13) (.tmp 33) (.const (.bool false)), none, [3, 2, 0, 1, 23, 22, 4, 5, 21, 6, 20, 7, 19, 18, 14, 13, 11, 10, 9, 8, 12, 17, 16, 15]⟩] (by decide) (by decide) ?_))
  simp (config := {maxSteps := 10000000}) (disch := first | exact okYes (by kernel_rfl) | omega) only [List.length, Nat.zero_add, Nat.reduceAdd, Nat.reduceMul, bodyE, asgE, parE, envOf, dI, eput_c, Nat.reduceBEq, eput_n, cond_false, eget_c, ↓eget_h, dB, ARun_none, AOpRun, aexec, FSt.ev, St.F, hget_c, ↓hget_h, Nat.reduceLeDiff, ↓reduceIte, List.drop, List.take, AGo_ok, St.app, putO, hups, List.map]
  refine acall0 ci ?_
  simp (config := {maxSteps := 10000000}) (disch := first | exact okYes (by kernel_rfl) | omega) only [Nat.reduceAdd, St.app, putO, dB, eput_c, Nat.reduceBEq, eput_n, cond_false, hups, ARun_none, AOpRun, aexec, FSt.ev, St.F, eget_c, ↓eget_h, AGo_ok, List.map, ARun_some, AG_tt, Option.map, run1, hget_c, ↓hget_h, Nat.zero_add, List.getElem?_cons_zero, List.length, Nat.reduceLeDiff, ↓reduceIte, List.drop, List.take, beq_self_eq_true, cond_true, List.getElem?_cons_succ, Int.natCast_nonneg, rows_all, and_self, opt1, Int.toNat_natCast, g1, hw0, ints_all, g2]
  refine acall0 cr ?_
  simp (config := {maxSteps := 10000000}) (disch := first | exact okYes (by kernel_rfl) | omega) only [Nat.reduceAdd, St.app, putO, dI, eput_c, Nat.reduceBEq, eput_n, cond_false, hups, ARun_some, eget_c, ↓eget_h, AG_tt, AOpRun, FSt.ev, List.map, St.F]
  refine acall0 cv ?_
  simp (config := {maxSteps := 10000000}) (disch := first | exact okYes (by kernel_rfl) | omega) only [Nat.reduceAdd, St.app, putO, dI, eput_c, Nat.reduceBEq, eput_n, cond_false, hups, ARun_nil]
  refine yieldKD (1000 :: 800 :: 808 :: pin) [(13, dB true)] [dI i, dI (valI f (rawI f x))] (.inr ⟨rfl, 0, rfl⟩) rfl rfl hr hps.symm rfl (kOK_of hk) (hL2 i).2 (fun g hg => hg) ⟨.inr ⟨rfl, .val _⟩, trivial⟩ ?_
  refine aw_wk (wk_up (m := 1500) (by decide)) (aw_post hb2 ?_)
  rintro e s ⟨rfl, hw⟩
  refine ⟨_, hw, yieldQD (hL2 (i + 1)).2 (nle rfl) ?_⟩
  simp (config := {maxSteps := 10000000}) (disch := first | exact okYes (by kernel_rfl) | omega) only [Nat.reduceAdd, Nat.reduceMul, Nat.reduceSub, thenQ, List.length, Nat.zero_add, putO, dB, eput_c, Nat.reduceBEq, eput_n, cond_false, dI, ARun_some, eget_c, beq_self_eq_true, eget_n, cond_true, AG_tt, AOpRun, aexec, FSt.ev, St.F, ↓eget_h, Bool.not_true, AGo_ok, St.app, hups, List.map, ARun_none, ↓reduceIte, ARun_nil, dropE_c, inL_c, inL_n, dropE_n]
  refine aw_condF rfl (aw_skip ?_)
  simp only [thenQ, blockQ, if_true, if_false, Nat.reduceEqDiff, reduceCtorEq]
  exact hfin _ rfl
set_option maxRecDepth 100000 in
set_option maxHeartbeats 4000000 in
theorem samples_hit {n : Nat} {ps : List Nat} {asg : List (Nat × Nat)} {cb : ACode} {r : Loop} (hr : LoopIs Try.prog n ps asg cb r) (hps : ps.length = 2) (l : Lay) (frs : List (List Int)) (hn : frs.length ≤ 200) (hok : LayOk l) (f : Fl) (hf : FOk l.words f) (hm : FrIn frs)
    (pin : List Nat) (hpin : ∀ g ∈ pin, g < 800) (k : List D) (hk : k.all (noY 9) = true) (hkp : ∀ d ∈ k, In (· ∈ pin) d) (h96 : 96 ∈ pin) (h120 : 120 ∈ pin) (h121 : 121 ∈ pin) (hp : Nat → Hp) (hlow : ∀ i, LowH 800 (hp i)) {Q : AExit → St → Prop} {env' : Env}
    (hno : ∀ i, i < frs.length → smp l f (frm frs i) = none → hp (i + 1) = hp i)
    (hb : ∀ i v, i < frs.length → smp l f (frm frs i) = some v → AWb true Try.prog n (1000 :: 800 :: 808 :: pin) cb (fun e s => e = .norm ∧ Wk (1000 :: 800 :: 808 :: pin) s ⟨[], smH l frs f (hp (i + 1)), 1500⟩) ⟨bodyE k ps [dI i, dI v] asg, smH l frs f (hp i), 1500⟩)
    (hQ : Q .norm ⟨env', smH l frs f (hp frs.length), 1100⟩) : AWb false Try.prog 35 pin cprecord_tape_samples_S1 (RangeQ Q env') ⟨envOf 0 [.yld 800 r k, .ptr 120 0, .ptr 121 0], (96, tpC l frs) :: (120, [.ptr 96 0]) :: (121, flC f) :: hp 0, 808⟩ := by
  have hkO : kOK [.yld 800 r k, .ptr 120 0, .ptr 121 0, .ptr 808 0] = true := by simp only [kOK, List.all_cons, hk]; rfl
  have hpre : ∀ m, 809 ≤ m → ∀ g ∈ 800 :: 808 :: pin, g < m := fun m hm g hg => by
    simp only [List.mem_cons] at hg
    rcases hg with rfl | rfl | hg
    · omega
    · omega
    · have := hpin g hg; omega
  have hky : ∀ S : Nat → Prop, S 800 → (∀ g ∈ pin, S g) → In S (.yld 800 r k) := fun S h1 h2 => .yld _ _ _ h1 fun d hd => (hkp d hd).mono fun g hg => h2 g hg
  have hkp2 : ∀ d ∈ [D.yld 800 r k, .ptr 120 0, .ptr 121 0, .ptr 808 0], In (· ∈ 800 :: 808 :: pin) d := by
    intro d hd
    simp only [List.mem_cons, List.not_mem_nil, or_false] at hd
    rcases hd with rfl | rfl | rfl | rfl
    · exact hky _ (by simp) fun g hg => by simp [hg]
    · exact .ptr _ _ (by simp [h120])
    · exact .ptr _ _ (by simp [h121])
    · exact .ptr _ _ (by simp)
  have h8 : hget (hp 0) 808 = none := by
    cases h : hget (hp 0) 808 with
    | none => rfl
    | some c => have := ((hlow 0).1 _ _ h).1; omega
  unfold cprecord_tape_samples_S1
  refine aw_seq (aw_region ?_)
  simp (config := {maxSteps := 10000000}) (disch := first | exact okYes (by kernel_rfl) | omega) only [thenQ, List.length, Nat.zero_add, Nat.reduceMul, Nat.reduceAdd, envOf, ARun_none, AOpRun, aexec, D.isBot, FSt.ev, St.F, ↓eget_h, Bool.false_eq_true, Option.isSome, hget_c, Nat.reduceBEq, h8, cond_false, or_self, ↓reduceIte, D.cells, AGo_ok, St.app, putO, eput_c, eput_n, hups, hput_c, List.map, ARun_nil, dropE_c, inL_n, dropE_n]
  refine aw_seq (aw_region ?_)
  simp (config := {maxSteps := 10000000}) (disch := first | exact okYes (by kernel_rfl) | omega) only [thenQ, List.length, Nat.zero_add, Nat.reduceAdd, Nat.reduceMul, ARun_none, AOpRun, aexec, Option.map, run1, FSt.ev, St.F, eget_c, Nat.reduceBEq, ↓eget_h, cond_false, hget_c, ↓hget_h, List.getElem?_cons_zero, AGo_ok, St.app, putO, eput_c, eput_n, hups, List.map, ARun_nil, dropE_c, inL_c, inL_n, beq_self_eq_true, cond_true, dropE_n]
  refine aw_wk (s' := ⟨[(0, .yld 800 r k), (1, .ptr 120 0), (2, .ptr 121 0), (3, .ptr 808 0), (7, .fn 72 [.ptr 96 0] [])], smH l frs f (hp 0), 1000⟩) (wk_ref (fun g hg => by have := hpin g hg; show g < 1000; omega)
    ⟨rfl, hky _ (nlt rfl) (fun g hg => by have := hpin g hg; show g < 1000; omega), rfl, .ptr _ _ (nlt rfl), rfl, .ptr _ _ (nlt rfl), rfl, .ptr _ _ (nlt rfl), rfl, .fn _ _ _ (by intro d hd; simp at hd; subst hd; exact .ptr _ _ (nlt rfl)) (by simp), trivial⟩ ?_) ?_
  · intro g c hc
    simp only [smH, hget] at hc
    simp only [hget, hget_put]
    split at hc
    · cases hc; rename_i h; subst h; exact ⟨nlt rfl, _, rfl, CT.refl (tpC_in _ l frs)⟩
    split at hc
    · cases hc; rename_i h; subst h; exact ⟨nlt rfl, _, rfl, CT.refl (by intro d hd; simp at hd; subst hd; exact .ptr _ _ (nlt rfl))⟩
    split at hc
    · cases hc; rename_i h; subst h; exact ⟨nlt rfl, _, rfl, CT.refl (flC_in _ f)⟩
    split at hc
    · cases hc; rename_i h; subst h; exact ⟨nlt rfl, _, rfl, ⟨.inr ⟨_, _, _, rfl, rfl⟩, .yref _ (nlt rfl), trivial⟩⟩
    · have h1 := (hlow 0).1 g c hc
      refine ⟨by show g < 1000; omega, c, ?_, CT.refl fun d hd => (h1.2 d hd).mono fun x hx => by show x < 1000; omega⟩
      rename_i q1 q2 q3 q4
      simp [q1, q2, q3, q4, hc]
  refine aw_block (aw_range (800 :: 808 :: pin) [] [.yld 800 r k, .ptr 120 0, .ptr 121 0, .ptr 808 0] kprecord_tape_good rfl (by simp) ⟨.inr rfl, .inr rfl, .inr rfl, .inr rfl, trivial⟩ hkO ?_ (fun g hg => by simp [hg]) trivial (fun r2 hr2 => ?_))
  · show hget (smH l frs f (hp 0)) 1000 = none
    simp only [smH, hget, Nat.reduceEqDiff, if_false]
    cases h : hget (hp 0) 1000 with
    | none => rfl
    | some c => have := (hlow 0).1 _ _ h; omega
  refine good_hit hr2 rfl l frs hn (800 :: 808 :: pin) (hpre 1000 (nle rfl)) [.yld 800 r k, .ptr 120 0, .ptr 121 0, .ptr 808 0] hkO hkp2 (by simp [h96]) (fun i => (120, [.ptr 96 0]) :: (121, flC f) :: (808, [.yref 800]) :: hp i) (fun i => smT_low (hlow i)) (fun i hi hs => ?_) (fun i hi hs => ?_) ?_
  · rw [hno i hi (if_neg fun h => hs h.1)]
  · exact samples_round hr hps l frs f hf hm pin hpin k hk hkp hp hlow i hi hs (hno i hi) (fun v hv => hb i v hi hv)
  · simp only [blockQ]
    exact rangeQ (.inl rfl) ((smT_low (hlow _)).cons (nlt rfl) (tpC_in _ l frs) rfl).2 hQ
end Go.Proofs.Ytdcodicoclecnaa
/- record: a field's samples, a tape that has fields. No conditions. -/
set_option linter.unusedSimpArgs false
set_option linter.unusedVariables false
namespace Go.Proofs.Ytdcodicoclecnaa
open Go.RowKit Lift

theorem fAt_ok {l : Lay} (h : LayOk l) {k : Nat} (hk : k < l.fl.length) : FOk l.words (fAt l k) := h.fo k hk
set_option maxRecDepth 100000 in
set_option maxHeartbeats 2000000 in
theorem samples_ac (l : Lay) (frs : List (List Int)) (k : Nat) (hk : k < l.fl.length) (hn : l.fl.length ≤ 1000) : AC Try.prog 67 [.ptr 96 0, dI k] [(96, tpC l frs)] [(96, some (tpC l frs)), (120, some [.ptr 96 0]), (121, some (flC (fAt l k)))] (.fn 113 [] [.ptr 120 0, .ptr 121 0]) := by
  refine kprecord_tape_samples.ac (n0 := 200) (by simp) ⟨.ptr _ _ (by omega), .val _, trivial⟩ ⟨⟨by omega, tpC_in _ _ _⟩, trivial⟩ rfl ?_
  unfold cprecord_tape_samples
  unfold tpC
  have g1 : (fls l.fl)[k]? = some (flC (fAt l k)) := fls_gd l.fl k hk
  unfold flC at g1 ⊢
  have ki : (k : Int) < (l.fl.length : Int) := by omega
  have fa := fls_all l.fl
  have fl := fls_len l.fl
  (have hg : (987654321 : Nat) - 987654321 = 0 := rfl; have hr := hg; repeat' (first | refine aw_seq ?_ | (refine aw_skip ?_; repeat' (first | with_reducible refine thenQ_n ?_ | with_reducible refine blockQ_n ?_ | with_reducible refine thenQ_e ?_ | with_reducible refine blockQ_t ?_ | with_reducible refine blockQ_f (by decide) ?_)) | (refine aw_exit ?_; repeat' (first | with_reducible refine thenQ_n ?_ | with_reducible refine blockQ_n ?_ | with_reducible refine thenQ_e ?_ | with_reducible refine blockQ_t ?_ | with_reducible refine blockQ_f (by decide) ?_)) | refine aw_ret ?_ | refine aw_block ?_ | refine aw_condT rfl ?_ | refine aw_condF rfl ?_ | ((first | refine aw_hide fun K hK => aw_region ?_ | refine ago_if (by omega) ?_ | skip); simp (config := {maxSteps := 10000000}) (disch := first | exact okYes (by kernel_rfl) | omega) only [List.length, Nat.zero_add, Nat.reduceAdd, Nat.reduceMul, envOf, dI, ARun_none, AOpRun, aexec, D.isBot, FSt.ev, St.F, ↓eget_h, Bool.false_eq_true, Option.isSome, hget_c, Nat.reduceBEq, hget_n, cond_false, or_self, ↓reduceIte, D.cells, AGo_ok, St.app, putO, eput_c, eput_n, hups, hput_c, hput_n, List.map, ARun_nil, dropE_c, inL_n, dropE_n, Option.map, run1, eget_c, ↓hget_h, List.getElem?_cons_zero, beq_self_eq_true, cond_true, List.getElem?_cons_succ, Int.natCast_nonneg, fa, and_self, opt1, Int.toNat_natCast, g1, dB, Nat.reduceLeDiff, List.take, fillD, ne_eq, not_true_eq_false, Nat.reduceGT, splice, List.nil_append, List.drop, List.append_nil, List.all, D.leaf, Bool.and_true, inL_c]) | (subst hK; repeat' (first | with_reducible refine thenQ_n ?_ | with_reducible refine blockQ_n ?_ | with_reducible refine thenQ_e ?_ | with_reducible refine blockQ_t ?_ | with_reducible refine blockQ_f (by decide) ?_))))
  refine end_to [] [(96, 96), (120, 200), (121, 288)] (by first | exact .inl rfl | exact .inr rfl) rfl (by kernel_rfl) (by kernel_rfl) (by kernel_rfl) ?_ ?_ <;> repeat' (first | exact trivial | exact vr_val _ | exact vr_list _ | exact vr_ptr _ _ _ rfl | apply vr_fn | refine And.intro ⟨_, rfl, _, rfl, by decide, ?_⟩ ?_ | apply And.intro)
  all_goals first | exact tpC_in _ _ _ | exact flC_in _ _
set_option maxRecDepth 100000 in
set_option maxHeartbeats 2000000 in
theorem has_ac (l : Lay) (frs : List (List Int)) (x : Int) (hn : l.fl.length ≤ 1000) : AC Try.prog 112 [.ptr 96 0, dI x] [(96, tpC l frs)] [(96, some (tpC l frs))] (dB (wI x 0 ((l.fl.length : Int) - 1))) := by
  refine kprecord_tape_has.ac (n0 := 200) (by simp) ⟨.ptr _ _ (by omega), .val _, trivial⟩ ⟨⟨by omega, tpC_in _ _ _⟩, trivial⟩ rfl ?_
  unfold cprecord_tape_has
  unfold tpC
  have fl := fls_len l.fl
  (have hg : (987654321 : Nat) - 987654321 = 0 := rfl; have hr := hg; repeat' (first | refine aw_seq ?_ | (refine aw_skip ?_; repeat' (first | with_reducible refine thenQ_n ?_ | with_reducible refine blockQ_n ?_ | with_reducible refine thenQ_e ?_ | with_reducible refine blockQ_t ?_ | with_reducible refine blockQ_f (by decide) ?_)) | (refine aw_exit ?_; repeat' (first | with_reducible refine thenQ_n ?_ | with_reducible refine blockQ_n ?_ | with_reducible refine thenQ_e ?_ | with_reducible refine blockQ_t ?_ | with_reducible refine blockQ_f (by decide) ?_)) | refine aw_ret ?_ | refine aw_block ?_ | refine aw_condT rfl ?_ | refine aw_condF rfl ?_ | ((first | refine aw_hide fun K hK => aw_region ?_ | refine acall0 (within_ac _ _ _) ?_ | refine ago_if (by omega) ?_ | skip); simp (config := {maxSteps := 10000000}) (disch := first | exact okYes (by kernel_rfl) | omega) only [List.length, Nat.zero_add, Nat.reduceMul, Nat.reduceAdd, envOf, dI, ARun_none, AOpRun, aexec, FSt.ev, AGo_ok, St.app, putO, eput_c, Nat.reduceBEq, eput_n, cond_false, hups, List.map, ARun_nil, dropE_c, inL_n, dropE_n, St.F, eget_c, ↓eget_h, Option.map, run1, hget_c, beq_self_eq_true, hget_n, cond_true, List.getElem?_cons_succ, List.getElem?_cons_zero, fl, isSh, Bool.false_eq_true, ↓reduceIte, abin, fits, dB, inL_c]) | (subst hK; repeat' (first | with_reducible refine thenQ_n ?_ | with_reducible refine blockQ_n ?_ | with_reducible refine thenQ_e ?_ | with_reducible refine blockQ_t ?_ | with_reducible refine blockQ_f (by decide) ?_))))
  all_goals (refine end_to [] [(96, 96)] (by first | exact .inl rfl | exact .inr rfl) rfl (by kernel_rfl) (by kernel_rfl) (by kernel_rfl) ?_ ?_ <;> repeat' (first | exact trivial | exact vr_val _ | exact vr_list _ | refine And.intro ⟨_, rfl, _, rfl, by decide, ?_⟩ ?_ | apply And.intro))
  all_goals exact tpC_in _ _ _
set_option maxRecDepth 100000 in
set_option maxHeartbeats 2000000 in
theorem hasF_ac (l : Lay) (frs : List (List Int)) (x : Int) (hn : l.fl.length ≤ 1000) : AC Try.prog 111 [dI x, .ptr 152 0] [(96, tpC l frs), (152, [.ptr 96 0])] [(96, some (tpC l frs)), (152, some [.ptr 96 0])] (dB (!wI x 0 ((l.fl.length : Int) - 1))) := by
  refine krecord_withField_S1.ac (n0 := 200) (by simp) ⟨.val _, .ptr _ _ (by omega), trivial⟩ ⟨⟨by omega, tpC_in _ _ _⟩, ⟨by omega, by intro d hd; simp at hd; subst hd; exact .ptr _ _ (by omega)⟩, trivial⟩ rfl ?_
  unfold crecord_withField_S1
  (have hg : (987654321 : Nat) - 987654321 = 0 := rfl; have hr := hg; repeat' (first | refine aw_seq ?_ | (refine aw_skip ?_; repeat' (first | with_reducible refine thenQ_n ?_ | with_reducible refine blockQ_n ?_ | with_reducible refine thenQ_e ?_ | with_reducible refine blockQ_t ?_ | with_reducible refine blockQ_f (by decide) ?_)) | (refine aw_exit ?_; repeat' (first | with_reducible refine thenQ_n ?_ | with_reducible refine blockQ_n ?_ | with_reducible refine thenQ_e ?_ | with_reducible refine blockQ_t ?_ | with_reducible refine blockQ_f (by decide) ?_)) | refine aw_ret ?_ | refine aw_block ?_ | refine aw_condT rfl ?_ | refine aw_condF rfl ?_ | ((first | refine aw_hide fun K hK => aw_region ?_ | refine acallB (has_ac l frs _ hn) (by repeat' (first | exact trivial | exact rfl | refine And.intro ?_ ?_)) (by kernel_rfl) (by kernel_rfl) (by kernel_rfl) ?_ | refine ago_if (by omega) ?_ | skip); simp (config := {maxSteps := 10000000}) (disch := first | exact okYes (by kernel_rfl) | omega) only [List.length, Nat.zero_add, Nat.reduceMul, Nat.reduceAdd, envOf, dI, ARun_none, AOpRun, aexec, FSt.ev, AGo_ok, St.app, putO, eput_c, Nat.reduceBEq, eput_n, cond_false, hups, List.map, ARun_nil, dropE_c, inL_n, dropE_n, Option.map, run1, St.F, eget_c, ↓eget_h, hget_c, ↓hget_h, List.getElem?_cons_zero, dB, hput_c, beq_self_eq_true, hput_n, cond_true, List.append_nil, inL_c]) | (subst hK; repeat' (first | with_reducible refine thenQ_n ?_ | with_reducible refine blockQ_n ?_ | with_reducible refine thenQ_e ?_ | with_reducible refine blockQ_t ?_ | with_reducible refine blockQ_f (by decide) ?_))))
  all_goals (refine end_to [] [(96, 96), (152, 152)] (by first | exact .inl rfl | exact .inr rfl) rfl (by kernel_rfl) (by kernel_rfl) (by kernel_rfl) ?_ ?_ <;> repeat' (first | exact trivial | exact vr_val _ | exact vr_list _ | exact vr_ptr _ _ _ rfl | refine And.intro ⟨_, rfl, _, rfl, by decide, ?_⟩ ?_ | apply And.intro))
  all_goals exact tpC_in _ _ _
/-- all fields are there -/
def hasA (l : Lay) (fs : List Int) : Bool := fs.all fun x => wI x 0 ((l.fl.length : Int) - 1)
set_option maxRecDepth 100000 in
set_option maxHeartbeats 4000000 in
theorem ihas_ac (l : Lay) (frs : List (List Int)) (fs : List Int) (hl : fs.length ≤ 1000000) (hn : l.fl.length ≤ 1000) : AC Try.prog 144 [.list (ints fs), .fn 111 [] [.ptr 152 0]] [(96, tpC l frs), (152, [.ptr 96 0])] [(96, some (tpC l frs)), (152, some [.ptr 96 0])] (dI (match fs.findIdx? (fun x => !wI x 0 ((l.fl.length : Int) - 1)) with
    | some k => (k : Int)
    | none => -1)) := by
  refine kslices_IndexFunc_L_L_Jint_Kint_J.ac (n0 := 200) (by simp) ⟨.list _, .fn _ _ _ (by simp) (by intro d hd; simp at hd; subst hd; exact .ptr _ _ (by omega)), trivial⟩ ⟨⟨by omega, tpC_in _ _ _⟩, ⟨by omega, by intro d hd; simp at hd; subst hd; exact .ptr _ _ (by omega)⟩, trivial⟩ rfl ?_
  unfold cslices_IndexFunc_L_L_Jint_Kint_J
  (have hg : (987654321 : Nat) - 987654321 = 0 := rfl; have hr := hg; repeat' (first | refine aw_seq ?_ | (refine aw_skip ?_; repeat' (first | with_reducible refine thenQ_n ?_ | with_reducible refine blockQ_n ?_ | with_reducible refine thenQ_e ?_ | with_reducible refine blockQ_t ?_ | with_reducible refine blockQ_f (by decide) ?_)) | (refine aw_exit ?_; repeat' (first | with_reducible refine thenQ_n ?_ | with_reducible refine blockQ_n ?_ | with_reducible refine thenQ_e ?_ | with_reducible refine blockQ_t ?_ | with_reducible refine blockQ_f (by decide) ?_)) | refine aw_ret ?_ | refine aw_block ?_ | refine aw_condT rfl ?_ | refine aw_condF rfl ?_ | ((first | refine aw_hide fun K hK => aw_region ?_ | refine ago_if (by omega) ?_ | skip); simp (config := {maxSteps := 10000000}) (disch := first | exact okYes (by kernel_rfl) | omega) only [List.length, Nat.zero_add, Nat.reduceMul, Nat.reduceAdd, envOf, ARun_none, AOpRun, aexec, FSt.ev, AGo_ok, St.app, putO, eput_c, Nat.reduceBEq, eput_n, cond_false, hups, List.map, ARun_nil, dropE_c, inL_n, dropE_n, St.F, ↓eget_h, eget_c, ints_len, inL_c, beq_self_eq_true, cond_true, Int.reduceNeg, dI]) | (subst hK; repeat' (first | with_reducible refine thenQ_n ?_ | with_reducible refine blockQ_n ?_ | with_reducible refine thenQ_e ?_ | with_reducible refine blockQ_t ?_ | with_reducible refine blockQ_f (by decide) ?_))))
  refine aw_loop (fun k : Nat => ⟨[(0, .list (ints fs)), (1, .fn 111 [] [.ptr 152 0]), (7, dI fs.length), (8, dI k)], [(96, tpC l frs), (152, [.ptr 96 0])], 400⟩) (fun k => k ≤ fs.length ∧ ∀ j, j < k → wI (fs[j]?.getD 0) 0 ((l.fl.length : Int) - 1) = true) (fun k => fs.length - k) ⟨0, ⟨by omega, fun j hj => by omega⟩, ?_⟩ ?_
  · refine wk_to [] [(96, 96), (152, 152)] (by kernel_rfl) (by kernel_rfl) (by kernel_rfl) (by kernel_rfl) (by kernel_rfl) ?_ ?_ <;> repeat' (first | exact trivial | exact vr_val _ | exact vr_list _ | exact vr_ptr _ _ _ rfl | apply vr_fn | refine And.intro ⟨_, rfl, .inl ⟨_, rfl, by decide, ?_⟩⟩ ?_ | apply And.intro)
    all_goals exact tpC_in _ _ _
  rintro k ⟨hk, hin⟩
  by_cases hk2 : k < fs.length
  · have g1 := ints_gd fs k hk2
    cases he : wI (fs[k]?.getD 0) 0 ((l.fl.length : Int) - 1) with
    | false =>
      have q : fs.findIdx? (fun x => !wI x 0 ((l.fl.length : Int) - 1)) = some k := by
        rw [List.findIdx?_eq_some_iff_getElem]
        refine ⟨hk2, by have := he; simp [hk2] at this; simp [this], fun j hj => ?_⟩
        have := hin j hj
        simpa [show j < fs.length by omega] using this
      rw [q]
      (have hg : (987654321 : Nat) - 987654321 = 0 := rfl; have hr := hg; repeat' (first | refine aw_seq ?_ | (refine aw_skip ?_; repeat' (first | with_reducible refine thenQ_n ?_ | with_reducible refine blockQ_n ?_ | with_reducible refine thenQ_e ?_ | with_reducible refine blockQ_t ?_ | with_reducible refine blockQ_f (by decide) ?_)) | (refine aw_exit ?_; repeat' (first | with_reducible refine thenQ_n ?_ | with_reducible refine blockQ_n ?_ | with_reducible refine thenQ_e ?_ | with_reducible refine blockQ_t ?_ | with_reducible refine blockQ_f (by decide) ?_)) | refine aw_ret ?_ | refine aw_block ?_ | refine aw_condT rfl ?_ | refine aw_condF rfl ?_ | (refine aw_cond rfl (fun hg => ?_) (fun hg => ?_) <;> (try (have hq := hg; simp only [Bool.not_eq_true', Bool.not_eq_false', Bool.and_eq_true, Bool.and_eq_false_iff, Bool.or_eq_true, Bool.or_eq_false_iff, decide_eq_true_eq, decide_eq_false_iff_not, bne_iff_ne, beq_iff_eq, beq_eq_false_iff_ne, bne_eq_false_iff_eq, ne_eq, Int.not_lt, Int.not_le, Decidable.not_not] at hq)) <;> (try (have hr := hg; simp only [decide_eq_true_eq, decide_eq_false_iff_not] at hr)) <;> (try (exfalso; omega))) | ((first | refine aw_hide fun K hK => aw_region ?_ | refine acallB (hasF_ac l frs _ hn) (by repeat' (first | exact trivial | exact rfl | refine And.intro ?_ ?_)) (by kernel_rfl) (by kernel_rfl) (by kernel_rfl) ?_ | refine ago_if (by omega) ?_ | skip); simp (config := {maxSteps := 10000000}) (disch := first | exact okYes (by kernel_rfl) | omega) only [List.length, Nat.zero_add, Nat.reduceMul, Nat.reduceAdd, dI, ARun_none, AOpRun, aexec, FSt.ev, St.F, eget_c, Nat.reduceBEq, ↓eget_h, cond_false, isSh, Bool.false_eq_true, ↓reduceIte, Option.map, abin, AGo_ok, St.app, putO, eput_c, eput_n, hups, List.map, ARun_nil, dropE_c, inL_n, dropE_n, hr, decide_true, inL_c, beq_self_eq_true, cond_true, Int.natCast_nonneg, ints_all, and_self, opt1, Int.toNat_natCast, g1, run1, List.getElem?_cons_zero, dB, he, Bool.not_false, hput_c, hput_n, List.append_nil, blockQ, thenQ]) | (subst hK; repeat' (first | with_reducible refine thenQ_n ?_ | with_reducible refine blockQ_n ?_ | with_reducible refine thenQ_e ?_ | with_reducible refine blockQ_t ?_ | with_reducible refine blockQ_f (by decide) ?_))))
      all_goals (refine end_to [] [(96, 96), (152, 152)] (by first | exact .inl rfl | exact .inr rfl) rfl (by kernel_rfl) (by kernel_rfl) (by kernel_rfl) ?_ ?_ <;> repeat' (first | exact trivial | exact vr_val _ | exact vr_list _ | exact vr_ptr _ _ _ rfl | refine And.intro ⟨_, rfl, _, rfl, by decide, ?_⟩ ?_ | apply And.intro))
      all_goals exact tpC_in _ _ _
    | true =>
      (have hg : (987654321 : Nat) - 987654321 = 0 := rfl; have hr := hg; repeat' (first | refine aw_seq ?_ | (refine aw_skip ?_; repeat' (first | with_reducible refine thenQ_n ?_ | with_reducible refine blockQ_n ?_ | with_reducible refine thenQ_e ?_ | with_reducible refine blockQ_t ?_ | with_reducible refine blockQ_f (by decide) ?_)) | (refine aw_exit ?_; repeat' (first | with_reducible refine thenQ_n ?_ | with_reducible refine blockQ_n ?_ | with_reducible refine thenQ_e ?_ | with_reducible refine blockQ_t ?_ | with_reducible refine blockQ_f (by decide) ?_)) | refine aw_ret ?_ | refine aw_block ?_ | refine aw_condT rfl ?_ | refine aw_condF rfl ?_ | (refine aw_cond rfl (fun hg => ?_) (fun hg => ?_) <;> (try (have hq := hg; simp only [Bool.not_eq_true', Bool.not_eq_false', Bool.and_eq_true, Bool.and_eq_false_iff, Bool.or_eq_true, Bool.or_eq_false_iff, decide_eq_true_eq, decide_eq_false_iff_not, bne_iff_ne, beq_iff_eq, beq_eq_false_iff_ne, bne_eq_false_iff_eq, ne_eq, Int.not_lt, Int.not_le, Decidable.not_not] at hq)) <;> (try (have hr := hg; simp only [decide_eq_true_eq, decide_eq_false_iff_not] at hr)) <;> (try (exfalso; omega))) | ((first | refine aw_hide fun K hK => aw_region ?_ | refine acallB (hasF_ac l frs _ hn) (by repeat' (first | exact trivial | exact rfl | refine And.intro ?_ ?_)) (by kernel_rfl) (by kernel_rfl) (by kernel_rfl) ?_ | refine ago_if (by omega) ?_ | skip); simp (config := {maxSteps := 10000000}) (disch := first | exact okYes (by kernel_rfl) | omega) only [List.length, Nat.zero_add, Nat.reduceMul, Nat.reduceAdd, dI, ARun_none, AOpRun, aexec, FSt.ev, St.F, eget_c, Nat.reduceBEq, ↓eget_h, cond_false, isSh, Bool.false_eq_true, ↓reduceIte, Option.map, abin, AGo_ok, St.app, putO, eput_c, eput_n, hups, List.map, ARun_nil, dropE_c, inL_n, dropE_n, hr, decide_true, inL_c, beq_self_eq_true, cond_true, Int.natCast_nonneg, ints_all, and_self, opt1, Int.toNat_natCast, g1, run1, List.getElem?_cons_zero, dB, he, Bool.not_true, hput_c, hput_n, List.append_nil, fits]) | (subst hK; repeat' (first | with_reducible refine thenQ_n ?_ | with_reducible refine blockQ_n ?_ | with_reducible refine thenQ_e ?_ | with_reducible refine blockQ_t ?_ | with_reducible refine blockQ_f (by decide) ?_))))
      refine ⟨k + 1, ⟨by omega, fun j hj => ?_⟩, by omega, ?_⟩
      · rcases (by omega : j < k ∨ j = k) with h | rfl
        · exact hin j h
        · exact he
      · refine wk_to [] [(96, 96), (152, 152)] (by kernel_rfl) (by kernel_rfl) (by kernel_rfl) (by kernel_rfl) (by kernel_rfl) ?_ ?_ <;> repeat' (first | exact trivial | exact vr_val _ | exact vr_list _ | exact vr_ptr _ _ _ rfl | apply vr_fn | refine And.intro ⟨_, rfl, .inl ⟨_, rfl, by decide, ?_⟩⟩ ?_ | apply And.intro)
        all_goals exact tpC_in _ _ _
  · obtain rfl : k = fs.length := by omega
    have q : fs.findIdx? (fun x => !wI x 0 ((l.fl.length : Int) - 1)) = none := by
      rw [List.findIdx?_eq_none_iff]
      intro y hy
      obtain ⟨j, hj, rfl⟩ := List.getElem_of_mem hy
      have := hin j hj
      simp [hj] at this
      simp [this]
    rw [q]
    (have hg : (987654321 : Nat) - 987654321 = 0 := rfl; have hr := hg; repeat' (first | refine aw_seq ?_ | (refine aw_skip ?_; repeat' (first | with_reducible refine thenQ_n ?_ | with_reducible refine blockQ_n ?_ | with_reducible refine thenQ_e ?_ | with_reducible refine blockQ_t ?_ | with_reducible refine blockQ_f (by decide) ?_)) | (refine aw_exit ?_; repeat' (first | with_reducible refine thenQ_n ?_ | with_reducible refine blockQ_n ?_ | with_reducible refine thenQ_e ?_ | with_reducible refine blockQ_t ?_ | with_reducible refine blockQ_f (by decide) ?_)) | refine aw_ret ?_ | refine aw_block ?_ | refine aw_condT rfl ?_ | refine aw_condF rfl ?_ | (refine aw_cond rfl (fun hg => ?_) (fun hg => ?_) <;> (try (have hq := hg; simp only [Bool.not_eq_true', Bool.not_eq_false', Bool.and_eq_true, Bool.and_eq_false_iff, Bool.or_eq_true, Bool.or_eq_false_iff, decide_eq_true_eq, decide_eq_false_iff_not, bne_iff_ne, beq_iff_eq, beq_eq_false_iff_ne, bne_eq_false_iff_eq, ne_eq, Int.not_lt, Int.not_le, Decidable.not_not] at hq)) <;> (try (have hr := hg; simp only [decide_eq_true_eq, decide_eq_false_iff_not] at hr)) <;> (try (exfalso; omega))) | ((first | refine aw_hide fun K hK => aw_region ?_ | refine ago_if (by omega) ?_ | skip); simp (config := {maxSteps := 10000000}) (disch := first | exact okYes (by kernel_rfl) | omega) only [List.length, Nat.zero_add, Nat.reduceMul, Nat.reduceAdd, dI, ARun_none, AOpRun, aexec, FSt.ev, St.F, eget_c, Nat.reduceBEq, ↓eget_h, cond_false, isSh, Bool.false_eq_true, ↓reduceIte, Option.map, abin, AGo_ok, St.app, putO, eput_c, eput_n, hups, List.map, ARun_nil, dropE_c, inL_n, dropE_n, Int.reduceNeg, hr, decide_false]) | (subst hK; repeat' (first | with_reducible refine thenQ_n ?_ | with_reducible refine blockQ_n ?_ | with_reducible refine thenQ_e ?_ | with_reducible refine blockQ_t ?_ | with_reducible refine blockQ_f (by decide) ?_))))
    all_goals (refine end_to [] [(96, 96), (152, 152)] (by first | exact .inl rfl | exact .inr rfl) rfl (by kernel_rfl) (by kernel_rfl) (by kernel_rfl) ?_ ?_ <;> repeat' (first | exact trivial | exact vr_val _ | exact vr_list _ | exact vr_ptr _ _ _ rfl | refine And.intro ⟨_, rfl, _, rfl, by decide, ?_⟩ ?_ | apply And.intro))
    all_goals exact tpC_in _ _ _
set_option maxRecDepth 100000 in
set_option maxHeartbeats 2000000 in
theorem chas_ac (l : Lay) (frs : List (List Int)) (fs : List Int) (hl : fs.length ≤ 1000000) (hn : l.fl.length ≤ 1000) : AC Try.prog 110 [.list (ints fs), .fn 111 [] [.ptr 152 0]] [(96, tpC l frs), (152, [.ptr 96 0])] [(96, some (tpC l frs)), (152, some [.ptr 96 0])] (dB (!hasA l fs)) := by
  refine kslices_ContainsFunc_L_L_Jint_Kint_J.ac (n0 := 200) (by simp) ⟨.list _, .fn _ _ _ (by simp) (by intro d hd; simp at hd; subst hd; exact .ptr _ _ (by omega)), trivial⟩ ⟨⟨by omega, tpC_in _ _ _⟩, ⟨by omega, by intro d hd; simp at hd; subst hd; exact .ptr _ _ (by omega)⟩, trivial⟩ rfl ?_
  unfold cslices_ContainsFunc_L_L_Jint_Kint_J
  have hf := ihas_ac l frs fs hl hn
  cases h : fs.findIdx? (fun x => !wI x 0 ((l.fl.length : Int) - 1)) with
  | none =>
    have ha : hasA l fs = true := by
      rw [List.findIdx?_eq_none_iff] at h
      refine List.all_eq_true.2 fun x hx => ?_
      have := h x hx
      simpa using this
    rw [h] at hf
    rw [ha]
    (have hg : (987654321 : Nat) - 987654321 = 0 := rfl; have hr := hg; repeat' (first | refine aw_seq ?_ | (refine aw_skip ?_; repeat' (first | with_reducible refine thenQ_n ?_ | with_reducible refine blockQ_n ?_ | with_reducible refine thenQ_e ?_ | with_reducible refine blockQ_t ?_ | with_reducible refine blockQ_f (by decide) ?_)) | (refine aw_exit ?_; repeat' (first | with_reducible refine thenQ_n ?_ | with_reducible refine blockQ_n ?_ | with_reducible refine thenQ_e ?_ | with_reducible refine blockQ_t ?_ | with_reducible refine blockQ_f (by decide) ?_)) | refine aw_ret ?_ | refine aw_block ?_ | refine aw_condT rfl ?_ | refine aw_condF rfl ?_ | ((first | refine aw_hide fun K hK => aw_region ?_ | refine acallB (hf) (by repeat' (first | exact trivial | exact rfl | refine And.intro ?_ ?_)) (by kernel_rfl) (by kernel_rfl) (by kernel_rfl) ?_ | refine ago_if (by omega) ?_ | skip); simp (config := {maxSteps := 10000000}) (disch := first | exact okYes (by kernel_rfl) | omega) only [List.length, Nat.zero_add, Nat.reduceMul, Nat.reduceAdd, envOf, ARun_none, AOpRun, aexec, FSt.ev, AGo_ok, St.app, putO, eput_c, Nat.reduceBEq, eput_n, cond_false, hups, List.map, ARun_nil, dropE_c, inL_n, dropE_n, St.F, ↓eget_h, eget_c, dI, Int.reduceNeg, hput_c, beq_self_eq_true, hput_n, cond_true, List.append_nil, isSh, Bool.false_eq_true, ↓reduceIte, Option.map, abin, inL_c, dB, Bool.not_true]) | (subst hK; repeat' (first | with_reducible refine thenQ_n ?_ | with_reducible refine blockQ_n ?_ | with_reducible refine thenQ_e ?_ | with_reducible refine blockQ_t ?_ | with_reducible refine blockQ_f (by decide) ?_))))
    all_goals (refine end_to [] [(96, 96), (152, 152)] (by first | exact .inl rfl | exact .inr rfl) rfl (by kernel_rfl) (by kernel_rfl) (by kernel_rfl) ?_ ?_ <;> repeat' (first | exact trivial | exact vr_val _ | exact vr_list _ | exact vr_ptr _ _ _ rfl | refine And.intro ⟨_, rfl, _, rfl, by decide, ?_⟩ ?_ | apply And.intro))
    all_goals exact tpC_in _ _ _
  | some k =>
    have ha : hasA l fs = false := by
      rw [List.findIdx?_eq_some_iff_getElem] at h
      obtain ⟨hk, he, _⟩ := h
      refine List.all_eq_false.2 ⟨fs[k], List.getElem_mem hk, by simpa using he⟩
    rw [h] at hf
    rw [ha]
    have q : decide ((k : Int) ≥ 0) = true := decide_eq_true (by omega)
    (have hg : (987654321 : Nat) - 987654321 = 0 := rfl; have hr := hg; repeat' (first | refine aw_seq ?_ | (refine aw_skip ?_; repeat' (first | with_reducible refine thenQ_n ?_ | with_reducible refine blockQ_n ?_ | with_reducible refine thenQ_e ?_ | with_reducible refine blockQ_t ?_ | with_reducible refine blockQ_f (by decide) ?_)) | (refine aw_exit ?_; repeat' (first | with_reducible refine thenQ_n ?_ | with_reducible refine blockQ_n ?_ | with_reducible refine thenQ_e ?_ | with_reducible refine blockQ_t ?_ | with_reducible refine blockQ_f (by decide) ?_)) | refine aw_ret ?_ | refine aw_block ?_ | refine aw_condT rfl ?_ | refine aw_condF rfl ?_ | ((first | refine aw_hide fun K hK => aw_region ?_ | refine acallB (hf) (by repeat' (first | exact trivial | exact rfl | refine And.intro ?_ ?_)) (by kernel_rfl) (by kernel_rfl) (by kernel_rfl) ?_ | refine ago_if (by omega) ?_ | skip); simp (config := {maxSteps := 10000000}) (disch := first | exact okYes (by kernel_rfl) | omega) only [List.length, Nat.zero_add, Nat.reduceMul, Nat.reduceAdd, envOf, ARun_none, AOpRun, aexec, FSt.ev, AGo_ok, St.app, putO, eput_c, Nat.reduceBEq, eput_n, cond_false, hups, List.map, ARun_nil, dropE_c, inL_n, dropE_n, St.F, ↓eget_h, eget_c, dI, hput_c, beq_self_eq_true, hput_n, cond_true, List.append_nil, isSh, Bool.false_eq_true, ↓reduceIte, Option.map, abin, Int.natCast_nonneg, decide_true, inL_c, dB, Bool.not_false]) | (subst hK; repeat' (first | with_reducible refine thenQ_n ?_ | with_reducible refine blockQ_n ?_ | with_reducible refine thenQ_e ?_ | with_reducible refine blockQ_t ?_ | with_reducible refine blockQ_f (by decide) ?_))))
    all_goals (refine end_to [] [(96, 96), (152, 152)] (by first | exact .inl rfl | exact .inr rfl) rfl (by kernel_rfl) (by kernel_rfl) (by kernel_rfl) ?_ ?_ <;> repeat' (first | exact trivial | exact vr_val _ | exact vr_list _ | exact vr_ptr _ _ _ rfl | refine And.intro ⟨_, rfl, _, rfl, by decide, ?_⟩ ?_ | apply And.intro))
    all_goals exact tpC_in _ _ _
/-- the error of a layout, frames and fields -/
noncomputable def wfE (l : Lay) (frs : List (List Int)) (fs : List Int) : Int := if tpE l frs = 0 then (if hasA l fs = true then 0 else 1) else tpE l frs
set_option maxRecDepth 100000 in
set_option maxHeartbeats 4000000 in
theorem withField_ok (l : Lay) (frs : List (List Int)) (fs : List Int) (hl : LayIn l) (h1 : LayOk l) (h2 : frs.length ≤ 200) (hf : FrIn frs) (hfs : fs.length ≤ 1000) (hh : hasA l fs = true) : AC Try.prog 66 [layD l, .list (rows frs), .list (ints fs)] [] [(96, some (tpC l frs))] (.tup [.ptr 96 0, dI 0]) := by
  refine krecord_withField.ac (n0 := 0) (by simp) ⟨in_layD _ _, .list _, .list _, trivial⟩ trivial rfl ?_
  unfold crecord_withField layD layC
  have nt := newTape_ok l frs hl h1 h2 hf
  have ch := chas_ac l frs fs (by omega) (by have := h1.nf; omega)
  rw [hh] at ch
  refine aw_seq (aw_region ?_)
  simp (config := {maxSteps := 10000000}) (disch := first | exact okYes (by kernel_rfl) | omega) only [thenQ, List.map, dI, List.length, Nat.zero_add, Nat.reduceAdd, Nat.reduceMul, envOf, ARun_none, AOpRun, aexec, D.isBot, FSt.ev, St.F, ↓eget_h, Bool.false_eq_true, Option.isSome, hget_n, or_self, ↓reduceIte, D.cells, AGo_ok, St.app, putO, eput_c, Nat.reduceBEq, eput_n, cond_false, hups, hput_n, ARun_nil, dropE_c, inL_n, dropE_n]
  refine aw_wk (s' := ⟨[(1, .list (rows frs)), (2, .list (ints fs)), (3, .ptr 0 0)], [(0, [dI l.words, dI l.s0, dI l.s1, dI l.s2, dI l.s3, .list (fls l.fl)])], 80⟩) ?_ ?_
  · unfold dI
    refine wk_to [] [(0, 0)] (by kernel_rfl) (by kernel_rfl) (by kernel_rfl) (by kernel_rfl) (by kernel_rfl) ?_ ?_ <;> repeat' (first | exact trivial | exact vr_val _ | exact vr_list _ | exact vr_ptr _ _ _ rfl | refine And.intro ⟨_, rfl, .inl ⟨_, rfl, by decide, ?_⟩⟩ ?_ | apply And.intro)
  refine aw_seq (aw_region ?_)
  simp (config := {maxSteps := 10000000}) (disch := first | exact okYes (by kernel_rfl) | omega) only [thenQ, List.length, Nat.zero_add, Nat.reduceAdd, Nat.reduceMul, dI, ARun_none, AOpRun, aexec, FSt.ev, St.F, eget_c, Nat.reduceBEq, ↓eget_h, cond_false, hget_c, beq_self_eq_true, hget_n, cond_true, Nat.reduceLeDiff, ↓reduceIte, List.drop, List.take, AGo_ok, St.app, putO, eput_c, eput_n, hups, List.map]
  refine acallB nt (by repeat' (first | exact trivial | exact rfl | refine And.intro ?_ ?_)) (by kernel_rfl) (by kernel_rfl) (by kernel_rfl) ?_
  simp (config := {maxSteps := 10000000}) (disch := first | exact okYes (by kernel_rfl) | omega) only [Nat.reduceAdd, St.app, putO, dI, eput_c, Nat.reduceBEq, eput_n, cond_false, hups, hput_c, hput_n, List.map, List.append_nil, ARun_none, AOpRun, aexec, FSt.ev, St.F, eget_c, ↓eget_h, AGo_ok, opt1, Option.map, List.getElem?_cons_zero, List.getElem?_cons_succ, Option.isSome, Nat.reduceMul, hget_c, hget_n, Bool.false_eq_true, ↓reduceIte, ↓hget_h, D.isBot, D.cells, List.length, Nat.zero_add, Nat.reduceLeDiff, List.all, D.leaf, Bool.and_true, and_self, splice, List.take, List.nil_append, List.drop, beq_self_eq_true, cond_true, ARun_nil, dropE_c, inL_c, inL_n, dropE_n]
  (have hg : (987654321 : Nat) - 987654321 = 0 := rfl; have hr := hg; iterate 7 (try (first | refine aw_seq ?_ | (refine aw_skip ?_; repeat' (first | with_reducible refine thenQ_n ?_ | with_reducible refine blockQ_n ?_ | with_reducible refine thenQ_e ?_ | with_reducible refine blockQ_t ?_ | with_reducible refine blockQ_f (by decide) ?_)) | (refine aw_exit ?_; repeat' (first | with_reducible refine thenQ_n ?_ | with_reducible refine blockQ_n ?_ | with_reducible refine thenQ_e ?_ | with_reducible refine blockQ_t ?_ | with_reducible refine blockQ_f (by decide) ?_)) | refine aw_ret ?_ | refine aw_block ?_ | refine aw_condT rfl ?_ | refine aw_condF rfl ?_ | ((first | refine aw_hide fun K hK => aw_region ?_ | refine ago_if (by omega) ?_ | skip); simp (config := {maxSteps := 10000000}) (disch := first | exact okYes (by kernel_rfl) | omega) only [List.length, Nat.zero_add, Nat.reduceAdd, Nat.reduceMul, ARun_none, AOpRun, aexec, FSt.ev, St.F, eget_c, Nat.reduceBEq, ↓eget_h, cond_false, AGo_ok, St.app, putO, eput_c, eput_n, hups, List.map, isSh, Bool.false_eq_true, ↓reduceIte, Option.map, abin, bne_self_eq_false, ARun_nil, dropE_c, inL_c, inL_n, beq_self_eq_true, cond_true, dropE_n]) | (subst hK; repeat' (first | with_reducible refine thenQ_n ?_ | with_reducible refine blockQ_n ?_ | with_reducible refine thenQ_e ?_ | with_reducible refine blockQ_t ?_ | with_reducible refine blockQ_f (by decide) ?_)))))
  refine aw_wk (s' := ⟨[(2, .list (ints fs)), (8, .ptr 152 0)], [(96, tpC l frs), (152, [.ptr 96 0])], 200⟩) ?_ ?_
  · refine wk_to [] [(96, 96), (152, 128)] (by kernel_rfl) (by kernel_rfl) (by kernel_rfl) (by kernel_rfl) (by kernel_rfl) ?_ ?_ <;> repeat' (first | exact trivial | exact vr_val _ | exact vr_list _ | exact vr_ptr _ _ _ rfl | refine And.intro ⟨_, rfl, .inl ⟨_, rfl, by decide, ?_⟩⟩ ?_ | apply And.intro)
    all_goals exact tpC_in _ _ _
  (have hg : (987654321 : Nat) - 987654321 = 0 := rfl; have hr := hg; repeat' (first | refine aw_seq ?_ | (refine aw_skip ?_; repeat' (first | with_reducible refine thenQ_n ?_ | with_reducible refine blockQ_n ?_ | with_reducible refine thenQ_e ?_ | with_reducible refine blockQ_t ?_ | with_reducible refine blockQ_f (by decide) ?_)) | (refine aw_exit ?_; repeat' (first | with_reducible refine thenQ_n ?_ | with_reducible refine blockQ_n ?_ | with_reducible refine thenQ_e ?_ | with_reducible refine blockQ_t ?_ | with_reducible refine blockQ_f (by decide) ?_)) | refine aw_ret ?_ | refine aw_block ?_ | refine aw_condT rfl ?_ | refine aw_condF rfl ?_ | ((first | refine aw_hide fun K hK => aw_region ?_ | refine acallB (ch) (by repeat' (first | exact trivial | exact rfl | refine And.intro ?_ ?_)) (by kernel_rfl) (by kernel_rfl) (by kernel_rfl) ?_ | refine ago_if (by omega) ?_ | skip); simp (config := {maxSteps := 10000000}) (disch := first | exact okYes (by kernel_rfl) | omega) only [List.length, Nat.zero_add, Nat.reduceAdd, Nat.reduceMul, ARun_none, AOpRun, aexec, FSt.ev, St.F, ↓eget_h, AGo_ok, St.app, putO, eput_c, Nat.reduceBEq, eput_n, cond_false, hups, List.map, eget_c, dB, Bool.not_true, hput_c, beq_self_eq_true, hput_n, cond_true, List.append_nil, ARun_nil, dropE_c, inL_c, inL_n, dropE_n, Option.map, run1, hget_c, ↓hget_h, List.getElem?_cons_zero]) | (subst hK; repeat' (first | with_reducible refine thenQ_n ?_ | with_reducible refine blockQ_n ?_ | with_reducible refine thenQ_e ?_ | with_reducible refine blockQ_t ?_ | with_reducible refine blockQ_f (by decide) ?_))))
  refine end_to [] [(96, 96)] (by first | exact .inl rfl | exact .inr rfl) rfl (by kernel_rfl) (by kernel_rfl) (by kernel_rfl) ?_ ?_ <;> repeat' (first | exact trivial | exact vr_val _ | exact vr_list _ | exact vr_ptr _ _ _ rfl | apply vr_tup | refine And.intro ⟨_, rfl, _, rfl, by decide, ?_⟩ ?_ | apply And.intro)
  all_goals exact tpC_in _ _ _
set_option maxRecDepth 100000 in
set_option maxHeartbeats 4000000 in
theorem withField_err (l : Lay) (frs : List (List Int)) (fs : List Int) (hl : LayIn l) (hf : FrIn frs) (hfs : fs.length ≤ 1000) (he : wfE l frs fs ≠ 0) : AC Try.prog 66 [layD l, .list (rows frs), .list (ints fs)] [] [] (.tup [.val (.pointer none), dI (wfE l frs fs)]) := by
  refine krecord_withField.ac (n0 := 0) (by simp) ⟨in_layD _ _, .list _, .list _, trivial⟩ trivial rfl ?_
  unfold crecord_withField layD layC
  rcases tpE_cases l frs with ⟨h0, h1, h2⟩ | ⟨h0, h1⟩
  · have hh : hasA l fs = false := by
      cases h : hasA l fs with
      | false => rfl
      | true => exact absurd (by unfold wfE; rw [if_pos h0, if_pos h]) he
    have e : wfE l frs fs = 1 := by unfold wfE; rw [if_pos h0, hh]; rfl
    rw [e]
    have nt := newTape_ok l frs hl h1 h2 hf
    have ch := chas_ac l frs fs (by omega) (by have := h1.nf; omega)
    rw [hh] at ch
    refine aw_seq (aw_region ?_)
    simp (config := {maxSteps := 10000000}) (disch := first | exact okYes (by kernel_rfl) | omega) only [thenQ, List.map, dI, List.length, Nat.zero_add, Nat.reduceAdd, Nat.reduceMul, envOf, ARun_none, AOpRun, aexec, D.isBot, FSt.ev, St.F, ↓eget_h, Bool.false_eq_true, Option.isSome, hget_n, or_self, ↓reduceIte, D.cells, AGo_ok, St.app, putO, eput_c, Nat.reduceBEq, eput_n, cond_false, hups, hput_n, ARun_nil, dropE_c, inL_n, dropE_n]
    refine aw_wk (s' := ⟨[(1, .list (rows frs)), (2, .list (ints fs)), (3, .ptr 0 0)], [(0, [dI l.words, dI l.s0, dI l.s1, dI l.s2, dI l.s3, .list (fls l.fl)])], 80⟩) ?_ ?_
    · unfold dI
      refine wk_to [] [(0, 0)] (by kernel_rfl) (by kernel_rfl) (by kernel_rfl) (by kernel_rfl) (by kernel_rfl) ?_ ?_ <;> repeat' (first | exact trivial | exact vr_val _ | exact vr_list _ | exact vr_ptr _ _ _ rfl | refine And.intro ⟨_, rfl, .inl ⟨_, rfl, by decide, ?_⟩⟩ ?_ | apply And.intro)
    refine aw_seq (aw_region ?_)
    simp (config := {maxSteps := 10000000}) (disch := first | exact okYes (by kernel_rfl) | omega) only [thenQ, List.length, Nat.zero_add, Nat.reduceAdd, Nat.reduceMul, dI, ARun_none, AOpRun, aexec, FSt.ev, St.F, eget_c, Nat.reduceBEq, ↓eget_h, cond_false, hget_c, beq_self_eq_true, hget_n, cond_true, Nat.reduceLeDiff, ↓reduceIte, List.drop, List.take, AGo_ok, St.app, putO, eput_c, eput_n, hups, List.map]
    refine acallB nt (by repeat' (first | exact trivial | exact rfl | refine And.intro ?_ ?_)) (by kernel_rfl) (by kernel_rfl) (by kernel_rfl) ?_
    simp (config := {maxSteps := 10000000}) (disch := first | exact okYes (by kernel_rfl) | omega) only [Nat.reduceAdd, St.app, putO, dI, eput_c, Nat.reduceBEq, eput_n, cond_false, hups, hput_c, hput_n, List.map, List.append_nil, ARun_none, AOpRun, aexec, FSt.ev, St.F, eget_c, ↓eget_h, AGo_ok, opt1, Option.map, List.getElem?_cons_zero, List.getElem?_cons_succ, Option.isSome, Nat.reduceMul, hget_c, hget_n, Bool.false_eq_true, ↓reduceIte, ↓hget_h, D.isBot, D.cells, List.length, Nat.zero_add, Nat.reduceLeDiff, List.all, D.leaf, Bool.and_true, and_self, splice, List.take, List.nil_append, List.drop, beq_self_eq_true, cond_true, ARun_nil, dropE_c, inL_c, inL_n, dropE_n]
    (have hg : (987654321 : Nat) - 987654321 = 0 := rfl; have hr := hg; iterate 7 (try (first | refine aw_seq ?_ | (refine aw_skip ?_; repeat' (first | with_reducible refine thenQ_n ?_ | with_reducible refine blockQ_n ?_ | with_reducible refine thenQ_e ?_ | with_reducible refine blockQ_t ?_ | with_reducible refine blockQ_f (by decide) ?_)) | (refine aw_exit ?_; repeat' (first | with_reducible refine thenQ_n ?_ | with_reducible refine blockQ_n ?_ | with_reducible refine thenQ_e ?_ | with_reducible refine blockQ_t ?_ | with_reducible refine blockQ_f (by decide) ?_)) | refine aw_ret ?_ | refine aw_block ?_ | refine aw_condT rfl ?_ | refine aw_condF rfl ?_ | ((first | refine aw_hide fun K hK => aw_region ?_ | refine ago_if (by omega) ?_ | skip); simp (config := {maxSteps := 10000000}) (disch := first | exact okYes (by kernel_rfl) | omega) only [List.length, Nat.zero_add, Nat.reduceAdd, Nat.reduceMul, ARun_none, AOpRun, aexec, FSt.ev, St.F, eget_c, Nat.reduceBEq, ↓eget_h, cond_false, AGo_ok, St.app, putO, eput_c, eput_n, hups, List.map, isSh, Bool.false_eq_true, ↓reduceIte, Option.map, abin, bne_self_eq_false, ARun_nil, dropE_c, inL_c, inL_n, beq_self_eq_true, cond_true, dropE_n]) | (subst hK; repeat' (first | with_reducible refine thenQ_n ?_ | with_reducible refine blockQ_n ?_ | with_reducible refine thenQ_e ?_ | with_reducible refine blockQ_t ?_ | with_reducible refine blockQ_f (by decide) ?_)))))
    refine aw_wk (s' := ⟨[(2, .list (ints fs)), (8, .ptr 152 0)], [(96, tpC l frs), (152, [.ptr 96 0])], 200⟩) ?_ ?_
    · refine wk_to [] [(96, 96), (152, 128)] (by kernel_rfl) (by kernel_rfl) (by kernel_rfl) (by kernel_rfl) (by kernel_rfl) ?_ ?_ <;> repeat' (first | exact trivial | exact vr_val _ | exact vr_list _ | exact vr_ptr _ _ _ rfl | refine And.intro ⟨_, rfl, .inl ⟨_, rfl, by decide, ?_⟩⟩ ?_ | apply And.intro)
      all_goals exact tpC_in _ _ _
    (have hg : (987654321 : Nat) - 987654321 = 0 := rfl; have hr := hg; repeat' (first | refine aw_seq ?_ | (refine aw_skip ?_; repeat' (first | with_reducible refine thenQ_n ?_ | with_reducible refine blockQ_n ?_ | with_reducible refine thenQ_e ?_ | with_reducible refine blockQ_t ?_ | with_reducible refine blockQ_f (by decide) ?_)) | (refine aw_exit ?_; repeat' (first | with_reducible refine thenQ_n ?_ | with_reducible refine blockQ_n ?_ | with_reducible refine thenQ_e ?_ | with_reducible refine blockQ_t ?_ | with_reducible refine blockQ_f (by decide) ?_)) | refine aw_ret ?_ | refine aw_block ?_ | refine aw_condT rfl ?_ | refine aw_condF rfl ?_ | ((first | refine aw_hide fun K hK => aw_region ?_ | refine acallB (ch) (by repeat' (first | exact trivial | exact rfl | refine And.intro ?_ ?_)) (by kernel_rfl) (by kernel_rfl) (by kernel_rfl) ?_ | refine ago_if (by omega) ?_ | skip); simp (config := {maxSteps := 10000000}) (disch := first | exact okYes (by kernel_rfl) | omega) only [List.length, Nat.zero_add, Nat.reduceAdd, Nat.reduceMul, ARun_none, AOpRun, aexec, FSt.ev, St.F, ↓eget_h, AGo_ok, St.app, putO, eput_c, Nat.reduceBEq, eput_n, cond_false, hups, List.map, eget_c, dB, Bool.not_false, hput_c, beq_self_eq_true, hput_n, cond_true, List.append_nil, ARun_nil, dropE_c, inL_c, inL_n, dropE_n, thenQ]) | (subst hK; repeat' (first | with_reducible refine thenQ_n ?_ | with_reducible refine blockQ_n ?_ | with_reducible refine thenQ_e ?_ | with_reducible refine blockQ_t ?_ | with_reducible refine blockQ_f (by decide) ?_))))
    (refine end_to [] [] (by first | exact .inl rfl | exact .inr rfl) rfl (by kernel_rfl) (by kernel_rfl) (by kernel_rfl) ?_ ?_ <;> repeat' (first | exact trivial | exact vr_val _ | apply vr_tup | apply And.intro))
  · have e : wfE l frs fs = tpE l frs := if_neg h0
    rw [e]
    have nt := newTape_err l frs hl (fun h => h0 (tpE_ok h.1 h.2)) hf
    generalize tpE l frs = E at *
    (have hg : (987654321 : Nat) - 987654321 = 0 := rfl; have hr := hg; repeat' (first | refine aw_seq ?_ | (refine aw_skip ?_; repeat' (first | with_reducible refine thenQ_n ?_ | with_reducible refine blockQ_n ?_ | with_reducible refine thenQ_e ?_ | with_reducible refine blockQ_t ?_ | with_reducible refine blockQ_f (by decide) ?_)) | (refine aw_exit ?_; repeat' (first | with_reducible refine thenQ_n ?_ | with_reducible refine blockQ_n ?_ | with_reducible refine thenQ_e ?_ | with_reducible refine blockQ_t ?_ | with_reducible refine blockQ_f (by decide) ?_)) | refine aw_ret ?_ | refine aw_block ?_ | refine aw_condT rfl ?_ | refine aw_condF rfl ?_ | ((first | refine aw_hide fun K hK => aw_region ?_ | refine acall0 (nt) ?_ | refine ago_if (by omega) ?_ | skip); simp (config := {maxSteps := 10000000}) (disch := first | exact okYes (by kernel_rfl) | omega) only [List.length, Nat.zero_add, Nat.reduceAdd, Nat.reduceMul, envOf, dI, ARun_none, AOpRun, aexec, D.isBot, FSt.ev, St.F, ↓eget_h, Bool.false_eq_true, Option.isSome, hget_n, or_self, ↓reduceIte, D.cells, AGo_ok, St.app, putO, eput_c, Nat.reduceBEq, eput_n, cond_false, hups, hput_n, List.map, ARun_nil, dropE_c, inL_n, dropE_n, eget_c, hget_c, beq_self_eq_true, cond_true, Nat.reduceLeDiff, List.drop, List.take, opt1, Option.map, List.getElem?_cons_zero, List.getElem?_cons_succ, hput_c, ↓hget_h, List.all, D.leaf, Bool.and_true, and_self, splice, List.nil_append, List.append_nil, inL_c, isSh, abin, h1, thenQ]) | (subst hK; repeat' (first | with_reducible refine thenQ_n ?_ | with_reducible refine blockQ_n ?_ | with_reducible refine thenQ_e ?_ | with_reducible refine blockQ_t ?_ | with_reducible refine blockQ_f (by decide) ?_))))
    (refine end_to [] [] (by first | exact .inl rfl | exact .inr rfl) rfl (by kernel_rfl) (by kernel_rfl) (by kernel_rfl) ?_ ?_ <;> repeat' (first | exact trivial | exact vr_val _ | apply vr_tup | apply And.intro))
end Go.Proofs.Ytdcodicoclecnaa
