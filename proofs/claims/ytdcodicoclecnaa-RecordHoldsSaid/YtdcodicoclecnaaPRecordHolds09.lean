/- Texts of the law RecordHolds, part 9. No conditions. -/
import Derived.Test.YtdcodicoclecnaaPRecordHolds08
/- Holds, Until and Weak, both sides. No conditions. -/
set_option linter.unusedSimpArgs false
set_option linter.unusedVariables false
namespace Go.Proofs.Ytdcodicoclecnaa
open Go Go.RowKit Lift

/-- a set without one -/
def wN (p i : Nat) : Nat := p &&& (2 ^ 64 - (2 ^ i + 1))
theorem wN_lt {p i : Nat} (h : p < 4096) : wN p i < 4096 := Nat.lt_of_le_of_lt Nat.and_le_left h
theorem wN_test {p i : Nat} (hp : p < 4096) (hi : i < 12) (j : Nat) : (wN p i).testBit j = (p.testBit j && !decide (j = i)) := by
  have h2 : 2 ^ i < 2 ^ 64 := Nat.pow_lt_pow_right (by omega) (by omega)
  unfold wN
  rw [Nat.testBit_and, Nat.testBit_two_pow_sub_succ h2, Nat.testBit_two_pow]
  by_cases hj : j < 64
  · simp only [hj, decide_true, Bool.true_and]
    congr 2
    exact decide_eq_decide.2 eq_comm
  · have : p.testBit j = false := Nat.testBit_lt_two_pow (Nat.lt_of_lt_of_le hp (Nat.pow_le_pow_right (n := 2) (i := 12) (by omega) (by omega)))
    rw [this]; simp
theorem wN_val {p i : Nat} (hp : p < 4096) (hi : i < 12) : IntKind.i64.wrap ((BitVec.ofInt IntKind.i64.bits (p : Int) &&& ~~~ BitVec.ofInt IntKind.i64.bits ((2 ^ i : Nat) : Int)).toNat) = ((wN p i : Nat) : Int) := by
  have h2 : 2 ^ i < 2 ^ 12 := Nat.pow_lt_pow_right (by omega) hi
  rw [BitVec.toNat_and, BitVec.toNat_not, bv_nat p (by omega), bv_nat (2 ^ i) (by omega)]
  have e : 2 ^ IntKind.i64.bits - 1 - 2 ^ i = 2 ^ 64 - (2 ^ i + 1) := by
    show 2 ^ 64 - 1 - 2 ^ i = 2 ^ 64 - (2 ^ i + 1)
    omega
  rw [e]
  have := wN_lt (i := i) hp
  unfold wN at *
  generalize p &&& (2 ^ 64 - (2 ^ i + 1)) = z at *
  exact wrap_in (by omega) (by omega)
set_option maxRecDepth 100000 in
set_option maxHeartbeats 1000000 in
theorem pwithout_ac (p i : Nat) (hp : p < 4096) (hi : i < 12) : AC Try.prog 87 [dI p, dI i] [] [] (dI ((wN p i : Nat) : Int)) := by
  refine krecord_proofs_without.ac (n0 := 0) (by simp) ⟨.val _, .val _, trivial⟩ trivial rfl ?_
  unfold crecord_proofs_without
  have e0 : IntKind.i64.bits = 64 := rfl
  have e1 : min i IntKind.i64.bits = i := by rw [e0]; omega
  have a2 := wN_val hp hi
  have h2 : 2 ^ i < 2 ^ 12 := Nat.pow_lt_pow_right (by omega) hi
  have a1 : IntKind.i64.wrap (1 * 2 ^ i) = ((2 ^ i : Nat) : Int) := by
    rw [Int.one_mul, show (2 : Int) ^ i = ((2 ^ i : Nat) : Int) by simp]
    generalize 2 ^ i = z at h2 ⊢
    exact wrap_in (by omega) (by omega)
  (have hg : (987654321 : Nat) - 987654321 = 0 := rfl; have hr := hg; repeat' (first | refine aw_seq ?_ | (refine aw_skip ?_; repeat' (first | with_reducible refine thenQ_n ?_ | with_reducible refine blockQ_n ?_ | with_reducible refine thenQ_e ?_ | with_reducible refine blockQ_t ?_ | with_reducible refine blockQ_f (by decide) ?_)) | (refine aw_exit ?_; repeat' (first | with_reducible refine thenQ_n ?_ | with_reducible refine blockQ_n ?_ | with_reducible refine thenQ_e ?_ | with_reducible refine blockQ_t ?_ | with_reducible refine blockQ_f (by decide) ?_)) | refine aw_ret ?_ | refine aw_block ?_ | refine aw_condT rfl ?_ | refine aw_condF rfl ?_ | ((first | refine aw_hide fun K hK => aw_region ?_ | refine ago_if (by omega) ?_ | skip); simp (config := {maxSteps := 10000000}) (disch := first | exact okYes (by kernel_rfl) | omega) only [List.length, Nat.zero_add, Nat.reduceMul, envOf, dI, ARun_none, AOpRun, aexec, FSt.ev, AGo_ok, St.app, putO, eput_c, Nat.reduceBEq, eput_n, cond_false, hups, List.map, ARun_nil, dropE_c, inL_n, dropE_n, Nat.reduceAdd, St.F, ↓eget_h, eget_c, isSh, ↓reduceIte, Option.map, ash, Int.natCast_nonneg, Int.toNat_natCast, e1, a1, Bool.false_eq_true, abin, a2, beq_self_eq_true, cond_true, inL_c]) | (subst hK; repeat' (first | with_reducible refine thenQ_n ?_ | with_reducible refine blockQ_n ?_ | with_reducible refine thenQ_e ?_ | with_reducible refine blockQ_t ?_ | with_reducible refine blockQ_f (by decide) ?_))))
  all_goals (refine end_to [] [] (by first | exact .inl rfl | exact .inr rfl) rfl (by kernel_rfl) (by kernel_rfl) (by kernel_rfl) ?_ ?_ <;> repeat' (first | exact trivial | exact vr_val _))

set_option maxRecDepth 100000 in
set_option maxHeartbeats 1000000 in
theorem holdsP_er (c : Cas) (hi : CasIn c) (claim tick : Int) (h0 : clmE c claim tick 122 1 ≠ 0) : AC Try.prog 35 [casD c, dI claim, dI tick] [] [] (.tup [dB false, dI (clmE c claim tick 122 1)]) := by
  refine krecord_Holds.ac (n0 := 0) (by simp) ⟨in_cas _ _, .val _, .val _, trivial⟩ trivial rfl ?_
  have ck := ccheck_ac c hi claim tick
  have q : (clmE c claim tick 122 1 != 0) = true := by simpa using h0
  unfold crecord_Holds
  unfold casD at *
  generalize clmE c claim tick 122 1 = E at *
  (have hg : (987654321 : Nat) - 987654321 = 0 := rfl; have hr := hg; repeat' (first | refine aw_seq ?_ | (refine aw_skip ?_; repeat' (first | with_reducible refine thenQ_n ?_ | with_reducible refine blockQ_n ?_ | with_reducible refine thenQ_e ?_ | with_reducible refine blockQ_t ?_ | with_reducible refine blockQ_f (by decide) ?_)) | (refine aw_exit ?_; repeat' (first | with_reducible refine thenQ_n ?_ | with_reducible refine blockQ_n ?_ | with_reducible refine thenQ_e ?_ | with_reducible refine blockQ_t ?_ | with_reducible refine blockQ_f (by decide) ?_)) | refine aw_ret ?_ | refine aw_block ?_ | refine aw_condT rfl ?_ | refine aw_condF rfl ?_ | ((first | refine aw_hide fun K hK => aw_region ?_ | refine acall0 (ck) ?_ | refine ago_if (by omega) ?_ | skip); simp (config := {maxSteps := 10000000}) (disch := first | exact okYes (by kernel_rfl) | omega) only [List.length, Nat.zero_add, Nat.reduceAdd, Nat.reduceMul, envOf, dI, ARun_none, AOpRun, aexec, D.isBot, FSt.ev, St.F, ↓eget_h, Bool.false_eq_true, Option.isSome, hget_n, or_self, ↓reduceIte, D.cells, AGo_ok, St.app, putO, eput_c, Nat.reduceBEq, eput_n, cond_false, hups, hput_n, List.map, ARun_nil, dropE_c, inL_n, dropE_n, eget_c, hget_c, beq_self_eq_true, cond_true, Nat.reduceLeDiff, List.drop, List.take, inL_c, isSh, Option.map, abin, q, thenQ, dB]) | (subst hK; repeat' (first | with_reducible refine thenQ_n ?_ | with_reducible refine blockQ_n ?_ | with_reducible refine thenQ_e ?_ | with_reducible refine blockQ_t ?_ | with_reducible refine blockQ_f (by decide) ?_))))
  all_goals (refine end_to [] [] (by first | exact .inl rfl | exact .inr rfl) rfl (by kernel_rfl) (by kernel_rfl) (by kernel_rfl) ?_ ?_ <;> repeat' (first | exact trivial | exact vr_val _ | apply vr_tup | apply And.intro))
set_option maxRecDepth 100000 in
set_option maxHeartbeats 1000000 in
theorem untilP_er (c : Cas) (hi : CasIn c) (claim tick : Int) (h0 : clmE c claim tick 122 1 ≠ 0) : AC Try.prog 37 [casD c, dI claim, dI tick] [] [] (.tup [dI 0, dI (clmE c claim tick 122 1)]) := by
  refine krecord_Until.ac (n0 := 0) (by simp) ⟨in_cas _ _, .val _, .val _, trivial⟩ trivial rfl ?_
  have ck := ccheck_ac c hi claim tick
  have q : (clmE c claim tick 122 1 != 0) = true := by simpa using h0
  unfold crecord_Until
  unfold casD at *
  generalize clmE c claim tick 122 1 = E at *
  (have hg : (987654321 : Nat) - 987654321 = 0 := rfl; have hr := hg; repeat' (first | refine aw_seq ?_ | (refine aw_skip ?_; repeat' (first | with_reducible refine thenQ_n ?_ | with_reducible refine blockQ_n ?_ | with_reducible refine thenQ_e ?_ | with_reducible refine blockQ_t ?_ | with_reducible refine blockQ_f (by decide) ?_)) | (refine aw_exit ?_; repeat' (first | with_reducible refine thenQ_n ?_ | with_reducible refine blockQ_n ?_ | with_reducible refine thenQ_e ?_ | with_reducible refine blockQ_t ?_ | with_reducible refine blockQ_f (by decide) ?_)) | refine aw_ret ?_ | refine aw_block ?_ | refine aw_condT rfl ?_ | refine aw_condF rfl ?_ | ((first | refine aw_hide fun K hK => aw_region ?_ | refine acall0 (ck) ?_ | refine ago_if (by omega) ?_ | skip); simp (config := {maxSteps := 10000000}) (disch := first | exact okYes (by kernel_rfl) | omega) only [List.length, Nat.zero_add, Nat.reduceAdd, Nat.reduceMul, envOf, dI, ARun_none, AOpRun, aexec, D.isBot, FSt.ev, St.F, ↓eget_h, Bool.false_eq_true, Option.isSome, hget_n, or_self, ↓reduceIte, D.cells, AGo_ok, St.app, putO, eput_c, Nat.reduceBEq, eput_n, cond_false, hups, hput_n, List.map, ARun_nil, dropE_c, inL_n, dropE_n, eget_c, hget_c, beq_self_eq_true, cond_true, Nat.reduceLeDiff, List.drop, List.take, inL_c, isSh, Option.map, abin, q, thenQ]) | (subst hK; repeat' (first | with_reducible refine thenQ_n ?_ | with_reducible refine blockQ_n ?_ | with_reducible refine thenQ_e ?_ | with_reducible refine blockQ_t ?_ | with_reducible refine blockQ_f (by decide) ?_))))
  all_goals (refine end_to [] [] (by first | exact .inl rfl | exact .inr rfl) rfl (by kernel_rfl) (by kernel_rfl) (by kernel_rfl) ?_ ?_ <;> repeat' (first | exact trivial | exact vr_val _ | apply vr_tup | apply And.intro))
set_option maxRecDepth 100000 in
set_option maxHeartbeats 1000000 in
theorem weakP_er (c : Cas) (hi : CasIn c) (claim tick : Int) (h0 : clmE c claim tick 122 1 ≠ 0) : AC Try.prog 39 [casD c, dI claim, dI tick] [] [] (.tup [.list [], dI (clmE c claim tick 122 1)]) := by
  refine krecord_Weak.ac (n0 := 0) (by simp) ⟨in_cas _ _, .val _, .val _, trivial⟩ trivial rfl ?_
  have ck := ccheck_ac c hi claim tick
  have q : (clmE c claim tick 122 1 != 0) = true := by simpa using h0
  unfold crecord_Weak
  unfold casD at *
  generalize clmE c claim tick 122 1 = E at *
  (have hg : (987654321 : Nat) - 987654321 = 0 := rfl; have hr := hg; repeat' (first | refine aw_seq ?_ | (refine aw_skip ?_; repeat' (first | with_reducible refine thenQ_n ?_ | with_reducible refine blockQ_n ?_ | with_reducible refine thenQ_e ?_ | with_reducible refine blockQ_t ?_ | with_reducible refine blockQ_f (by decide) ?_)) | (refine aw_exit ?_; repeat' (first | with_reducible refine thenQ_n ?_ | with_reducible refine blockQ_n ?_ | with_reducible refine thenQ_e ?_ | with_reducible refine blockQ_t ?_ | with_reducible refine blockQ_f (by decide) ?_)) | refine aw_ret ?_ | refine aw_block ?_ | refine aw_condT rfl ?_ | refine aw_condF rfl ?_ | ((first | refine aw_hide fun K hK => aw_region ?_ | refine acall0 (ck) ?_ | refine ago_if (by omega) ?_ | skip); simp (config := {maxSteps := 10000000}) (disch := first | exact okYes (by kernel_rfl) | omega) only [List.length, Nat.zero_add, Nat.reduceAdd, Nat.reduceMul, envOf, dI, ARun_none, AOpRun, aexec, D.isBot, FSt.ev, St.F, ↓eget_h, Bool.false_eq_true, Option.isSome, hget_n, or_self, ↓reduceIte, D.cells, AGo_ok, St.app, putO, eput_c, Nat.reduceBEq, eput_n, cond_false, hups, hput_n, List.map, ARun_nil, dropE_c, inL_n, dropE_n, eget_c, hget_c, beq_self_eq_true, cond_true, Nat.reduceLeDiff, List.drop, List.take, inL_c, isSh, Option.map, abin, q, thenQ]) | (subst hK; repeat' (first | with_reducible refine thenQ_n ?_ | with_reducible refine blockQ_n ?_ | with_reducible refine thenQ_e ?_ | with_reducible refine blockQ_t ?_ | with_reducible refine blockQ_f (by decide) ?_))))
  all_goals (refine end_to [] [] (by first | exact .inl rfl | exact .inr rfl) rfl (by kernel_rfl) (by kernel_rfl) (by kernel_rfl) ?_ ?_ <;> repeat' (first | exact trivial | exact vr_val _ | exact vr_nil | apply vr_tup | apply And.intro))
set_option maxRecDepth 100000 in
set_option maxHeartbeats 1000000 in
theorem renewP_er (c : Cas) (hi : CasIn c) (claim tick : Int) (h0 : clmE c claim tick 122 1 ≠ 0) : AC Try.prog 41 [casD c, dI claim, dI tick] [] [] (.tup [.list [], dI (clmE c claim tick 122 1)]) := by
  refine krecord_Renew.ac (n0 := 0) (by simp) ⟨in_cas _ _, .val _, .val _, trivial⟩ trivial rfl ?_
  have ck := ccheck_ac c hi claim tick
  have q : (clmE c claim tick 122 1 != 0) = true := by simpa using h0
  unfold crecord_Renew
  unfold casD at *
  generalize clmE c claim tick 122 1 = E at *
  (have hg : (987654321 : Nat) - 987654321 = 0 := rfl; have hr := hg; repeat' (first | refine aw_seq ?_ | (refine aw_skip ?_; repeat' (first | with_reducible refine thenQ_n ?_ | with_reducible refine blockQ_n ?_ | with_reducible refine thenQ_e ?_ | with_reducible refine blockQ_t ?_ | with_reducible refine blockQ_f (by decide) ?_)) | (refine aw_exit ?_; repeat' (first | with_reducible refine thenQ_n ?_ | with_reducible refine blockQ_n ?_ | with_reducible refine thenQ_e ?_ | with_reducible refine blockQ_t ?_ | with_reducible refine blockQ_f (by decide) ?_)) | refine aw_ret ?_ | refine aw_block ?_ | refine aw_condT rfl ?_ | refine aw_condF rfl ?_ | ((first | refine aw_hide fun K hK => aw_region ?_ | refine acall0 (ck) ?_ | refine ago_if (by omega) ?_ | skip); simp (config := {maxSteps := 10000000}) (disch := first | exact okYes (by kernel_rfl) | omega) only [List.length, Nat.zero_add, Nat.reduceAdd, Nat.reduceMul, envOf, dI, ARun_none, AOpRun, aexec, D.isBot, FSt.ev, St.F, ↓eget_h, Bool.false_eq_true, Option.isSome, hget_n, or_self, ↓reduceIte, D.cells, AGo_ok, St.app, putO, eput_c, Nat.reduceBEq, eput_n, cond_false, hups, hput_n, List.map, eget_c, hget_c, hput_c, ARun_nil, dropE_c, inL_n, dropE_n, beq_self_eq_true, cond_true, Nat.reduceLeDiff, List.drop, List.take, Option.map, run1, ↓hget_h, List.getElem?_cons_zero, inL_c, isSh, abin, q, thenQ]) | (subst hK; repeat' (first | with_reducible refine thenQ_n ?_ | with_reducible refine blockQ_n ?_ | with_reducible refine thenQ_e ?_ | with_reducible refine blockQ_t ?_ | with_reducible refine blockQ_f (by decide) ?_))))
  all_goals (refine end_to [] [] (by first | exact .inl rfl | exact .inr rfl) rfl (by kernel_rfl) (by kernel_rfl) (by kernel_rfl) ?_ ?_ <;> repeat' (first | exact trivial | exact vr_val _ | exact vr_nil | apply vr_tup | apply And.intro))
set_option maxRecDepth 100000 in
set_option maxHeartbeats 1000000 in
theorem holdsR_er (c : Cas) (hi : CasIn c) (claim tick : Int) (h0 : clmE c claim tick 122 1 ≠ 0) : AC Try.prog 36 [casD c, dI claim, dI tick] [] [] (.tup [dB false, dI (clmE c claim tick 122 1)]) := by
  refine kref12_Holds.ac (n0 := 0) (by simp) ⟨in_cas _ _, .val _, .val _, trivial⟩ trivial rfl ?_
  have ck := rclaim_ac c hi claim tick
  have q : (clmE c claim tick 122 1 != 0) = true := by simpa using h0
  unfold cref12_Holds
  unfold casD at *
  generalize clmE c claim tick 122 1 = E at *
  (have hg : (987654321 : Nat) - 987654321 = 0 := rfl; have hr := hg; repeat' (first | refine aw_seq ?_ | (refine aw_skip ?_; repeat' (first | with_reducible refine thenQ_n ?_ | with_reducible refine blockQ_n ?_ | with_reducible refine thenQ_e ?_ | with_reducible refine blockQ_t ?_ | with_reducible refine blockQ_f (by decide) ?_)) | (refine aw_exit ?_; repeat' (first | with_reducible refine thenQ_n ?_ | with_reducible refine blockQ_n ?_ | with_reducible refine thenQ_e ?_ | with_reducible refine blockQ_t ?_ | with_reducible refine blockQ_f (by decide) ?_)) | refine aw_ret ?_ | refine aw_block ?_ | refine aw_condT rfl ?_ | refine aw_condF rfl ?_ | ((first | refine aw_hide fun K hK => aw_region ?_ | refine acall0 (ck) ?_ | refine ago_if (by omega) ?_ | skip); simp (config := {maxSteps := 10000000}) (disch := first | exact okYes (by kernel_rfl) | omega) only [List.length, Nat.zero_add, Nat.reduceAdd, Nat.reduceMul, envOf, dI, ARun_none, AOpRun, aexec, D.isBot, FSt.ev, St.F, ↓eget_h, Bool.false_eq_true, Option.isSome, hget_n, or_self, ↓reduceIte, D.cells, AGo_ok, St.app, putO, eput_c, Nat.reduceBEq, eput_n, cond_false, hups, hput_n, List.map, ARun_nil, dropE_c, inL_n, dropE_n, eget_c, hget_c, beq_self_eq_true, cond_true, Nat.reduceLeDiff, List.drop, List.take, inL_c, isSh, Option.map, abin, q, thenQ, dB]) | (subst hK; repeat' (first | with_reducible refine thenQ_n ?_ | with_reducible refine blockQ_n ?_ | with_reducible refine thenQ_e ?_ | with_reducible refine blockQ_t ?_ | with_reducible refine blockQ_f (by decide) ?_))))
  all_goals (refine end_to [] [] (by first | exact .inl rfl | exact .inr rfl) rfl (by kernel_rfl) (by kernel_rfl) (by kernel_rfl) ?_ ?_ <;> repeat' (first | exact trivial | exact vr_val _ | apply vr_tup | apply And.intro))
set_option maxRecDepth 100000 in
set_option maxHeartbeats 1000000 in
theorem untilR_er (c : Cas) (hi : CasIn c) (claim tick : Int) (h0 : clmE c claim tick 122 1 ≠ 0) : AC Try.prog 38 [casD c, dI claim, dI tick] [] [] (.tup [dI 0, dI (clmE c claim tick 122 1)]) := by
  refine kref12_Until.ac (n0 := 0) (by simp) ⟨in_cas _ _, .val _, .val _, trivial⟩ trivial rfl ?_
  have ck := rclaim_ac c hi claim tick
  have q : (clmE c claim tick 122 1 != 0) = true := by simpa using h0
  unfold cref12_Until
  unfold casD at *
  generalize clmE c claim tick 122 1 = E at *
  (have hg : (987654321 : Nat) - 987654321 = 0 := rfl; have hr := hg; repeat' (first | refine aw_seq ?_ | (refine aw_skip ?_; repeat' (first | with_reducible refine thenQ_n ?_ | with_reducible refine blockQ_n ?_ | with_reducible refine thenQ_e ?_ | with_reducible refine blockQ_t ?_ | with_reducible refine blockQ_f (by decide) ?_)) | (refine aw_exit ?_; repeat' (first | with_reducible refine thenQ_n ?_ | with_reducible refine blockQ_n ?_ | with_reducible refine thenQ_e ?_ | with_reducible refine blockQ_t ?_ | with_reducible refine blockQ_f (by decide) ?_)) | refine aw_ret ?_ | refine aw_block ?_ | refine aw_condT rfl ?_ | refine aw_condF rfl ?_ | ((first | refine aw_hide fun K hK => aw_region ?_ | refine acall0 (ck) ?_ | refine ago_if (by omega) ?_ | skip); simp (config := {maxSteps := 10000000}) (disch := first | exact okYes (by kernel_rfl) | omega) only [List.length, Nat.zero_add, Nat.reduceAdd, Nat.reduceMul, envOf, dI, ARun_none, AOpRun, aexec, D.isBot, FSt.ev, St.F, ↓eget_h, Bool.false_eq_true, Option.isSome, hget_n, or_self, ↓reduceIte, D.cells, AGo_ok, St.app, putO, eput_c, Nat.reduceBEq, eput_n, cond_false, hups, hput_n, List.map, ARun_nil, dropE_c, inL_n, dropE_n, eget_c, hget_c, beq_self_eq_true, cond_true, Nat.reduceLeDiff, List.drop, List.take, inL_c, isSh, Option.map, abin, q, thenQ]) | (subst hK; repeat' (first | with_reducible refine thenQ_n ?_ | with_reducible refine blockQ_n ?_ | with_reducible refine thenQ_e ?_ | with_reducible refine blockQ_t ?_ | with_reducible refine blockQ_f (by decide) ?_))))
  all_goals (refine end_to [] [] (by first | exact .inl rfl | exact .inr rfl) rfl (by kernel_rfl) (by kernel_rfl) (by kernel_rfl) ?_ ?_ <;> repeat' (first | exact trivial | exact vr_val _ | apply vr_tup | apply And.intro))
set_option maxRecDepth 100000 in
set_option maxHeartbeats 1000000 in
theorem weakR_er (c : Cas) (hi : CasIn c) (claim tick : Int) (h0 : clmE c claim tick 122 1 ≠ 0) : AC Try.prog 40 [casD c, dI claim, dI tick] [] [] (.tup [.list [], dI (clmE c claim tick 122 1)]) := by
  refine kref12_Weak.ac (n0 := 0) (by simp) ⟨in_cas _ _, .val _, .val _, trivial⟩ trivial rfl ?_
  have ck := holdsR_er c hi claim tick h0
  have q : (clmE c claim tick 122 1 != 0) = true := by simpa using h0
  unfold cref12_Weak
  unfold casD at *
  generalize clmE c claim tick 122 1 = E at *
  (have hg : (987654321 : Nat) - 987654321 = 0 := rfl; have hr := hg; repeat' (first | refine aw_seq ?_ | (refine aw_skip ?_; repeat' (first | with_reducible refine thenQ_n ?_ | with_reducible refine blockQ_n ?_ | with_reducible refine thenQ_e ?_ | with_reducible refine blockQ_t ?_ | with_reducible refine blockQ_f (by decide) ?_)) | (refine aw_exit ?_; repeat' (first | with_reducible refine thenQ_n ?_ | with_reducible refine blockQ_n ?_ | with_reducible refine thenQ_e ?_ | with_reducible refine blockQ_t ?_ | with_reducible refine blockQ_f (by decide) ?_)) | refine aw_ret ?_ | refine aw_block ?_ | refine aw_condT rfl ?_ | refine aw_condF rfl ?_ | ((first | refine aw_hide fun K hK => aw_region ?_ | refine acall0 (ck) ?_ | refine ago_if (by omega) ?_ | skip); simp (config := {maxSteps := 10000000}) (disch := first | exact okYes (by kernel_rfl) | omega) only [List.length, Nat.zero_add, Nat.reduceAdd, Nat.reduceMul, envOf, dI, ARun_none, AOpRun, aexec, D.isBot, FSt.ev, St.F, ↓eget_h, Bool.false_eq_true, Option.isSome, hget_n, or_self, ↓reduceIte, D.cells, AGo_ok, St.app, putO, eput_c, Nat.reduceBEq, eput_n, cond_false, hups, hput_n, List.map, ARun_nil, dropE_c, inL_n, dropE_n, eget_c, hget_c, beq_self_eq_true, cond_true, Nat.reduceLeDiff, List.drop, List.take, dB, opt1, Option.map, List.getElem?_cons_zero, List.getElem?_cons_succ, inL_c, isSh, abin, q, thenQ]) | (subst hK; repeat' (first | with_reducible refine thenQ_n ?_ | with_reducible refine blockQ_n ?_ | with_reducible refine thenQ_e ?_ | with_reducible refine blockQ_t ?_ | with_reducible refine blockQ_f (by decide) ?_))))
  all_goals (refine end_to [] [] (by first | exact .inl rfl | exact .inr rfl) rfl (by kernel_rfl) (by kernel_rfl) (by kernel_rfl) ?_ ?_ <;> repeat' (first | exact trivial | exact vr_val _ | exact vr_nil | apply vr_tup | apply And.intro))
set_option maxRecDepth 100000 in
set_option maxHeartbeats 1000000 in
theorem renewR_er (c : Cas) (hi : CasIn c) (claim tick : Int) (h0 : clmE c claim tick 122 1 ≠ 0) : AC Try.prog 42 [casD c, dI claim, dI tick] [] [] (.tup [.list [], dI (clmE c claim tick 122 1)]) := by
  refine kref12_Renew.ac (n0 := 0) (by simp) ⟨in_cas _ _, .val _, .val _, trivial⟩ trivial rfl ?_
  have ck := rclaim_ac c hi claim tick
  have q : (clmE c claim tick 122 1 != 0) = true := by simpa using h0
  unfold cref12_Renew
  unfold casD at *
  generalize clmE c claim tick 122 1 = E at *
  (have hg : (987654321 : Nat) - 987654321 = 0 := rfl; have hr := hg; repeat' (first | refine aw_seq ?_ | (refine aw_skip ?_; repeat' (first | with_reducible refine thenQ_n ?_ | with_reducible refine blockQ_n ?_ | with_reducible refine thenQ_e ?_ | with_reducible refine blockQ_t ?_ | with_reducible refine blockQ_f (by decide) ?_)) | (refine aw_exit ?_; repeat' (first | with_reducible refine thenQ_n ?_ | with_reducible refine blockQ_n ?_ | with_reducible refine thenQ_e ?_ | with_reducible refine blockQ_t ?_ | with_reducible refine blockQ_f (by decide) ?_)) | refine aw_ret ?_ | refine aw_block ?_ | refine aw_condT rfl ?_ | refine aw_condF rfl ?_ | ((first | refine aw_hide fun K hK => aw_region ?_ | refine acall0 (ck) ?_ | refine ago_if (by omega) ?_ | skip); simp (config := {maxSteps := 10000000}) (disch := first | exact okYes (by kernel_rfl) | omega) only [List.length, Nat.zero_add, Nat.reduceAdd, Nat.reduceMul, envOf, dI, ARun_none, AOpRun, aexec, D.isBot, FSt.ev, St.F, ↓eget_h, Bool.false_eq_true, Option.isSome, hget_n, or_self, ↓reduceIte, D.cells, AGo_ok, St.app, putO, eput_c, Nat.reduceBEq, eput_n, cond_false, hups, hput_n, List.map, ARun_nil, dropE_c, inL_n, dropE_n, eget_c, hget_c, beq_self_eq_true, cond_true, Nat.reduceLeDiff, List.drop, List.take, inL_c, isSh, Option.map, abin, q, thenQ]) | (subst hK; repeat' (first | with_reducible refine thenQ_n ?_ | with_reducible refine blockQ_n ?_ | with_reducible refine thenQ_e ?_ | with_reducible refine blockQ_t ?_ | with_reducible refine blockQ_f (by decide) ?_))))
  all_goals (refine end_to [] [] (by first | exact .inl rfl | exact .inr rfl) rfl (by kernel_rfl) (by kernel_rfl) (by kernel_rfl) ?_ ?_ <;> repeat' (first | exact trivial | exact vr_val _ | exact vr_nil | apply vr_tup | apply And.intro))
set_option maxRecDepth 100000 in
set_option maxHeartbeats 2000000 in
theorem holdsP_ok (c : Cas) (hi : CasIn c) (cl tk : Nat) (h0 : clmE c cl tk 122 1 = 0) : AC Try.prog 35 [casD c, dI cl, dI tk] [] [] (.tup [dB (holdC c cl (cntT c tk)), dI 0]) := by
  refine krecord_Holds.ac (n0 := 0) (by simp) ⟨in_cas _ _, .val _, .val _, trivial⟩ trivial rfl ?_
  obtain ⟨hc, cl', tk', e1, e2, hcl, htk⟩ := clmE_ok h0
  obtain rfl : cl = cl' := by omega
  obtain rfl : tk = tk' := by omega
  clear e1 e2
  have ck := ccheck_ac c hi cl tk
  rw [h0] at ck
  have hh := holds_ac c hc cl hcl (cntN c tk) (cntN_lt hc tk)
  have cc := counting_ac c hc.n2 (tk : Int)
  rw [cntN_fun] at hh
  unfold crecord_Holds
  unfold casD at *
  generalize cntN c tk = p at *
  generalize holdC c cl (cntT c tk) = B at *
  (have hg : (987654321 : Nat) - 987654321 = 0 := rfl; have hr := hg; repeat' (first | refine aw_seq ?_ | (refine aw_skip ?_; repeat' (first | with_reducible refine thenQ_n ?_ | with_reducible refine blockQ_n ?_ | with_reducible refine thenQ_e ?_ | with_reducible refine blockQ_t ?_ | with_reducible refine blockQ_f (by decide) ?_)) | (refine aw_exit ?_; repeat' (first | with_reducible refine thenQ_n ?_ | with_reducible refine blockQ_n ?_ | with_reducible refine thenQ_e ?_ | with_reducible refine blockQ_t ?_ | with_reducible refine blockQ_f (by decide) ?_)) | refine aw_ret ?_ | refine aw_block ?_ | refine aw_condT rfl ?_ | refine aw_condF rfl ?_ | ((first | refine aw_hide fun K hK => aw_region ?_ | refine acall0 (ck) ?_ | refine acall0 (cc) ?_ | refine acall0 (hh) ?_ | refine ago_if (by omega) ?_ | skip); simp (config := {maxSteps := 10000000}) (disch := first | exact okYes (by kernel_rfl) | omega) only [List.length, Nat.zero_add, Nat.reduceAdd, Nat.reduceMul, envOf, dI, ARun_none, AOpRun, aexec, D.isBot, FSt.ev, St.F, ↓eget_h, Bool.false_eq_true, Option.isSome, hget_n, or_self, ↓reduceIte, D.cells, AGo_ok, St.app, putO, eput_c, Nat.reduceBEq, eput_n, cond_false, hups, hput_n, List.map, ARun_nil, dropE_c, inL_n, dropE_n, eget_c, hget_c, beq_self_eq_true, cond_true, Nat.reduceLeDiff, List.drop, List.take, inL_c, isSh, Option.map, abin, bne_self_eq_false, dB]) | (subst hK; repeat' (first | with_reducible refine thenQ_n ?_ | with_reducible refine blockQ_n ?_ | with_reducible refine thenQ_e ?_ | with_reducible refine blockQ_t ?_ | with_reducible refine blockQ_f (by decide) ?_))))
  all_goals (refine end_to [] [] (by first | exact .inl rfl | exact .inr rfl) rfl (by kernel_rfl) (by kernel_rfl) (by kernel_rfl) ?_ ?_ <;> repeat' (first | exact trivial | exact vr_val _ | apply vr_tup | apply And.intro))
theorem cnL_fun (c : Cas) (tick : Int) : (fun j : Nat => (cnL c tick)[j]?.getD false) = cntT c tick := funext fun j => cnL_at c tick j
theorem rhold_cn (c : Cas) (hc : CasOk c) (cl : Nat) (hcl : cl < c.cl.length) (tick : Int) : AC Try.prog 85 [casD c, dI cl, .list (bools (cnL c tick))] [] [] (dB (holdC c cl (cntT c tick))) := by
  have h := rholds_ac c hc cl hcl (cnL c tick) (cnL_len c tick)
  rwa [cnL_fun] at h
set_option maxRecDepth 100000 in
set_option maxHeartbeats 2000000 in
theorem holdsR_ok (c : Cas) (hi : CasIn c) (cl tk : Nat) (h0 : clmE c cl tk 122 1 = 0) : AC Try.prog 36 [casD c, dI cl, dI tk] [] [] (.tup [dB (holdC c cl (cntT c tk)), dI 0]) := by
  refine kref12_Holds.ac (n0 := 0) (by simp) ⟨in_cas _ _, .val _, .val _, trivial⟩ trivial rfl ?_
  obtain ⟨hc, cl', tk', e1, e2, hcl, htk⟩ := clmE_ok h0
  obtain rfl : cl = cl' := by omega
  obtain rfl : tk = tk' := by omega
  clear e1 e2
  have ck := rclaim_ac c hi cl tk
  rw [h0] at ck
  have hh := rhold_cn c hc cl hcl tk
  have cc := counts_ac c hc (tk : Int)
  have hL := cnL_len c (tk : Int)
  unfold cref12_Holds
  unfold casD at *
  generalize cnL c tk = L at *
  generalize holdC c cl (cntT c tk) = B at *
  refine aw_seq (aw_region ?_)
  simp (config := {maxSteps := 10000000}) (disch := first | exact okYes (by kernel_rfl) | omega) only [thenQ, List.map, dB, dI, List.length, Nat.zero_add, Nat.reduceAdd, Nat.reduceMul, envOf, ARun_none, AOpRun, aexec, D.isBot, FSt.ev, St.F, ↓eget_h, Bool.false_eq_true, Option.isSome, hget_n, or_self, ↓reduceIte, D.cells, AGo_ok, St.app, putO, eput_c, Nat.reduceBEq, eput_n, cond_false, hups, hput_n, ARun_nil, dropE_c, inL_n, dropE_n]
  refine aw_seq (aw_region ?_)
  simp (config := {maxSteps := 10000000}) (disch := first | exact okYes (by kernel_rfl) | omega) only [thenQ, List.length, Nat.zero_add, Nat.reduceAdd, Nat.reduceMul, ARun_none, AOpRun, aexec, FSt.ev, St.F, eget_c, Nat.reduceBEq, ↓eget_h, cond_false, hget_c, beq_self_eq_true, hget_n, cond_true, Nat.reduceLeDiff, ↓reduceIte, List.drop, List.take, AGo_ok, St.app, putO, eput_c, eput_n, hups, List.map]
  refine acall0 ck ?_
  simp (config := {maxSteps := 10000000}) (disch := first | exact okYes (by kernel_rfl) | omega) only [Nat.reduceAdd, St.app, putO, dI, eput_c, Nat.reduceBEq, eput_n, cond_false, hups, ARun_none, AOpRun, aexec, FSt.ev, St.F, eget_c, ↓eget_h, AGo_ok, List.map, ARun_nil, dropE_c, inL_c, inL_n, beq_self_eq_true, cond_true, dropE_n]
  refine aw_seq (aw_seq (aw_region ?_))
  simp (config := {maxSteps := 10000000}) (disch := first | exact okYes (by kernel_rfl) | omega) only [thenQ, List.length, Nat.zero_add, Nat.reduceAdd, Nat.reduceMul, ARun_none, AOpRun, aexec, FSt.ev, St.F, eget_c, Nat.reduceBEq, ↓eget_h, cond_false, AGo_ok, St.app, putO, eput_c, eput_n, hups, List.map, isSh, Bool.false_eq_true, ↓reduceIte, Option.map, abin, bne_self_eq_false, ARun_nil, dropE_c, inL_c, inL_n, beq_self_eq_true, cond_true, dropE_n]
  refine aw_condF rfl (aw_skip ?_)
  refine aw_wk (s' := ⟨[(1, dI cl), (2, dI tk), (3, .ptr 0 0)], [(0, [.list (cls c.cl), .list (sps c.pf)])], 64⟩) ?_ ?_
  · unfold dI
    refine wk_to [] [(0, 0)] (by kernel_rfl) (by kernel_rfl) (by kernel_rfl) (by kernel_rfl) (by kernel_rfl) ?_ ?_ <;> repeat' (first | exact trivial | exact vr_val _ | exact vr_list _ | exact vr_ptr _ _ _ rfl | refine And.intro ⟨_, rfl, .inl ⟨_, rfl, by decide, ?_⟩⟩ ?_ | apply And.intro)
  refine aw_seq (aw_region ?_)
  simp (config := {maxSteps := 10000000}) (disch := first | exact okYes (by kernel_rfl) | omega) only [thenQ, List.length, Nat.zero_add, Nat.reduceAdd, Nat.reduceMul, dI, ARun_none, AOpRun, aexec, FSt.ev, St.F, eget_c, Nat.reduceBEq, ↓eget_h, cond_false, hget_c, beq_self_eq_true, hget_n, cond_true, Nat.reduceLeDiff, ↓reduceIte, List.drop, List.take, AGo_ok, St.app, putO, eput_c, eput_n, hups, List.map]
  refine acallB cc (by repeat' (first | exact trivial | exact rfl | refine And.intro ?_ ?_)) (by kernel_rfl) (by kernel_rfl) (by kernel_rfl) ?_
  simp (config := {maxSteps := 10000000}) (disch := first | exact okYes (by kernel_rfl) | omega) only [Nat.reduceAdd, St.app, putO, eput_c, Nat.reduceBEq, eput_n, cond_false, hups, hput_c, hput_n, List.map, List.append_nil, ARun_none, AOpRun, FSt.ev, St.F, eget_c, ↓eget_h]
  refine acall hh [96] ⟨.refl _, .refl _, vec_bools L (by simp) rfl hL, trivial⟩ (.inr (.val _)) (by intro g hg; simp at hg; subst hg; exact ⟨_, rfl⟩) (by kernel_rfl) ?_
  simp (config := {maxSteps := 10000000}) (disch := first | exact okYes (by kernel_rfl) | omega) only [Nat.reduceAdd, St.app, putO, dB, eput_c, Nat.reduceBEq, eput_n, cond_false, hups, ARun_none, AOpRun, aexec, FSt.ev, St.F, eget_c, ↓eget_h, AGo_ok, List.map, ARun_nil, dropE_c, inL_c, inL_n, beq_self_eq_true, cond_true, dropE_n]
  (have hg : (987654321 : Nat) - 987654321 = 0 := rfl; have hr := hg; repeat' (first | refine aw_seq ?_ | (refine aw_skip ?_; repeat' (first | with_reducible refine thenQ_n ?_ | with_reducible refine blockQ_n ?_ | with_reducible refine thenQ_e ?_ | with_reducible refine blockQ_t ?_ | with_reducible refine blockQ_f (by decide) ?_)) | (refine aw_exit ?_; repeat' (first | with_reducible refine thenQ_n ?_ | with_reducible refine blockQ_n ?_ | with_reducible refine thenQ_e ?_ | with_reducible refine blockQ_t ?_ | with_reducible refine blockQ_f (by decide) ?_)) | refine aw_ret ?_ | refine aw_block ?_ | refine aw_condT rfl ?_ | refine aw_condF rfl ?_ | ((first | refine aw_hide fun K hK => aw_region ?_ | refine ago_if (by omega) ?_ | skip); fail) | (subst hK; repeat' (first | with_reducible refine thenQ_n ?_ | with_reducible refine blockQ_n ?_ | with_reducible refine thenQ_e ?_ | with_reducible refine blockQ_t ?_ | with_reducible refine blockQ_f (by decide) ?_))))
  all_goals (refine end_to [] [] (by first | exact .inl rfl | exact .inr rfl) rfl (by kernel_rfl) (by kernel_rfl) (by kernel_rfl) ?_ ?_ <;> repeat' (first | exact trivial | exact vr_val _ | apply vr_tup | apply And.intro))
set_option maxRecDepth 100000 in
set_option maxHeartbeats 2000000 in
theorem untilR_ok (c : Cas) (hi : CasIn c) (cl tk : Nat) (h0 : clmE c cl tk 122 1 = 0) : AC Try.prog 38 [casD c, dI cl, dI tk] [] [] (if untT c cl tk = tk then .tup [dI 0, dI 3] else .tup [dI ((untT c cl tk : Nat) - 1 : Int), dI 0]) := by
  refine kref12_Until.ac (n0 := 0) (by simp) ⟨in_cas _ _, .val _, .val _, trivial⟩ trivial rfl ?_
  obtain ⟨hc, cl', tk', e1, e2, hcl, htk⟩ := clmE_ok h0
  obtain rfl : cl = cl' := by omega
  obtain rfl : tk = tk' := by omega
  clear e1 e2
  have ck := rclaim_ac c hi cl tk
  rw [h0] at ck
  have hh := fun t : Nat => rhold_cn c hc cl hcl t
  have cc := fun t : Nat => counts_ac c hc (t : Int)
  have hL := fun t : Nat => cnL_len c (t : Int)
  unfold cref12_Until
  unfold casD at *
  (have hg : (987654321 : Nat) - 987654321 = 0 := rfl; have hr := hg; repeat' (first | refine aw_seq ?_ | (refine aw_skip ?_; repeat' (first | with_reducible refine thenQ_n ?_ | with_reducible refine blockQ_n ?_ | with_reducible refine thenQ_e ?_ | with_reducible refine blockQ_t ?_ | with_reducible refine blockQ_f (by decide) ?_)) | (refine aw_exit ?_; repeat' (first | with_reducible refine thenQ_n ?_ | with_reducible refine blockQ_n ?_ | with_reducible refine thenQ_e ?_ | with_reducible refine blockQ_t ?_ | with_reducible refine blockQ_f (by decide) ?_)) | refine aw_ret ?_ | refine aw_block ?_ | refine aw_condT rfl ?_ | refine aw_condF rfl ?_ | ((first | refine aw_hide fun K hK => aw_region ?_ | refine acall0 (ck) ?_ | refine ago_if (by omega) ?_ | skip); simp (config := {maxSteps := 10000000}) (disch := first | exact okYes (by kernel_rfl) | omega) only [List.length, Nat.zero_add, Nat.reduceAdd, Nat.reduceMul, envOf, dI, ARun_none, AOpRun, aexec, D.isBot, FSt.ev, St.F, ↓eget_h, Bool.false_eq_true, Option.isSome, hget_n, or_self, ↓reduceIte, D.cells, AGo_ok, St.app, putO, eput_c, Nat.reduceBEq, eput_n, cond_false, hups, hput_n, List.map, ARun_nil, dropE_c, inL_n, dropE_n, eget_c, hget_c, beq_self_eq_true, cond_true, Nat.reduceLeDiff, List.drop, List.take, inL_c, isSh, Option.map, abin, bne_self_eq_false]) | (subst hK; repeat' (first | with_reducible refine thenQ_n ?_ | with_reducible refine blockQ_n ?_ | with_reducible refine thenQ_e ?_ | with_reducible refine blockQ_t ?_ | with_reducible refine blockQ_f (by decide) ?_))))
  refine aw_loop (fun t : Nat => ⟨[(1, dI cl), (2, dI tk), (3, .ptr 0 0), (9, dI t)], [(0, [.list (cls c.cl), .list (sps c.pf)])], 40⟩) (fun t => tk ≤ t ∧ t ≤ 2001 ∧ untF (hAtT c cl) (2001 - t) t = untT c cl tk) (fun t => 2001 - t) ⟨tk, ⟨by omega, by omega, rfl⟩, ?_⟩ ?_
  · refine wk_to [] [(0, 0)] (by kernel_rfl) (by kernel_rfl) (by kernel_rfl) (by kernel_rfl) (by kernel_rfl) ?_ ?_ <;> repeat' (first | exact trivial | exact vr_val _ | exact vr_list _ | exact vr_ptr _ _ _ rfl | refine And.intro ⟨_, rfl, .inl ⟨_, rfl, by decide, ?_⟩⟩ ?_ | apply And.intro)
  rintro t ⟨ht1, ht2, hu⟩
  have ht := hh t
  have ct := cc t
  have lt := hL t
  clear hh cc hL ck
  generalize cnL c t = L at *
  by_cases hle : t ≤ 2000
  case neg =>
    obtain rfl : t = 2001 := by omega
    have e : untT c cl tk = 2001 := by rw [← hu]; rfl
    rw [e, if_neg (by omega)]
    (have hg : (987654321 : Nat) - 987654321 = 0 := rfl; have hr := hg; repeat' (first | refine aw_seq ?_ | (refine aw_skip ?_; repeat' (first | with_reducible refine thenQ_n ?_ | with_reducible refine blockQ_n ?_ | with_reducible refine thenQ_e ?_ | with_reducible refine blockQ_t ?_ | with_reducible refine blockQ_f (by decide) ?_)) | (refine aw_exit ?_; repeat' (first | with_reducible refine thenQ_n ?_ | with_reducible refine blockQ_n ?_ | with_reducible refine thenQ_e ?_ | with_reducible refine blockQ_t ?_ | with_reducible refine blockQ_f (by decide) ?_)) | refine aw_ret ?_ | refine aw_block ?_ | refine aw_condT rfl ?_ | refine aw_condF rfl ?_ | (refine aw_cond rfl (fun hg => ?_) (fun hg => ?_) <;> (try (have hq := hg; simp only [Bool.not_eq_true', Bool.not_eq_false', Bool.and_eq_true, Bool.and_eq_false_iff, Bool.or_eq_true, Bool.or_eq_false_iff, decide_eq_true_eq, decide_eq_false_iff_not, bne_iff_ne, beq_iff_eq, beq_eq_false_iff_ne, bne_eq_false_iff_eq, ne_eq, Int.not_lt, Int.not_le, Decidable.not_not] at hq)) <;> (try (have hr := hg; simp only [decide_eq_true_eq, decide_eq_false_iff_not] at hr)) <;> (try (exfalso; omega))) | ((first | refine aw_hide fun K hK => aw_region ?_ | refine ago_if (by omega) ?_ | skip); simp (config := {maxSteps := 10000000}) (disch := first | exact okYes (by kernel_rfl) | omega) only [List.length, Nat.zero_add, Nat.reduceAdd, Nat.reduceMul, dI, cast_lit, ARun_none, AOpRun, aexec, FSt.ev, St.F, eget_c, Nat.reduceBEq, ↓eget_h, cond_false, AGo_ok, St.app, putO, eput_c, eput_n, hups, List.map, isSh, Bool.false_eq_true, ↓reduceIte, Option.map, abin, Int.reduceLE, decide_false, ARun_some, AG_ft, ARun_nil, dropE_c, inL_c, inL_n, beq_self_eq_true, cond_true, dropE_n, hg, Int.reduceSub, fits]) | (subst hK; repeat' (first | with_reducible refine thenQ_n ?_ | with_reducible refine blockQ_n ?_ | with_reducible refine thenQ_e ?_ | with_reducible refine blockQ_t ?_ | with_reducible refine blockQ_f (by decide) ?_))))
    all_goals (refine end_to [] [] (by first | exact .inl rfl | exact .inr rfl) rfl (by kernel_rfl) (by kernel_rfl) (by kernel_rfl) ?_ ?_ <;> repeat' (first | exact trivial | exact vr_val _ | apply vr_tup | apply And.intro))
  have q1 : decide ((t : Int) ≤ 2000) = true := decide_eq_true (by omega)
  refine aw_seq (aw_seq (aw_region ?_))
  simp (config := {maxSteps := 10000000}) (disch := first | exact okYes (by kernel_rfl) | omega) only [thenQ, dI, List.length, Nat.zero_add, Nat.reduceAdd, Nat.reduceMul, ARun_none, AOpRun, aexec, FSt.ev, St.F, eget_c, Nat.reduceBEq, ↓eget_h, cond_false, AGo_ok, St.app, putO, eput_c, eput_n, hups, List.map, isSh, Bool.false_eq_true, ↓reduceIte, Option.map, abin, q1, ARun_some, AG_tt, hget_c, beq_self_eq_true, hget_n, cond_true, Nat.reduceLeDiff, List.drop, List.take]
  refine acallB ct (by repeat' (first | exact trivial | exact rfl | refine And.intro ?_ ?_)) (by kernel_rfl) (by kernel_rfl) (by kernel_rfl) ?_
  simp (config := {maxSteps := 10000000}) (disch := first | exact okYes (by kernel_rfl) | omega) only [Nat.reduceAdd, St.app, putO, eput_c, Nat.reduceBEq, eput_n, cond_false, hups, hput_c, hput_n, List.map, List.append_nil, ARun_some, eget_c, ↓eget_h, AG_tt, AOpRun, FSt.ev, St.F]
  refine acall ht [96] ⟨.refl _, .refl _, vec_bools L (by simp) rfl lt, trivial⟩ (.inr (.val _)) (by intro g hg; simp at hg; subst hg; exact ⟨_, rfl⟩) (by kernel_rfl) ?_
  cases hv : holdC c cl (cntT c (t : Int)) with
  | false =>
    have e : untT c cl tk = t := by
      rw [← hu, show 2001 - t = (2000 - t) + 1 by omega]
      unfold untF
      rw [if_neg (by unfold hAtT; simp [hv])]
    rw [e]
    by_cases hte : t = tk
    · subst hte
      rw [if_pos rfl]
      simp (config := {maxSteps := 10000000}) (disch := first | exact okYes (by kernel_rfl) | omega) only [Nat.reduceAdd, St.app, putO, dB, eput_c, Nat.reduceBEq, eput_n, cond_false, hups, ARun_none, AOpRun, aexec, FSt.ev, St.F, eget_c, ↓eget_h, ↓reduceIte, AGo_ok, List.map, ARun_nil, dropE_c, inL_c, inL_n, beq_self_eq_true, cond_true, dropE_n]
      (have hg : (987654321 : Nat) - 987654321 = 0 := rfl; have hr := hg; repeat' (first | refine aw_seq ?_ | (refine aw_skip ?_; repeat' (first | with_reducible refine thenQ_n ?_ | with_reducible refine blockQ_n ?_ | with_reducible refine thenQ_e ?_ | with_reducible refine blockQ_t ?_ | with_reducible refine blockQ_f (by decide) ?_)) | (refine aw_exit ?_; repeat' (first | with_reducible refine thenQ_n ?_ | with_reducible refine blockQ_n ?_ | with_reducible refine thenQ_e ?_ | with_reducible refine blockQ_t ?_ | with_reducible refine blockQ_f (by decide) ?_)) | refine aw_ret ?_ | refine aw_block ?_ | refine aw_condT rfl ?_ | refine aw_condF rfl ?_ | ((first | refine aw_hide fun K hK => aw_region ?_ | refine ago_if (by omega) ?_ | skip); simp (config := {maxSteps := 10000000}) (disch := first | exact okYes (by kernel_rfl) | omega) only [List.length, Nat.zero_add, Nat.reduceAdd, Nat.reduceMul, ARun_none, AOpRun, aexec, FSt.ev, St.F, eget_c, Nat.reduceBEq, ↓eget_h, cond_false, AGo_ok, St.app, putO, eput_c, eput_n, hups, List.map, isSh, Bool.false_eq_true, ↓reduceIte, Option.map, abin, beq_self_eq_true, ARun_nil, dropE_c, inL_c, inL_n, cond_true, dropE_n, thenQ]) | (subst hK; repeat' (first | with_reducible refine thenQ_n ?_ | with_reducible refine blockQ_n ?_ | with_reducible refine thenQ_e ?_ | with_reducible refine blockQ_t ?_ | with_reducible refine blockQ_f (by decide) ?_))))
      all_goals (refine end_to [] [] (by first | exact .inl rfl | exact .inr rfl) rfl (by kernel_rfl) (by kernel_rfl) (by kernel_rfl) ?_ ?_ <;> repeat' (first | exact trivial | exact vr_val _ | apply vr_tup | apply And.intro))
    · rw [if_neg hte]
      have q2 : ((t : Int) == (tk : Int)) = false := by simp only [beq_eq_false_iff_ne]; omega
      simp (config := {maxSteps := 10000000}) (disch := first | exact okYes (by kernel_rfl) | omega) only [Nat.reduceAdd, St.app, putO, dB, eput_c, Nat.reduceBEq, eput_n, cond_false, hups, ARun_none, AOpRun, aexec, FSt.ev, St.F, eget_c, ↓eget_h, ↓reduceIte, AGo_ok, List.map, ARun_nil, dropE_c, inL_c, inL_n, beq_self_eq_true, cond_true, dropE_n]
      (have hg : (987654321 : Nat) - 987654321 = 0 := rfl; have hr := hg; repeat' (first | refine aw_seq ?_ | (refine aw_skip ?_; repeat' (first | with_reducible refine thenQ_n ?_ | with_reducible refine blockQ_n ?_ | with_reducible refine thenQ_e ?_ | with_reducible refine blockQ_t ?_ | with_reducible refine blockQ_f (by decide) ?_)) | (refine aw_exit ?_; repeat' (first | with_reducible refine thenQ_n ?_ | with_reducible refine blockQ_n ?_ | with_reducible refine thenQ_e ?_ | with_reducible refine blockQ_t ?_ | with_reducible refine blockQ_f (by decide) ?_)) | refine aw_ret ?_ | refine aw_block ?_ | refine aw_condT rfl ?_ | refine aw_condF rfl ?_ | ((first | refine aw_hide fun K hK => aw_region ?_ | refine ago_if (by omega) ?_ | skip); simp (config := {maxSteps := 10000000}) (disch := first | exact okYes (by kernel_rfl) | omega) only [List.length, Nat.zero_add, Nat.reduceAdd, Nat.reduceMul, ARun_none, AOpRun, aexec, FSt.ev, St.F, eget_c, Nat.reduceBEq, ↓eget_h, cond_false, AGo_ok, St.app, putO, eput_c, eput_n, hups, List.map, isSh, Bool.false_eq_true, ↓reduceIte, Option.map, abin, q2, ARun_nil, dropE_c, inL_c, inL_n, beq_self_eq_true, cond_true, dropE_n, fits]) | (subst hK; repeat' (first | with_reducible refine thenQ_n ?_ | with_reducible refine blockQ_n ?_ | with_reducible refine thenQ_e ?_ | with_reducible refine blockQ_t ?_ | with_reducible refine blockQ_f (by decide) ?_))))
      all_goals (refine end_to [] [] (by first | exact .inl rfl | exact .inr rfl) rfl (by kernel_rfl) (by kernel_rfl) (by kernel_rfl) ?_ ?_ <;> repeat' (first | exact trivial | exact vr_val _ | apply vr_tup | apply And.intro))
  | true =>
    have e : untF (hAtT c cl) (2001 - (t + 1)) (t + 1) = untT c cl tk := by
      rw [← hu, show 2001 - t = (2001 - (t + 1)) + 1 by omega]
      conv => rhs; unfold untF
      rw [if_pos (by unfold hAtT; exact hv)]
    simp (config := {maxSteps := 10000000}) (disch := first | exact okYes (by kernel_rfl) | omega) only [Nat.reduceAdd, St.app, putO, dB, eput_c, Nat.reduceBEq, eput_n, cond_false, hups, ARun_none, AOpRun, aexec, FSt.ev, St.F, eget_c, ↓eget_h, ↓reduceIte, AGo_ok, List.map, ARun_nil, dropE_c, inL_c, inL_n, beq_self_eq_true, cond_true, dropE_n]
    (have hg : (987654321 : Nat) - 987654321 = 0 := rfl; have hr := hg; repeat' (first | refine aw_seq ?_ | (refine aw_skip ?_; repeat' (first | with_reducible refine thenQ_n ?_ | with_reducible refine blockQ_n ?_ | with_reducible refine thenQ_e ?_ | with_reducible refine blockQ_t ?_ | with_reducible refine blockQ_f (by decide) ?_)) | (refine aw_exit ?_; repeat' (first | with_reducible refine thenQ_n ?_ | with_reducible refine blockQ_n ?_ | with_reducible refine thenQ_e ?_ | with_reducible refine blockQ_t ?_ | with_reducible refine blockQ_f (by decide) ?_)) | refine aw_ret ?_ | refine aw_block ?_ | refine aw_condT rfl ?_ | refine aw_condF rfl ?_ | ((first | refine aw_hide fun K hK => aw_region ?_ | refine ago_if (by omega) ?_ | skip); simp (config := {maxSteps := 10000000}) (disch := first | exact okYes (by kernel_rfl) | omega) only [List.length, Nat.zero_add, Nat.reduceAdd, Nat.reduceMul, ARun_none, AOpRun, aexec, FSt.ev, St.F, eget_c, Nat.reduceBEq, ↓eget_h, cond_false, AGo_ok, St.app, putO, eput_c, eput_n, hups, List.map, isSh, Bool.false_eq_true, ↓reduceIte, Option.map, abin, fits, beq_self_eq_true, cond_true, ARun_nil, dropE_c, inL_c, inL_n, dropE_n]) | (subst hK; repeat' (first | with_reducible refine thenQ_n ?_ | with_reducible refine blockQ_n ?_ | with_reducible refine thenQ_e ?_ | with_reducible refine blockQ_t ?_ | with_reducible refine blockQ_f (by decide) ?_))))
    refine ⟨t + 1, ⟨by omega, by omega, e⟩, by omega, ?_⟩
    refine wk_to [] [(0, 0)] (by kernel_rfl) (by kernel_rfl) (by kernel_rfl) (by kernel_rfl) (by kernel_rfl) ?_ ?_ <;> repeat' (first | exact trivial | exact vr_val _ | exact vr_list _ | exact vr_ptr _ _ _ rfl | refine And.intro ⟨_, rfl, .inl ⟨_, rfl, by decide, ?_⟩⟩ ?_ | apply And.intro)
end Go.Proofs.Ytdcodicoclecnaa
/- Weak, both sides. No conditions. -/
set_option linter.unusedSimpArgs false
set_option linter.unusedVariables false
namespace Go.Proofs.Ytdcodicoclecnaa
open Go Go.RowKit Lift

def lessF (c : Cas) (tick : Int) (k j : Nat) : Bool := cntT c tick j && !decide (j = k)
def weakB (c : Cas) (cl : Nat) (tick : Int) (k : Nat) : Bool := !holdC c cl (lessF c tick k)
def wkL (c : Cas) (cl : Nat) (tick : Int) (k : Nat) : List Int := ((List.range k).filter (weakB c cl tick)).map fun i : Nat => (i : Int)
theorem wkL_len (c : Cas) (cl : Nat) (tick : Int) (k : Nat) : (wkL c cl tick k).length ≤ k := by
  unfold wkL
  rw [List.length_map]
  exact Nat.le_trans (List.length_filter_le _ _) (by simp)
theorem wkL_t {c : Cas} {cl : Nat} {tick : Int} {k : Nat} (h : weakB c cl tick k = true) : wkL c cl tick (k + 1) = wkL c cl tick k ++ [(k : Int)] := by
  unfold wkL
  rw [List.range_succ, List.filter_append, List.map_append]
  simp [h]
theorem wkL_f {c : Cas} {cl : Nat} {tick : Int} {k : Nat} (h : weakB c cl tick k = false) : wkL c cl tick (k + 1) = wkL c cl tick k := by
  unfold wkL
  rw [List.range_succ, List.filter_append, List.map_append]
  simp [h]
theorem less_w {c : Cas} (hc : CasOk c) (tick : Int) {k : Nat} (hk : k < 12) : (wN (cntN c tick) k).testBit = lessF c tick k := funext fun j => by
  rw [wN_test (cntN_lt hc tick) hk, cntN_test]; rfl
theorem less_s (c : Cas) (tick : Int) (k : Nat) : (fun j : Nat => ((cnL c tick).set k false)[j]?.getD false) = lessF c tick k := funext fun j => by
  unfold lessF
  have h := cnL_at c tick j
  rw [List.getElem?_set]
  by_cases e : k = j
  · subst e
    rw [if_pos rfl]
    split <;> simp
  · rw [if_neg e, h]
    simp [Ne.symm e]
def weakD (c : Cas) (cl : Nat) (tick : Int) : D := if holdC c cl (cntT c tick) = true then .tup [.list (ints (wkL c cl tick c.pf.length)), dI 0] else .tup [.list [], dI 3]
set_option maxRecDepth 100000 in
set_option maxHeartbeats 4000000 in
theorem weakP_ok (c : Cas) (hi : CasIn c) (cl tk : Nat) (h0 : clmE c cl tk 122 1 = 0) : AC Try.prog 39 [casD c, dI cl, dI tk] [] [] (weakD c cl tk) := by
  refine krecord_Weak.ac (n0 := 0) (by simp) ⟨in_cas _ _, .val _, .val _, trivial⟩ trivial rfl ?_
  obtain ⟨hc, cl', tk', e1, e2, hcl, htk⟩ := clmE_ok h0
  obtain rfl : cl = cl' := by omega
  obtain rfl : tk = tk' := by omega
  clear e1 e2
  have ck := ccheck_ac c hi cl tk
  rw [h0] at ck
  have n2 := hc.n2
  have hh := holds_ac c hc cl hcl (cntN c tk) (cntN_lt hc tk)
  have cc := counting_ac c hc.n2 (tk : Int)
  have hw := fun (k : Nat) (hk : k < 12) => holds_ac c hc cl hcl (wN (cntN c tk) k) (wN_lt (cntN_lt hc tk))
  have ho := fun (k : Nat) (hk : k < 12) => pwithout_ac (cntN c tk) k (cntN_lt hc tk) hk
  have hq := fun (k : Nat) (hk : k < 12) => less_w hc (tk : Int) hk
  rw [cntN_fun] at hh
  unfold crecord_Weak
  unfold casD at *
  unfold weakD
  have pfl := sps_len c.pf
  generalize cntN c tk = p at *
  cases hB : holdC c cl (cntT c tk) with
  | false =>
    rw [hB] at hh
    rw [if_neg (by simp)]
    (have hg : (987654321 : Nat) - 987654321 = 0 := rfl; have hr := hg; repeat' (first | refine aw_seq ?_ | (refine aw_skip ?_; repeat' (first | with_reducible refine thenQ_n ?_ | with_reducible refine blockQ_n ?_ | with_reducible refine thenQ_e ?_ | with_reducible refine blockQ_t ?_ | with_reducible refine blockQ_f (by decide) ?_)) | (refine aw_exit ?_; repeat' (first | with_reducible refine thenQ_n ?_ | with_reducible refine blockQ_n ?_ | with_reducible refine thenQ_e ?_ | with_reducible refine blockQ_t ?_ | with_reducible refine blockQ_f (by decide) ?_)) | refine aw_ret ?_ | refine aw_block ?_ | refine aw_condT rfl ?_ | refine aw_condF rfl ?_ | ((first | refine aw_hide fun K hK => aw_region ?_ | refine acall0 (ck) ?_ | refine acall0 (cc) ?_ | refine acall0 (hh) ?_ | refine ago_if (by omega) ?_ | skip); simp (config := {maxSteps := 10000000}) (disch := first | exact okYes (by kernel_rfl) | omega) only [List.length, Nat.zero_add, Nat.reduceAdd, Nat.reduceMul, envOf, dI, ARun_none, AOpRun, aexec, D.isBot, FSt.ev, St.F, ↓eget_h, Bool.false_eq_true, Option.isSome, hget_n, or_self, ↓reduceIte, D.cells, AGo_ok, St.app, putO, eput_c, Nat.reduceBEq, eput_n, cond_false, hups, hput_n, List.map, ARun_nil, dropE_c, inL_n, dropE_n, eget_c, hget_c, beq_self_eq_true, cond_true, Nat.reduceLeDiff, List.drop, List.take, inL_c, isSh, Option.map, abin, bne_self_eq_false, dB, Bool.not_false, thenQ]) | (subst hK; repeat' (first | with_reducible refine thenQ_n ?_ | with_reducible refine blockQ_n ?_ | with_reducible refine thenQ_e ?_ | with_reducible refine blockQ_t ?_ | with_reducible refine blockQ_f (by decide) ?_))))
    all_goals (refine end_to [] [] (by first | exact .inl rfl | exact .inr rfl) rfl (by kernel_rfl) (by kernel_rfl) (by kernel_rfl) ?_ ?_ <;> repeat' (first | exact trivial | exact vr_val _ | exact vr_nil | apply vr_tup | apply And.intro))
  | true =>
  rw [hB] at hh
  rw [if_pos rfl]
  (have hg : (987654321 : Nat) - 987654321 = 0 := rfl; have hr := hg; repeat' (first | refine aw_seq ?_ | (refine aw_skip ?_; repeat' (first | with_reducible refine thenQ_n ?_ | with_reducible refine blockQ_n ?_ | with_reducible refine thenQ_e ?_ | with_reducible refine blockQ_t ?_ | with_reducible refine blockQ_f (by decide) ?_)) | (refine aw_exit ?_; repeat' (first | with_reducible refine thenQ_n ?_ | with_reducible refine blockQ_n ?_ | with_reducible refine thenQ_e ?_ | with_reducible refine blockQ_t ?_ | with_reducible refine blockQ_f (by decide) ?_)) | refine aw_ret ?_ | refine aw_block ?_ | refine aw_condT rfl ?_ | refine aw_condF rfl ?_ | ((first | refine aw_hide fun K hK => aw_region ?_ | refine acall0 (ck) ?_ | refine acall0 (cc) ?_ | refine acall0 (hh) ?_ | refine ago_if (by omega) ?_ | skip); simp (config := {maxSteps := 10000000}) (disch := first | exact okYes (by kernel_rfl) | omega) only [List.length, Nat.zero_add, Nat.reduceAdd, Nat.reduceMul, envOf, dI, ARun_none, AOpRun, aexec, D.isBot, FSt.ev, St.F, ↓eget_h, Bool.false_eq_true, Option.isSome, hget_n, or_self, ↓reduceIte, D.cells, AGo_ok, St.app, putO, eput_c, Nat.reduceBEq, eput_n, cond_false, hups, hput_n, List.map, ARun_nil, dropE_c, inL_n, dropE_n, eget_c, hget_c, beq_self_eq_true, cond_true, Nat.reduceLeDiff, List.drop, List.take, inL_c, isSh, Option.map, abin, bne_self_eq_false, dB, Bool.not_true, run1, List.getElem?_cons_succ, List.getElem?_cons_zero, pfl]) | (subst hK; repeat' (first | with_reducible refine thenQ_n ?_ | with_reducible refine blockQ_n ?_ | with_reducible refine thenQ_e ?_ | with_reducible refine blockQ_t ?_ | with_reducible refine blockQ_f (by decide) ?_))))
  clear hh cc ck
  refine aw_loop (fun k : Nat => ⟨[(1, dI cl), (3, .ptr 0 0), (6, .vec 24 (wkL c cl tk k).length 1), (9, dI p), (28, dI c.pf.length), (29, dI k)], [(0, [.list (cls c.cl), .list (sps c.pf)]), (24, icells (wkL c cl tk k))], 400⟩) (fun k => k ≤ c.pf.length) (fun k => c.pf.length - k) ⟨0, by omega, ?_⟩ ?_
  · show Wk _ _ ⟨[_, _, (6, .vec 24 0 1), _, _, _], [_, (24, [])], _⟩
    unfold dI
    refine wk_to [] [(0, 0), (24, 900)] (by kernel_rfl) (by kernel_rfl) (by kernel_rfl) (by kernel_rfl) (by kernel_rfl) ?_ ?_ <;> repeat' (first | exact trivial | exact vr_val _ | exact vr_list _ | exact vr_ptr _ _ _ rfl | exact vr_nilv _ _ _ rfl | refine And.intro ⟨_, rfl, .inl ⟨_, rfl, by decide, ?_⟩⟩ ?_ | refine And.intro ⟨_, rfl, .inr ⟨rfl, rfl, of_decide_eq_true (by kernel_rfl)⟩⟩ ?_ | apply And.intro)
  intro k hk
  by_cases hk2 : k < c.pf.length
  case neg =>
    obtain rfl : k = c.pf.length := by omega
    generalize wkL c cl tk c.pf.length = W at *
    have hin := icells_in W
    (have hg : (987654321 : Nat) - 987654321 = 0 := rfl; have hr := hg; repeat' (first | refine aw_seq ?_ | (refine aw_skip ?_; repeat' (first | with_reducible refine thenQ_n ?_ | with_reducible refine blockQ_n ?_ | with_reducible refine thenQ_e ?_ | with_reducible refine blockQ_t ?_ | with_reducible refine blockQ_f (by decide) ?_)) | (refine aw_exit ?_; repeat' (first | with_reducible refine thenQ_n ?_ | with_reducible refine blockQ_n ?_ | with_reducible refine thenQ_e ?_ | with_reducible refine blockQ_t ?_ | with_reducible refine blockQ_f (by decide) ?_)) | refine aw_ret ?_ | refine aw_block ?_ | refine aw_condT rfl ?_ | refine aw_condF rfl ?_ | (refine aw_cond rfl (fun hg => ?_) (fun hg => ?_) <;> (try (have hq := hg; simp only [Bool.not_eq_true', Bool.not_eq_false', Bool.and_eq_true, Bool.and_eq_false_iff, Bool.or_eq_true, Bool.or_eq_false_iff, decide_eq_true_eq, decide_eq_false_iff_not, bne_iff_ne, beq_iff_eq, beq_eq_false_iff_ne, bne_eq_false_iff_eq, ne_eq, Int.not_lt, Int.not_le, Decidable.not_not] at hq)) <;> (try (have hr := hg; simp only [decide_eq_true_eq, decide_eq_false_iff_not] at hr)) <;> (try (exfalso; omega))) | ((first | refine aw_hide fun K hK => aw_region ?_ | refine ago_if (by omega) ?_ | skip); simp (config := {maxSteps := 10000000}) (disch := first | exact okYes (by kernel_rfl) | omega) only [List.length, Nat.zero_add, Nat.reduceMul, Nat.reduceAdd, dI, ARun_none, AOpRun, aexec, FSt.ev, St.F, eget_c, Nat.reduceBEq, ↓eget_h, cond_false, isSh, Bool.false_eq_true, ↓reduceIte, Option.map, abin, AGo_ok, St.app, putO, eput_c, eput_n, hups, List.map, ARun_nil, dropE_c, inL_n, dropE_n, hr, decide_false, beq_self_eq_true, cond_true, inL_c]) | (subst hK; repeat' (first | with_reducible refine thenQ_n ?_ | with_reducible refine blockQ_n ?_ | with_reducible refine thenQ_e ?_ | with_reducible refine blockQ_t ?_ | with_reducible refine blockQ_f (by decide) ?_))))
    refine end_to [24] [] (by first | exact .inl rfl | exact .inr rfl) rfl (by kernel_rfl) (by kernel_rfl) (by kernel_rfl) ?_ ?_ <;> repeat' (first | exact trivial | exact vr_val _ | apply vr_tup | refine vr_fl _ _ _ _ _ (by decide) rfl ?_ ?_ ?_ ?_ | apply And.intro)
    all_goals first | exact ints_one _ | exact ints_len _ | exact ints_flat _ | exact icells_in _
  have hk12 : k < 12 := by omega
  have hw := hw k hk12
  have ho := ho k hk12
  rw [hq k hk12] at hw
  have hWl := wkL_len c cl tk k
  have hWb : (wkL c cl tk k).length ≤ 12 := by omega
  have hcl1 : (icells (wkL c cl tk k)).length = (wkL c cl tk k).length := icells_len _
  have hct : (icells (wkL c cl tk k)).take (wkL c cl tk k).length = icells (wkL c cl tk k) := List.take_of_length_le (by omega)
  have hlf := icells_leaf (wkL c cl tk k)
  have hin0 := icells_in (wkL c cl tk k)
  have ki : (k : Int) < (c.pf.length : Int) := by omega
  cases hb : weakB c cl tk k with
  | true =>
    have hs := wkL_t hb
    have hv : holdC c cl (lessF c tk k) = false := by unfold weakB at hb; simpa using hb
    rw [hv] at hw
    have hin : ∀ y ∈ icells (wkL c cl tk k) ++ [.val (.int .i64 (k : Int))], In (fun _ => False) y := by rw [ic_app]; exact icells_in _
    generalize wkL c cl tk k = W at *
    (have hg : (987654321 : Nat) - 987654321 = 0 := rfl; have hr := hg; repeat' (first | refine aw_seq ?_ | (refine aw_skip ?_; repeat' (first | with_reducible refine thenQ_n ?_ | with_reducible refine blockQ_n ?_ | with_reducible refine thenQ_e ?_ | with_reducible refine blockQ_t ?_ | with_reducible refine blockQ_f (by decide) ?_)) | (refine aw_exit ?_; repeat' (first | with_reducible refine thenQ_n ?_ | with_reducible refine blockQ_n ?_ | with_reducible refine thenQ_e ?_ | with_reducible refine blockQ_t ?_ | with_reducible refine blockQ_f (by decide) ?_)) | refine aw_ret ?_ | refine aw_block ?_ | refine aw_condT rfl ?_ | refine aw_condF rfl ?_ | ((first | refine aw_hide fun K hK => aw_region ?_ | refine acall0 (ho) ?_ | refine acall0 (hw) ?_ | refine ago_if (by omega) ?_ | skip); simp (config := {maxSteps := 10000000}) (disch := first | exact okYes (by kernel_rfl) | omega) only [List.length, Nat.zero_add, Nat.mul_one, Nat.reduceAdd, dI, ARun_none, AOpRun, aexec, FSt.ev, St.F, eget_c, Nat.reduceBEq, ↓eget_h, cond_false, isSh, Bool.false_eq_true, ↓reduceIte, Option.map, abin, ki, decide_true, AGo_ok, St.app, putO, eput_c, eput_n, hups, List.map, ARun_nil, dropE_c, inL_n, dropE_n, Nat.reduceMul, inL_c, beq_self_eq_true, cond_true, hget_c, hget_n, Nat.le_refl, List.drop, List.take, dB, Bool.not_false, Option.isSome, fillD, D.isBot, D.cells, ne_eq, not_true_eq_false, Nat.reduceGT, or_self, splice, List.nil_append, List.append_nil, hput_c, hput_n, base, ↓hget_h, hcl1, and_self, hct, elems, List.all, D.leaf, Bool.and_true, and_true, ups, List.cons_append, hdel_c, hdel_n, fits]) | (subst hK; repeat' (first | with_reducible refine thenQ_n ?_ | with_reducible refine blockQ_n ?_ | with_reducible refine thenQ_e ?_ | with_reducible refine blockQ_t ?_ | with_reducible refine blockQ_f (by decide) ?_))))
    refine ⟨k + 1, by omega, by omega, ?_⟩
    rw [hs, List.length_append, ← ic_app, List.length_singleton]
    refine wk_to [] [(0, 0), (24, 504)] (by kernel_rfl) (by kernel_rfl) (by kernel_rfl) (by kernel_rfl) (by kernel_rfl) ?_ ?_ <;> repeat' (first | exact trivial | exact vr_val _ | exact vr_list _ | exact vr_vec _ _ _ _ rfl | exact vr_ptr _ _ _ rfl | refine And.intro ⟨_, rfl, .inl ⟨_, rfl, by decide, ?_⟩⟩ ?_ | apply And.intro | exact vrl_flat _ (by first | exact icells_in _ | exact rcells_in _ | exact scells_in _ | exact bcells_in _ | assumption))
  | false =>
    have hs := wkL_f hb
    have hv : holdC c cl (lessF c tk k) = true := by unfold weakB at hb; simpa using hb
    rw [hv] at hw
    generalize hW : wkL c cl tk k = W at *
    (have hg : (987654321 : Nat) - 987654321 = 0 := rfl; have hr := hg; repeat' (first | refine aw_seq ?_ | (refine aw_skip ?_; repeat' (first | with_reducible refine thenQ_n ?_ | with_reducible refine blockQ_n ?_ | with_reducible refine thenQ_e ?_ | with_reducible refine blockQ_t ?_ | with_reducible refine blockQ_f (by decide) ?_)) | (refine aw_exit ?_; repeat' (first | with_reducible refine thenQ_n ?_ | with_reducible refine blockQ_n ?_ | with_reducible refine thenQ_e ?_ | with_reducible refine blockQ_t ?_ | with_reducible refine blockQ_f (by decide) ?_)) | refine aw_ret ?_ | refine aw_block ?_ | refine aw_condT rfl ?_ | refine aw_condF rfl ?_ | ((first | refine aw_hide fun K hK => aw_region ?_ | refine acall0 (ho) ?_ | refine acall0 (hw) ?_ | refine ago_if (by omega) ?_ | skip); simp (config := {maxSteps := 10000000}) (disch := first | exact okYes (by kernel_rfl) | omega) only [List.length, Nat.zero_add, Nat.mul_one, Nat.reduceAdd, dI, ARun_none, AOpRun, aexec, FSt.ev, St.F, eget_c, Nat.reduceBEq, ↓eget_h, cond_false, isSh, Bool.false_eq_true, ↓reduceIte, Option.map, abin, ki, decide_true, AGo_ok, St.app, putO, eput_c, eput_n, hups, List.map, ARun_nil, dropE_c, inL_n, dropE_n, Nat.reduceMul, inL_c, beq_self_eq_true, cond_true, hget_c, hget_n, Nat.le_refl, List.drop, List.take, dB, Bool.not_true, fits]) | (subst hK; repeat' (first | with_reducible refine thenQ_n ?_ | with_reducible refine blockQ_n ?_ | with_reducible refine thenQ_e ?_ | with_reducible refine blockQ_t ?_ | with_reducible refine blockQ_f (by decide) ?_))))
    refine ⟨k + 1, by omega, by omega, ?_⟩
    rw [hs]
    refine wk_to [] [(0, 0), (24, 24)] (by kernel_rfl) (by kernel_rfl) (by kernel_rfl) (by kernel_rfl) (by kernel_rfl) ?_ ?_ <;> repeat' (first | exact trivial | exact vr_val _ | exact vr_list _ | exact vr_vec _ _ _ _ rfl | exact vr_ptr _ _ _ rfl | refine And.intro ⟨_, rfl, .inl ⟨_, rfl, by decide, ?_⟩⟩ ?_ | apply And.intro | exact vrl_flat _ (by first | exact icells_in _ | exact rcells_in _ | exact scells_in _ | exact bcells_in _ | assumption))
set_option maxRecDepth 100000 in
set_option maxHeartbeats 4000000 in
theorem weakR_ok (c : Cas) (hi : CasIn c) (cl tk : Nat) (h0 : clmE c cl tk 122 1 = 0) : AC Try.prog 40 [casD c, dI cl, dI tk] [] [] (weakD c cl tk) := by
  refine kref12_Weak.ac (n0 := 0) (by simp) ⟨in_cas _ _, .val _, .val _, trivial⟩ trivial rfl ?_
  have ck := holdsR_ok c hi cl tk h0
  obtain ⟨hc, cl', tk', e1, e2, hcl, htk⟩ := clmE_ok h0
  obtain rfl : cl = cl' := by omega
  obtain rfl : tk = tk' := by omega
  clear e1 e2
  have n2 := hc.n2
  have cc := counts_ac c hc (tk : Int)
  have hLl := cnL_len c (tk : Int)
  have hw := fun k : Nat => rholds_ac c hc cl hcl ((cnL c tk).set k false) (by rw [List.length_set]; exact hLl)
  have hq := fun k : Nat => less_s c (tk : Int) k
  unfold cref12_Weak
  unfold casD at *
  unfold weakD
  have pfl := sps_len c.pf
  generalize cnL c tk = L at *
  cases hB : holdC c cl (cntT c tk) with
  | false =>
    rw [hB] at ck
    rw [if_neg (by simp)]
    (have hg : (987654321 : Nat) - 987654321 = 0 := rfl; have hr := hg; repeat' (first | refine aw_seq ?_ | (refine aw_skip ?_; repeat' (first | with_reducible refine thenQ_n ?_ | with_reducible refine blockQ_n ?_ | with_reducible refine thenQ_e ?_ | with_reducible refine blockQ_t ?_ | with_reducible refine blockQ_f (by decide) ?_)) | (refine aw_exit ?_; repeat' (first | with_reducible refine thenQ_n ?_ | with_reducible refine blockQ_n ?_ | with_reducible refine thenQ_e ?_ | with_reducible refine blockQ_t ?_ | with_reducible refine blockQ_f (by decide) ?_)) | refine aw_ret ?_ | refine aw_block ?_ | refine aw_condT rfl ?_ | refine aw_condF rfl ?_ | ((first | refine aw_hide fun K hK => aw_region ?_ | refine acall0 (ck) ?_ | refine ago_if (by omega) ?_ | skip); simp (config := {maxSteps := 10000000}) (disch := first | exact okYes (by kernel_rfl) | omega) only [List.length, Nat.zero_add, Nat.reduceAdd, Nat.reduceMul, envOf, dI, ARun_none, AOpRun, aexec, D.isBot, FSt.ev, St.F, ↓eget_h, Bool.false_eq_true, Option.isSome, hget_n, or_self, ↓reduceIte, D.cells, AGo_ok, St.app, putO, eput_c, Nat.reduceBEq, eput_n, cond_false, hups, hput_n, List.map, ARun_nil, dropE_c, inL_n, dropE_n, eget_c, hget_c, beq_self_eq_true, cond_true, Nat.reduceLeDiff, List.drop, List.take, dB, opt1, Option.map, List.getElem?_cons_zero, List.getElem?_cons_succ, inL_c, isSh, abin, bne_self_eq_false, Bool.not_false, thenQ]) | (subst hK; repeat' (first | with_reducible refine thenQ_n ?_ | with_reducible refine blockQ_n ?_ | with_reducible refine thenQ_e ?_ | with_reducible refine blockQ_t ?_ | with_reducible refine blockQ_f (by decide) ?_))))
    all_goals (refine end_to [] [] (by first | exact .inl rfl | exact .inr rfl) rfl (by kernel_rfl) (by kernel_rfl) (by kernel_rfl) ?_ ?_ <;> repeat' (first | exact trivial | exact vr_val _ | exact vr_nil | apply vr_tup | apply And.intro))
  | true =>
  rw [hB] at ck
  rw [if_pos rfl]
  (have hg : (987654321 : Nat) - 987654321 = 0 := rfl; have hr := hg; repeat' (first | refine aw_seq ?_ | (refine aw_skip ?_; repeat' (first | with_reducible refine thenQ_n ?_ | with_reducible refine blockQ_n ?_ | with_reducible refine thenQ_e ?_ | with_reducible refine blockQ_t ?_ | with_reducible refine blockQ_f (by decide) ?_)) | (refine aw_exit ?_; repeat' (first | with_reducible refine thenQ_n ?_ | with_reducible refine blockQ_n ?_ | with_reducible refine thenQ_e ?_ | with_reducible refine blockQ_t ?_ | with_reducible refine blockQ_f (by decide) ?_)) | refine aw_ret ?_ | refine aw_block ?_ | refine aw_condT rfl ?_ | refine aw_condF rfl ?_ | ((first | refine aw_hide fun K hK => aw_region ?_ | refine acall0 (ck) ?_ | refine ago_if (by omega) ?_ | skip); simp (config := {maxSteps := 10000000}) (disch := first | exact okYes (by kernel_rfl) | omega) only [List.length, Nat.zero_add, Nat.reduceAdd, Nat.reduceMul, envOf, dI, ARun_none, AOpRun, aexec, D.isBot, FSt.ev, St.F, ↓eget_h, Bool.false_eq_true, Option.isSome, hget_n, or_self, ↓reduceIte, D.cells, AGo_ok, St.app, putO, eput_c, Nat.reduceBEq, eput_n, cond_false, hups, hput_n, List.map, ARun_nil, dropE_c, inL_n, dropE_n, eget_c, hget_c, beq_self_eq_true, cond_true, Nat.reduceLeDiff, List.drop, List.take, dB, opt1, Option.map, List.getElem?_cons_zero, List.getElem?_cons_succ, inL_c, isSh, abin, bne_self_eq_false, Bool.not_true]) | (subst hK; repeat' (first | with_reducible refine thenQ_n ?_ | with_reducible refine blockQ_n ?_ | with_reducible refine thenQ_e ?_ | with_reducible refine blockQ_t ?_ | with_reducible refine blockQ_f (by decide) ?_))))
  clear ck
  refine aw_loop (fun k : Nat => ⟨[(1, dI cl), (2, dI tk), (3, .ptr 0 0), (10, .vec 24 (wkL c cl tk k).length 1), (11, dI k)], [(0, [.list (cls c.cl), .list (sps c.pf)]), (24, icells (wkL c cl tk k))], 40⟩) (fun k => k ≤ c.pf.length) (fun k => c.pf.length - k) ⟨0, by omega, ?_⟩ ?_
  · show Wk _ _ ⟨[_, _, _, (10, .vec 24 0 1), _], [_, (24, [])], _⟩
    unfold dI
    refine wk_to [] [(0, 0), (24, 900)] (by kernel_rfl) (by kernel_rfl) (by kernel_rfl) (by kernel_rfl) (by kernel_rfl) ?_ ?_ <;> repeat' (first | exact trivial | exact vr_val _ | exact vr_list _ | exact vr_ptr _ _ _ rfl | exact vr_nilv _ _ _ rfl | refine And.intro ⟨_, rfl, .inl ⟨_, rfl, by decide, ?_⟩⟩ ?_ | refine And.intro ⟨_, rfl, .inr ⟨rfl, rfl, of_decide_eq_true (by kernel_rfl)⟩⟩ ?_ | apply And.intro)
  intro k hk
  by_cases hk2 : k < c.pf.length
  case neg =>
    obtain rfl : k = c.pf.length := by omega
    generalize wkL c cl tk c.pf.length = W at *
    have hin := icells_in W
    (have hg : (987654321 : Nat) - 987654321 = 0 := rfl; have hr := hg; repeat' (first | refine aw_seq ?_ | (refine aw_skip ?_; repeat' (first | with_reducible refine thenQ_n ?_ | with_reducible refine blockQ_n ?_ | with_reducible refine thenQ_e ?_ | with_reducible refine blockQ_t ?_ | with_reducible refine blockQ_f (by decide) ?_)) | (refine aw_exit ?_; repeat' (first | with_reducible refine thenQ_n ?_ | with_reducible refine blockQ_n ?_ | with_reducible refine thenQ_e ?_ | with_reducible refine blockQ_t ?_ | with_reducible refine blockQ_f (by decide) ?_)) | refine aw_ret ?_ | refine aw_block ?_ | refine aw_condT rfl ?_ | refine aw_condF rfl ?_ | (refine aw_cond rfl (fun hg => ?_) (fun hg => ?_) <;> (try (have hq := hg; simp only [Bool.not_eq_true', Bool.not_eq_false', Bool.and_eq_true, Bool.and_eq_false_iff, Bool.or_eq_true, Bool.or_eq_false_iff, decide_eq_true_eq, decide_eq_false_iff_not, bne_iff_ne, beq_iff_eq, beq_eq_false_iff_ne, bne_eq_false_iff_eq, ne_eq, Int.not_lt, Int.not_le, Decidable.not_not] at hq)) <;> (try (have hr := hg; simp only [decide_eq_true_eq, decide_eq_false_iff_not] at hr)) <;> (try (exfalso; omega))) | ((first | refine aw_hide fun K hK => aw_region ?_ | refine ago_if (by omega) ?_ | skip); simp (config := {maxSteps := 10000000}) (disch := first | exact okYes (by kernel_rfl) | omega) only [List.length, Nat.zero_add, Nat.reduceAdd, Nat.reduceMul, dI, ARun_none, AOpRun, aexec, FSt.ev, St.F, eget_c, Nat.reduceBEq, ↓eget_h, cond_false, AGo_ok, St.app, putO, eput_c, eput_n, hups, List.map, Option.map, run1, hget_c, beq_self_eq_true, hget_n, cond_true, List.getElem?_cons_succ, List.getElem?_cons_zero, pfl, isSh, Bool.false_eq_true, ↓reduceIte, abin, ARun_nil, dropE_c, inL_c, inL_n, dropE_n, hr, decide_false]) | (subst hK; repeat' (first | with_reducible refine thenQ_n ?_ | with_reducible refine blockQ_n ?_ | with_reducible refine thenQ_e ?_ | with_reducible refine blockQ_t ?_ | with_reducible refine blockQ_f (by decide) ?_))))
    refine end_to [24] [] (by first | exact .inl rfl | exact .inr rfl) rfl (by kernel_rfl) (by kernel_rfl) (by kernel_rfl) ?_ ?_ <;> repeat' (first | exact trivial | exact vr_val _ | apply vr_tup | refine vr_fl _ _ _ _ _ (by decide) rfl ?_ ?_ ?_ ?_ | apply And.intro)
    all_goals first | exact ints_one _ | exact ints_len _ | exact ints_flat _ | exact icells_in _
  have hw := hw k
  rw [hq k] at hw
  have hWl := wkL_len c cl tk k
  have hWb : (wkL c cl tk k).length ≤ 12 := by omega
  have hcl1 : (icells (wkL c cl tk k)).length = (wkL c cl tk k).length := icells_len _
  have hct : (icells (wkL c cl tk k)).take (wkL c cl tk k).length = icells (wkL c cl tk k) := List.take_of_length_le (by omega)
  have hlf := icells_leaf (wkL c cl tk k)
  have hin0 := icells_in (wkL c cl tk k)
  have ki : (k : Int) < (c.pf.length : Int) := by omega
  have k0 : (0 : Int) ≤ (k : Int) := by omega
  have hLc : (bcl L).length = c.pf.length := (bcl_len L).trans hLl
  have hLk : k + 1 ≤ c.pf.length := by omega
  have hLb := bc_t L k false (by omega)
  have hLs : (L.set k false).length = c.pf.length := by rw [List.length_set]; exact hLl
  refine aw_seq (aw_seq (aw_region ?_))
  simp (config := {maxSteps := 10000000}) (disch := first | exact okYes (by kernel_rfl) | omega) only [thenQ, dI, List.length, Nat.zero_add, Nat.reduceAdd, Nat.reduceMul, ARun_none, AOpRun, aexec, FSt.ev, St.F, eget_c, Nat.reduceBEq, ↓eget_h, cond_false, AGo_ok, St.app, putO, eput_c, eput_n, hups, List.map, Option.map, run1, hget_c, beq_self_eq_true, hget_n, cond_true, List.getElem?_cons_succ, List.getElem?_cons_zero, pfl, isSh, Bool.false_eq_true, ↓reduceIte, abin, ki, decide_true, ARun_nil, dropE_c, inL_c, inL_n, dropE_n]
  refine aw_condT rfl (aw_skip ?_)
  refine aw_seq (aw_block (aw_seq (aw_region ?_)))
  simp (config := {maxSteps := 10000000}) (disch := first | exact okYes (by kernel_rfl) | omega) only [thenQ, List.length, Nat.zero_add, Nat.reduceAdd, Nat.reduceMul, ARun_none, AOpRun, aexec, FSt.ev, St.F, eget_c, Nat.reduceBEq, ↓eget_h, cond_false, hget_c, beq_self_eq_true, hget_n, cond_true, Nat.reduceLeDiff, ↓reduceIte, List.drop, List.take, AGo_ok, St.app, putO, eput_c, eput_n, hups, List.map]
  refine acallB cc (by repeat' (first | exact trivial | exact rfl | refine And.intro ?_ ?_)) (by kernel_rfl) (by kernel_rfl) (by kernel_rfl) ?_
  simp (config := {maxSteps := 10000000}) (disch := first | exact okYes (by kernel_rfl) | omega) only [Nat.reduceAdd, St.app, putO, eput_c, Nat.reduceBEq, eput_n, cond_false, hups, hput_c, hput_n, List.map, List.append_nil, ARun_none, AOpRun, aexec, FSt.ev, St.F, eget_c, ↓eget_h, AGo_ok, ARun_nil, dropE_c, inL_c, inL_n, beq_self_eq_true, cond_true, dropE_n]
  refine aw_seq (aw_region ?_)
  simp (config := {maxSteps := 10000000}) (disch := first | exact okYes (by kernel_rfl) | omega) only [thenQ, List.length, Nat.zero_add, Nat.reduceAdd, Nat.reduceMul, ARun_none, AOpRun, aexec, FSt.ev, St.F, eget_c, Nat.reduceBEq, ↓eget_h, cond_false, AGo_ok, St.app, putO, eput_c, eput_n, hups, List.map, k0, ki, and_self, ↓reduceIte, Int.toNat_natCast, Nat.mul_one, hget_c, ↓hget_h, D.isBot, D.cells, hLc, hLk, List.all, D.leaf, Bool.and_true, splice, hLb, hput_c, beq_self_eq_true, hput_n, cond_true, ARun_nil, dropE_c, inL_c, inL_n, dropE_n]
  refine aw_seq (aw_region ?_)
  simp (config := {maxSteps := 10000000}) (disch := first | exact okYes (by kernel_rfl) | omega) only [thenQ, List.length, Nat.zero_add, Nat.reduceAdd, Nat.reduceMul, ARun_none, AOpRun, aexec, FSt.ev, St.F, eget_c, Nat.reduceBEq, ↓eget_h, cond_false, hget_c, beq_self_eq_true, hget_n, cond_true, Nat.reduceLeDiff, ↓reduceIte, List.drop, List.take, AGo_ok, St.app, putO, eput_c, eput_n, hups, List.map]
  cases hb : weakB c cl tk k with
  | true =>
    have hs := wkL_t hb
    have hv : holdC c cl (lessF c tk k) = false := by unfold weakB at hb; simpa using hb
    rw [hv] at hw
    refine acall hw [96] ⟨.refl _, .refl _, vec_bools (L.set k false) (by simp) rfl hLs, trivial⟩ (.inr (.val _)) (by intro g hg; simp at hg; subst hg; exact ⟨_, rfl⟩) (by kernel_rfl) ?_
    simp (config := {maxSteps := 10000000}) (disch := first | exact okYes (by kernel_rfl) | omega) only [Nat.reduceAdd, St.app, putO, dB, eput_c, Nat.reduceBEq, eput_n, cond_false, hups, ARun_none, AOpRun, aexec, FSt.ev, St.F, eget_c, ↓eget_h, Bool.not_false, AGo_ok, List.map, ARun_nil, dropE_c, inL_c, inL_n, beq_self_eq_true, cond_true, dropE_n]
    have hin : ∀ y ∈ icells (wkL c cl tk k) ++ [.val (.int .i64 (k : Int))], In (fun _ => False) y := by rw [ic_app]; exact icells_in _
    generalize wkL c cl tk k = W at *
    (have hg : (987654321 : Nat) - 987654321 = 0 := rfl; have hr := hg; repeat' (first | refine aw_seq ?_ | (refine aw_skip ?_; repeat' (first | with_reducible refine thenQ_n ?_ | with_reducible refine blockQ_n ?_ | with_reducible refine thenQ_e ?_ | with_reducible refine blockQ_t ?_ | with_reducible refine blockQ_f (by decide) ?_)) | (refine aw_exit ?_; repeat' (first | with_reducible refine thenQ_n ?_ | with_reducible refine blockQ_n ?_ | with_reducible refine thenQ_e ?_ | with_reducible refine blockQ_t ?_ | with_reducible refine blockQ_f (by decide) ?_)) | refine aw_ret ?_ | refine aw_block ?_ | refine aw_condT rfl ?_ | refine aw_condF rfl ?_ | ((first | refine aw_hide fun K hK => aw_region ?_ | refine ago_if (by omega) ?_ | skip); simp (config := {maxSteps := 10000000}) (disch := first | exact okYes (by kernel_rfl) | omega) only [List.length, Nat.zero_add, Nat.reduceAdd, Nat.reduceMul, ARun_none, AOpRun, aexec, FSt.ev, St.F, eget_c, Nat.reduceBEq, ↓eget_h, cond_false, AGo_ok, St.app, putO, eput_c, eput_n, hups, List.map, Option.isSome, hget_c, hget_n, Bool.false_eq_true, ↓reduceIte, Option.map, fillD, D.isBot, D.cells, ne_eq, not_true_eq_false, Nat.reduceGT, or_self, splice, List.take, List.nil_append, List.drop, List.append_nil, hput_c, hput_n, base, ↓hget_h, Nat.mul_one, hcl1, Nat.le_refl, and_self, hct, elems, List.all, D.leaf, Bool.and_true, and_true, ups, List.cons_append, hdel_c, beq_self_eq_true, hdel_n, cond_true, ARun_nil, dropE_c, inL_c, inL_n, dropE_n, isSh, abin, fits]) | (subst hK; repeat' (first | with_reducible refine thenQ_n ?_ | with_reducible refine blockQ_n ?_ | with_reducible refine thenQ_e ?_ | with_reducible refine blockQ_t ?_ | with_reducible refine blockQ_f (by decide) ?_))))
    refine ⟨k + 1, by omega, by omega, ?_⟩
    rw [hs, List.length_append, ← ic_app, List.length_singleton]
    refine wk_to [] [(0, 0), (24, 208)] (by kernel_rfl) (by kernel_rfl) (by kernel_rfl) (by kernel_rfl) (by kernel_rfl) ?_ ?_ <;> repeat' (first | exact trivial | exact vr_val _ | exact vr_list _ | exact vr_vec _ _ _ _ rfl | exact vr_ptr _ _ _ rfl | refine And.intro ⟨_, rfl, .inl ⟨_, rfl, by decide, ?_⟩⟩ ?_ | apply And.intro | exact vrl_flat _ (by first | exact icells_in _ | exact rcells_in _ | exact scells_in _ | exact bcells_in _ | assumption))
  | false =>
    have hs := wkL_f hb
    have hv : holdC c cl (lessF c tk k) = true := by unfold weakB at hb; simpa using hb
    rw [hv] at hw
    refine acall hw [96] ⟨.refl _, .refl _, vec_bools (L.set k false) (by simp) rfl hLs, trivial⟩ (.inr (.val _)) (by intro g hg; simp at hg; subst hg; exact ⟨_, rfl⟩) (by kernel_rfl) ?_
    simp (config := {maxSteps := 10000000}) (disch := first | exact okYes (by kernel_rfl) | omega) only [Nat.reduceAdd, St.app, putO, dB, eput_c, Nat.reduceBEq, eput_n, cond_false, hups, ARun_none, AOpRun, aexec, FSt.ev, St.F, eget_c, ↓eget_h, Bool.not_true, AGo_ok, List.map, ARun_nil, dropE_c, inL_c, inL_n, beq_self_eq_true, cond_true, dropE_n]
    generalize hW : wkL c cl tk k = W at *
    (have hg : (987654321 : Nat) - 987654321 = 0 := rfl; have hr := hg; repeat' (first | refine aw_seq ?_ | (refine aw_skip ?_; repeat' (first | with_reducible refine thenQ_n ?_ | with_reducible refine blockQ_n ?_ | with_reducible refine thenQ_e ?_ | with_reducible refine blockQ_t ?_ | with_reducible refine blockQ_f (by decide) ?_)) | (refine aw_exit ?_; repeat' (first | with_reducible refine thenQ_n ?_ | with_reducible refine blockQ_n ?_ | with_reducible refine thenQ_e ?_ | with_reducible refine blockQ_t ?_ | with_reducible refine blockQ_f (by decide) ?_)) | refine aw_ret ?_ | refine aw_block ?_ | refine aw_condT rfl ?_ | refine aw_condF rfl ?_ | ((first | refine aw_hide fun K hK => aw_region ?_ | refine ago_if (by omega) ?_ | skip); simp (config := {maxSteps := 10000000}) (disch := first | exact okYes (by kernel_rfl) | omega) only [List.length, Nat.zero_add, Nat.reduceAdd, Nat.reduceMul, ARun_none, AOpRun, aexec, FSt.ev, St.F, eget_c, Nat.reduceBEq, ↓eget_h, cond_false, AGo_ok, St.app, putO, eput_c, eput_n, hups, List.map, isSh, Bool.false_eq_true, ↓reduceIte, Option.map, abin, fits, beq_self_eq_true, cond_true, ARun_nil, dropE_c, inL_c, inL_n, dropE_n]) | (subst hK; repeat' (first | with_reducible refine thenQ_n ?_ | with_reducible refine blockQ_n ?_ | with_reducible refine thenQ_e ?_ | with_reducible refine blockQ_t ?_ | with_reducible refine blockQ_f (by decide) ?_))))
    refine ⟨k + 1, by omega, by omega, ?_⟩
    rw [hs]
    refine wk_to [] [(0, 0), (24, 24)] (by kernel_rfl) (by kernel_rfl) (by kernel_rfl) (by kernel_rfl) (by kernel_rfl) ?_ ?_ <;> repeat' (first | exact trivial | exact vr_val _ | exact vr_list _ | exact vr_vec _ _ _ _ rfl | exact vr_ptr _ _ _ rfl | refine And.intro ⟨_, rfl, .inl ⟨_, rfl, by decide, ?_⟩⟩ ?_ | apply And.intro | exact vrl_flat _ (by first | exact icells_in _ | exact rcells_in _ | exact scells_in _ | exact bcells_in _ | assumption))
end Go.Proofs.Ytdcodicoclecnaa
/- The fewest proofs to renew: a search by depth, and the least of all sets. In numbers; no conditions. -/
namespace Go.Proofs.Ytdcodicoclecnaa

def maskN : Nat → List Nat → Nat
  | p, [] => p
  | p, i :: l => maskN (p ||| 2 ^ i) l
theorem maskN_test : ∀ (l : List Nat) (p j : Nat), (maskN p l).testBit j = (p.testBit j || l.contains j)
  | [], p, j => by simp [maskN]
  | i :: l, p, j => by
    rw [maskN, maskN_test l, Nat.testBit_or, Nat.testBit_two_pow, List.contains_cons, Bool.or_assoc]
    congr 2
    rw [Bool.eq_iff_iff]
    simp
    exact eq_comm
theorem lt_two {x n : Nat} (h : ∀ i, n ≤ i → x.testBit i = false) : x < 2 ^ n := Nat.lt_pow_two_of_testBit x h
/-- strictly ascending from some number on, below n, none of those that are set -/
def SeqV (now n : Nat) : Nat → List Nat → Prop
  | _, [] => True
  | f, i :: l => f ≤ i ∧ i < n ∧ now.testBit i = false ∧ SeqV now n (i + 1) l
theorem SeqV.mono {now n : Nat} : ∀ {l : List Nat} {f g : Nat}, g ≤ f → SeqV now n f l → SeqV now n g l
  | [], _, _, _, _ => trivial
  | i :: l, f, g, h, ⟨h1, h2, h3, h4⟩ => ⟨by omega, h2, h3, h4⟩
theorem SeqV.mem {now n : Nat} : ∀ {l : List Nat} {f : Nat}, SeqV now n f l → ∀ i ∈ l, f ≤ i ∧ i < n ∧ now.testBit i = false
  | [], _, _, i, hi => by simp at hi
  | j :: l, f, ⟨h1, h2, h3, h4⟩, i, hi => by
    rcases List.mem_cons.1 hi with rfl | hi
    · exact ⟨h1, h2, h3⟩
    · have := h4.mem i hi
      exact ⟨by omega, this.2⟩
theorem SeqV.len {now n : Nat} : ∀ {l : List Nat} {f : Nat}, SeqV now n f l → f ≤ n → l.length + f ≤ n
  | [], _, _, h => by simpa using h
  | i :: l, f, ⟨h1, h2, h3, h4⟩, _ => by
    have := h4.len (by omega)
    simp only [List.length_cons]
    omega
/-- the first where something is -/
theorem first_some {α : Type} {g : Nat → Option α} {b : α} : ∀ {n i : Nat}, i < n → (∀ j, j < i → g j = none) → g i = some b → (List.range n).findSome? g = some b
  | n + 1, i, hi, h0, h => by
    rw [List.range_succ, List.findSome?_append]
    by_cases e : i = n
    · subst e
      have : (List.range i).findSome? g = none := List.findSome?_eq_none_iff.2 fun j hj => h0 j (by simpa using hj)
      rw [this]
      simp [h]
    · rw [first_some (show i < n by omega) h0 h]
      rfl
theorem first_none {α : Type} {g : Nat → Option α} {n : Nat} (h : ∀ j, j < n → g j = none) : (List.range n).findSome? g = none := List.findSome?_eq_none_iff.2 fun j hj => h j (by simpa using hj)
theorem first_is {α : Type} {g : Nat → Option α} {b : α} : ∀ {n : Nat}, (List.range n).findSome? g = some b → ∃ i, i < n ∧ (∀ j, j < i → g j = none) ∧ g i = some b
  | 0, h => by simp at h
  | n + 1, h => by
    rw [List.range_succ, List.findSome?_append] at h
    cases e : (List.range n).findSome? g with
    | some x =>
      rw [e] at h
      simp at h
      subst h
      obtain ⟨i, h1, h2, h3⟩ := first_is e
      exact ⟨i, by omega, h2, h3⟩
    | none =>
      rw [e] at h
      simp at h
      exact ⟨n, by omega, fun j hj => List.findSome?_eq_none_iff.1 e j (by simpa using hj), h⟩
/-- the search by depth -/
def lookF (H : Nat → Bool) (now n : Nat) : Nat → Nat → Nat → Option (List Nat)
  | 0, p, _ => if H p = true then some [] else none
  | m + 1, p, f => (List.range n).findSome? fun i => if f ≤ i ∧ now.testBit i = false then (lookF H now n m (p ||| 2 ^ i) (i + 1)).map (i :: ·) else none
def lexB : List Nat → List Nat → Bool
  | a :: l, b :: r => decide (a < b) || (decide (a = b) && lexB l r)
  | _, _ => false
def befB (a b : List Nat) : Bool := decide (a.length < b.length) || (decide (a.length = b.length) && lexB a b)
theorem lex_no : ∀ (a : List Nat), lexB a a = false
  | [] => rfl
  | x :: l => by simp [lexB, lex_no l]
theorem lex_trans : ∀ {a b c : List Nat}, lexB a b = true → lexB b c = true → lexB a c = true
  | [], _, _, h, _ => by simp [lexB] at h
  | _ :: _, [], _, h, _ => by simp [lexB] at h
  | _ :: _, _ :: _, [], _, h => by simp [lexB] at h
  | x :: a, y :: b, z :: c, h1, h2 => by
    simp only [lexB, Bool.or_eq_true, decide_eq_true_eq, Bool.and_eq_true] at h1 h2 ⊢
    rcases h1 with h1 | ⟨rfl, h1⟩
    · rcases h2 with h2 | ⟨rfl, h2⟩
      · exact .inl (by omega)
      · exact .inl h1
    · rcases h2 with h2 | ⟨rfl, h2⟩
      · exact .inl h2
      · exact .inr ⟨rfl, lex_trans h1 h2⟩
theorem lex_total : ∀ {a b : List Nat}, a.length = b.length → lexB a b = false → lexB b a = false → a = b
  | [], [], _, _, _ => rfl
  | [], _ :: _, h, _, _ => by simp at h
  | _ :: _, [], h, _, _ => by simp at h
  | x :: a, y :: b, h, h1, h2 => by
    simp only [lexB, Bool.or_eq_false_iff, decide_eq_false_iff_not, Bool.and_eq_false_iff] at h1 h2
    obtain rfl : x = y := by omega
    have e1 : lexB a b = false := by
      rcases h1.2 with h | h
      · exact absurd rfl h
      · exact h
    have e2 : lexB b a = false := by
      rcases h2.2 with h | h
      · exact absurd rfl h
      · exact h
    rw [lex_total (by simpa using h) e1 e2]
theorem bef_no (a : List Nat) : befB a a = false := by simp [befB, lex_no]
theorem bef_trans {a b c : List Nat} (h1 : befB a b = true) (h2 : befB b c = true) : befB a c = true := by
  simp only [befB, Bool.or_eq_true, decide_eq_true_eq, Bool.and_eq_true] at h1 h2 ⊢
  rcases h1 with h1 | ⟨e1, h1⟩
  · exact .inl (by rcases h2 with h2 | ⟨e2, h2⟩ <;> omega)
  · rcases h2 with h2 | ⟨e2, h2⟩
    · exact .inl (by omega)
    · exact .inr ⟨by omega, lex_trans h1 h2⟩
theorem bef_total {a b : List Nat} (h1 : befB a b = false) (h2 : befB b a = false) : a = b := by
  simp only [befB, Bool.or_eq_false_iff, decide_eq_false_iff_not, Bool.and_eq_false_iff] at h1 h2
  have e : a.length = b.length := by omega
  refine lex_total e ?_ ?_
  · rcases h1.2 with h | h
    · exact absurd e h
    · exact h
  · rcases h2.2 with h | h
    · exact absurd e.symm h
    · exact h
theorem look_none {H : Nat → Bool} {now n : Nat} : ∀ {m p f : Nat}, lookF H now n m p f = none → ∀ l : List Nat, l.length = m → SeqV now n f l → H (maskN p l) = false
  | 0, p, f, h, l, hl, _ => by
    obtain rfl := List.length_eq_zero_iff.1 hl
    unfold lookF at h
    cases e : H p
    · exact e
    · rw [e] at h; simp at h
  | m + 1, p, f, h, [], hl, _ => by simp at hl
  | m + 1, p, f, h, i :: l, hl, ⟨h1, h2, h3, h4⟩ => by
    rw [lookF, List.findSome?_eq_none_iff] at h
    have := h i (by simpa using h2)
    rw [if_pos ⟨h1, h3⟩, Option.map_eq_none_iff] at this
    exact look_none this l (by simpa using hl) h4
theorem look_some {H : Nat → Bool} {now n : Nat} : ∀ {m p f : Nat} {l : List Nat}, lookF H now n m p f = some l →
    l.length = m ∧ SeqV now n f l ∧ H (maskN p l) = true ∧ ∀ r : List Nat, r.length = m → SeqV now n f r → H (maskN p r) = true → lexB r l = false
  | 0, p, f, l, h => by
    unfold lookF at h
    split at h
    · rename_i hp
      cases h
      refine ⟨rfl, trivial, hp, fun r hr _ _ => ?_⟩
      obtain rfl := List.length_eq_zero_iff.1 hr
      rfl
    · cases h
  | m + 1, p, f, l, h => by
    rw [lookF] at h
    obtain ⟨i, hi, h0, h1⟩ := first_is h
    split at h1
    · rename_i hc
      obtain ⟨l0, e, rfl⟩ := Option.map_eq_some_iff.1 h1
      obtain ⟨a1, a2, a3, a4⟩ := look_some e
      refine ⟨by simp [a1], ⟨hc.1, hi, hc.2, a2⟩, a3, fun r hr hs hH => ?_⟩
      cases r with
      | nil => rfl
      | cons j r =>
        obtain ⟨b1, b2, b3, b4⟩ := hs
        have hr' : r.length = m := by simpa using hr
        cases hq : lexB (j :: r) (i :: l0)
        · rfl
        simp only [lexB, Bool.or_eq_true, decide_eq_true_eq, Bool.and_eq_true] at hq
        rcases hq with hq | ⟨rfl, hq⟩
        · have := h0 j hq
          rw [if_pos ⟨b1, b3⟩, Option.map_eq_none_iff] at this
          have := look_none this r hr' b4
          rw [maskN] at hH
          rw [this] at hH; cases hH
        · rw [a4 r hr' b4 hH] at hq; cases hq
    · cases h1
def renF (H : Nat → Bool) (now n : Nat) : Option (List Nat) := (List.range (n + 1)).findSome? fun m => lookF H now n m now 0
/-- a list is the least one with which it holds -/
structure LeastV (H : Nat → Bool) (now n : Nat) (l : List Nat) : Prop where
  seq : SeqV now n 0 l
  yes : H (maskN now l) = true
  least : ∀ r : List Nat, SeqV now n 0 r → H (maskN now r) = true → befB r l = false
theorem LeastV.same {H : Nat → Bool} {now n : Nat} {l r : List Nat} (h1 : LeastV H now n l) (h2 : LeastV H now n r) : l = r := bef_total (h2.least l h1.seq h1.yes) (h1.least r h2.seq h2.yes)
theorem ren_some {H : Nat → Bool} {now n : Nat} {l : List Nat} (h : renF H now n = some l) : LeastV H now n l := by
  obtain ⟨m, hm, h0, h1⟩ := first_is h
  obtain ⟨a1, a2, a3, a4⟩ := look_some h1
  refine ⟨a2, a3, fun r hs hH => ?_⟩
  unfold befB
  rw [Bool.or_eq_false_iff, Bool.and_eq_false_iff, decide_eq_false_iff_not, decide_eq_false_iff_not]
  have hlt : ¬ r.length < l.length := fun hlt => by
    have := look_none (h0 r.length (by omega)) r rfl hs
    rw [this] at hH; cases hH
  refine ⟨hlt, ?_⟩
  by_cases e : r.length = l.length
  · exact .inr (a4 r (by omega) hs hH)
  · exact .inl e
theorem ren_none {H : Nat → Bool} {now n : Nat} (h : renF H now n = none) : ∀ r : List Nat, SeqV now n 0 r → H (maskN now r) = false := fun r hs => by
  unfold renF at h
  rw [List.findSome?_eq_none_iff] at h
  have hl := hs.len (Nat.zero_le _)
  exact look_none (h r.length (by simp; omega)) r rfl hs
/-- what a set of proofs has besides those that count -/
def moreL (now n s : Nat) : List Nat := (List.range n).filter fun i => s.testBit i && !now.testBit i
def bestK (H : Nat → Bool) (now n : Nat) : Nat → Option (List Nat)
  | 0 => none
  | k + 1 => if (H (maskN now (moreL now n k)) && (match bestK H now n k with
      | none => true
      | some b => befB (moreL now n k) b)) = true then some (moreL now n k) else bestK H now n k
theorem filter_seq {now n : Nat} (P : Nat → Bool) (hP : ∀ i, i < n → P i = true → now.testBit i = false) : ∀ (k f : Nat), f + k = n → SeqV now n f ((List.range' f k).filter P)
  | 0, f, _ => trivial
  | k + 1, f, h => by
    rw [List.range'_succ, List.filter_cons]
    have ih := filter_seq P hP k (f + 1) (by omega)
    split
    · rename_i hp
      exact ⟨by omega, by omega, hP f (by omega) hp, ih⟩
    · exact ih.mono (by omega)
theorem more_seq (now n s : Nat) : SeqV now n 0 (moreL now n s) := by
  unfold moreL
  rw [List.range_eq_range']
  refine filter_seq _ (fun i _ h => ?_) n 0 (by omega)
  simp only [Bool.and_eq_true, Bool.not_eq_true'] at h
  exact h.2
theorem seq_filter {now n : Nat} : ∀ (k f : Nat) (l : List Nat), f + k = n → SeqV now n f l → (List.range' f k).filter (fun i => l.contains i) = l
  | 0, f, l, h, hs => by
    cases l with
    | nil => rfl
    | cons i l => have := hs.1; have := hs.2.1; omega
  | k + 1, f, l, h, hs => by
    rw [List.range'_succ, List.filter_cons]
    cases l with
    | nil => simp
    | cons i l =>
      obtain ⟨h1, h2, h3, h4⟩ := hs
      by_cases e : f = i
      · subst e
        have hc : ((f :: l).contains f) = true := by simp
        rw [if_pos hc]
        congr 1
        rw [← seq_filter k (f + 1) l (by omega) h4]
        rw [seq_filter k (f + 1) l (by omega) h4]
        have : (List.range' (f + 1) k).filter (fun i => (f :: l).contains i) = (List.range' (f + 1) k).filter (fun i => l.contains i) := by
          refine List.filter_congr fun j hj => ?_
          have := List.mem_range'_1.1 hj
          rw [List.contains_cons]
          have : (j == f) = false := by simp; omega
          rw [this, Bool.false_or]
        rw [this, seq_filter k (f + 1) l (by omega) h4]
      · have hc : ((i :: l).contains f) = false := by
          have hm : f ∉ i :: l := fun hm => by
            rcases List.mem_cons.1 hm with rfl | hm
            · exact e rfl
            · have := h4.mem f hm; omega
          simpa using hm
        rw [hc]
        simp only [Bool.false_eq_true, if_false]
        exact seq_filter k (f + 1) (i :: l) (by omega) ⟨by omega, h2, h3, h4⟩
theorem more_all {now n : Nat} {l : List Nat} (hs : SeqV now n 0 l) : maskN 0 l < 2 ^ n ∧ moreL now n (maskN 0 l) = l := by
  have hm := hs.mem
  constructor
  · refine lt_two fun i hi => ?_
    rw [maskN_test, Nat.zero_testBit, Bool.false_or]
    have : i ∉ l := fun h => by have := hm i h; omega
    simpa using this
  · unfold moreL
    rw [← seq_filter n 0 l (by omega) hs, seq_filter n 0 l (by omega) hs, List.range_eq_range']
    have : (List.range' 0 n).filter (fun i => (maskN 0 l).testBit i && !now.testBit i) = (List.range' 0 n).filter (fun i => l.contains i) := by
      refine List.filter_congr fun j hj => ?_
      rw [maskN_test, Nat.zero_testBit, Bool.false_or]
      cases hc : l.contains j
      · rfl
      · have := (hm j (by simpa using hc)).2.2
        rw [this]; rfl
    rw [this, seq_filter n 0 l (by omega) hs]
theorem best_is {H : Nat → Bool} {now n : Nat} : ∀ k, match bestK H now n k with
    | none => ∀ s, s < k → H (maskN now (moreL now n s)) = false
    | some l => SeqV now n 0 l ∧ H (maskN now l) = true ∧ ∀ s, s < k → H (maskN now (moreL now n s)) = true → befB (moreL now n s) l = false
  | 0 => by simp [bestK]
  | k + 1 => by
    have ih := best_is (H := H) (now := now) (n := n) k
    unfold bestK
    cases hH : H (maskN now (moreL now n k)) with
    | false =>
      simp only [Bool.false_and, Bool.false_eq_true, if_false]
      cases hb : bestK H now n k with
      | none =>
        rw [hb] at ih
        intro s hs
        rcases (by omega : s < k ∨ s = k) with h | rfl
        · exact ih s h
        · exact hH
      | some b =>
        rw [hb] at ih
        refine ⟨ih.1, ih.2.1, fun s hs hy => ?_⟩
        rcases (by omega : s < k ∨ s = k) with h | rfl
        · exact ih.2.2 s h hy
        · rw [hH] at hy; cases hy
    | true =>
      cases hb : bestK H now n k with
      | none =>
        rw [hb] at ih
        simp only [Bool.and_self, if_true]
        refine ⟨more_seq now n k, hH, fun s hs hy => ?_⟩
        rcases (by omega : s < k ∨ s = k) with h | rfl
        · rw [ih s h] at hy; cases hy
        · exact bef_no _
      | some b =>
        rw [hb] at ih
        simp only [Bool.true_and]
        cases hq : befB (moreL now n k) b with
        | true =>
          simp only [if_true]
          refine ⟨more_seq now n k, hH, fun s hs hy => ?_⟩
          rcases (by omega : s < k ∨ s = k) with h | rfl
          · cases hz : befB (moreL now n s) (moreL now n k)
            · rfl
            · rw [← ih.2.2 s h hy, bef_trans hz hq]
          · exact bef_no _
        | false =>
          simp only [Bool.false_eq_true, if_false]
          refine ⟨ih.1, ih.2.1, fun s hs hy => ?_⟩
          rcases (by omega : s < k ∨ s = k) with h | rfl
          · exact ih.2.2 s h hy
          · exact hq
/-- both give the same -/
theorem ren_best (H : Nat → Bool) (now n : Nat) : bestK H now n (2 ^ n) = renF H now n := by
  have hb := best_is (H := H) (now := now) (n := n) (2 ^ n)
  cases h1 : bestK H now n (2 ^ n) with
  | none =>
    rw [h1] at hb
    cases h2 : renF H now n with
    | none => rfl
    | some l =>
      have L := ren_some h2
      obtain ⟨m1, m2⟩ := more_all L.seq
      have := hb _ m1
      rw [m2, L.yes] at this
      cases this
  | some l =>
    rw [h1] at hb
    have L1 : LeastV H now n l := ⟨hb.1, hb.2.1, fun r hs hy => by
      obtain ⟨m1, m2⟩ := more_all hs
      have := hb.2.2 _ m1
      rw [m2] at this
      exact this hy⟩
    cases h2 : renF H now n with
    | none =>
      have := ren_none h2 l L1.seq
      rw [L1.yes] at this
      cases this
    | some r => rw [L1.same (ren_some h2)]
end Go.Proofs.Ytdcodicoclecnaa
/- record: the search for proofs to renew. No conditions. -/
namespace Go.Proofs.Ytdcodicoclecnaa
open Go Go.RowKit Lift

/-- the last one that may be taken, below i -/
def lastK (now f : Nat) : Nat → Option Nat
  | 0 => none
  | i + 1 => if f ≤ i ∧ now.testBit i = false then some i else lastK now f i
/-- what is left of a search that found nothing -/
def stl (now n : Nat) : Nat → Nat → List Nat
  | 0, _ => []
  | m + 1, f => match lastK now f n with
    | none => []
    | some j => j :: stl now n m (j + 1)
def lkE (H : Nat → Bool) (now n m p f : Nat) : List Nat := match lookF H now n m p f with
  | some r => r
  | none => stl now n m f
def lkN (H : Nat → Bool) (now n m p f : Nat) : Nat := match lookF H now n m p f with
  | some r => r.length
  | none => 0
def ci (l : List Nat) : List Int := l.map fun i : Nat => (i : Int)
theorem ci_cons (i : Nat) (l : List Nat) : ci (i :: l) = [(i : Int)] ++ ci l := rfl
def hlB (c : Cas) (cl p : Nat) : Bool := holdC c cl p.testBit
theorem last_below {now f : Nat} : ∀ {i j : Nat}, i ≤ f → lastK now f i = some j → False
  | 0, _, _, h => by simp [lastK] at h
  | i + 1, j, hi, h => by
    rw [lastK, if_neg (by omega)] at h
    exact last_below (by omega) h
theorem last_none {now f : Nat} {i : Nat} (hi : i ≤ f) : lastK now f i = none := by
  cases h : lastK now f i with
  | none => rfl
  | some j => exact (last_below hi h).elim

def hpB (c : Cas) (cl now g : Nat) (L J : List Int) : Hp := [(0, [.list (cls c.cl), .list (sps c.pf)]), (8, [dI cl]), (16, [dI now]), (24, [.vec g L.length 1]), (32, [.fn 88 [] [.ptr 0 0, .ptr 8 0, .ptr 16 0, .ptr 24 0, .ptr 32 0]]), (g, icells (L ++ J))]
def upB (c : Cas) (cl now g : Nat) (L J : List Int) : List Nat → Nat → Ups
  | [], _ => [(0, some [.list (cls c.cl), .list (sps c.pf)]), (8, some [dI cl]), (16, some [dI now]), (24, some [.vec g L.length 1]), (32, some [.fn 88 [] [.ptr 0 0, .ptr 8 0, .ptr 16 0, .ptr 24 0, .ptr 32 0]]), (g, some (icells (L ++ J)))]
  | x :: E, e => [(0, some [.list (cls c.cl), .list (sps c.pf)]), (8, some [dI cl]), (16, some [dI now]), (24, some [.vec 296 (L.length + e) 1]), (32, some [.fn 88 [] [.ptr 0 0, .ptr 8 0, .ptr 16 0, .ptr 24 0, .ptr 32 0]]), (g, none), (296, some (icells (L ++ ci (x :: E))))]
def hpA (c : Cas) (cl now : Nat) : Hp := [(0, [.list (cls c.cl), .list (sps c.pf)]), (8, [dI cl]), (16, [dI now]), (24, [.val (.slice none 0 0)]), (32, [.fn 88 [] [.ptr 0 0, .ptr 8 0, .ptr 16 0, .ptr 24 0, .ptr 32 0]])]
def upA (c : Cas) (cl now : Nat) (L : List Int) : List Nat → Nat → Ups
  | [], _ => [(0, some [.list (cls c.cl), .list (sps c.pf)]), (8, some [dI cl]), (16, some [dI now]), (24, some [.val (.slice none 0 0)]), (32, some [.fn 88 [] [.ptr 0 0, .ptr 8 0, .ptr 16 0, .ptr 24 0, .ptr 32 0]])]
  | x :: E, e => [(0, some [.list (cls c.cl), .list (sps c.pf)]), (8, some [dI cl]), (16, some [dI now]), (24, some [.vec 296 (L.length + e) 1]), (32, some [.fn 88 [] [.ptr 0 0, .ptr 8 0, .ptr 16 0, .ptr 24 0, .ptr 32 0]]), (296, some (icells (L ++ ci (x :: E))))]
theorem fn_in : ∀ d ∈ ([.fn 88 [] [.ptr 0 0, .ptr 8 0, .ptr 16 0, .ptr 24 0, .ptr 32 0]] : List D), In (· < 200) d := by
  intro d hd
  simp at hd; subst hd
  exact .fn _ _ _ (by simp) (by intro d hd; simp at hd; rcases hd with rfl | rfl | rfl | rfl | rfl <;> exact .ptr _ _ (by omega))
theorem ca_in (c : Cas) : ∀ d ∈ ([.list (cls c.cl), .list (sps c.pf)] : List D), In (· < 200) d := by
  intro d hd; simp at hd; rcases hd with rfl | rfl <;> exact .list _
theorem one_in (n : Int) : ∀ d ∈ ([dI n] : List D), In (· < 200) d := by
  intro d hd; simp at hd; subst hd; exact .val _
theorem ic_ne {l : List Int} (h : l ≠ []) : (icells l).isEmpty = false := by cases l with
  | nil => exact absurd rfl h
  | cons x l => rfl
theorem look_succ (H : Nat → Bool) (now n m p f : Nat) : lookF H now n (m + 1) p f = (List.range n).findSome? fun i => if f ≤ i ∧ now.testBit i = false then (lookF H now n m (p ||| 2 ^ i) (i + 1)).map (i :: ·) else none := rfl
theorem or_lt {p i : Nat} (hp : p < 4096) (hi : i < 12) : p ||| 2 ^ i < 4096 := Nat.or_lt_two_pow (n := 12) hp (Nat.pow_lt_pow_right (by omega) hi)
end Go.Proofs.Ytdcodicoclecnaa
