/- Texts of the law TopSlung, part 12. No conditions. -/
import Derived.Test.YtgibbaadjbohdaaPTopSlung11
/- A step of a hoist: the program's. No conditions. -/
set_option linter.unusedSimpArgs false
set_option linter.unusedVariables false
namespace Go.Proofs.Ytgibbaadjbohdaa
open Go.RowKit Lift

theorem do_none {h : Hst} {wd : Int × Int} {k : Hng} {t : Bool} {x : Int × Int} (e : stepS h wd k t x = none) : doK h wd k t x = ⟨k.len, k.wt, k.since + 1, k.cyc, k.cut⟩ ∧ doT h wd k t x = t ∧ doB h wd k t x = false := by
  unfold doK doT doB; rw [e]; exact ⟨rfl, rfl, rfl⟩
theorem do_some {h : Hst} {wd : Int × Int} {k k' : Hng} {t t' : Bool} {x : Int × Int} (e : stepS h wd k t x = some (k', t')) : doK h wd k t x = k' ∧ doT h wd k t x = t' ∧ doB h wd k t x = true := by
  unfold doK doT doB; rw [e]; exact ⟨rfl, rfl, rfl⟩
set_option maxRecDepth 100000 in
set_option maxHeartbeats 1000000 in
theorem do_cut_ac (h : Hst) (wd : Int × Int) (len wt si cy kd n : Int) (t : Bool) (i : Int) (hO : HoOk h) (hc : h.cable ≤ 100) (ho0 : HgOk h ⟨len, wt, si, cy, true⟩ i) (hi : i ≤ 100)  :
    AC Try.prog 49 [.ptr 48 0, spD (kd, n)] [(48, wiC h wd ⟨len, wt, si, cy, true⟩ t)] [(48, some (wiC h wd (doK h wd ⟨len, wt, si, cy, true⟩ t (kd, n)) (doT h wd ⟨len, wt, si, cy, true⟩ t (kd, n))))] (dB (doB h wd ⟨len, wt, si, cy, true⟩ t (kd, n))) := by
  have q1 : 0 ≤ len := ho0.l1
  have q2 : len ≤ h.cable := ho0.l2
  have q3 : 0 ≤ wt := ho0.w1
  have q4 : wt ≤ 100000 := ho0.w2
  have q5 : 0 ≤ si := ho0.s1
  have q6 : si ≤ i := ho0.s2
  have q7 : 0 ≤ cy := ho0.c1
  have q8 : cy ≤ i := ho0.c2
  have e : stepS h wd ⟨len, wt, si, cy, true⟩ t (kd, n) = none := by
    unfold stepS; simp
  obtain ⟨z1, z2, z3⟩ := do_none e
  rw [z1, z2, z3]
  refine kpsling_winch_do.ac (n0 := 56) (by simp) ⟨.ptr _ _ (by omega), in_agg2 _ _ _, trivial⟩ ⟨⟨by omega, wiC_in _ _ _ _ _⟩, trivial⟩ rfl ?_
  unfold cpsling_winch_do wiC spD
  (have hg : (987654321 : Nat) - 987654321 = 0 := rfl; have hr := hg; repeat' (first | refine aw_seq ?_ | (refine aw_skip ?_; try simp only [thenQ, blockQ, if_true, if_false, Nat.reduceEqDiff, reduceCtorEq]) | (refine aw_exit ?_; try simp only [thenQ, blockQ, if_true, if_false, Nat.reduceEqDiff, reduceCtorEq]) | refine aw_ret ?_ | refine aw_block ?_ | refine aw_condT rfl ?_ | refine aw_condF rfl ?_ | ((first | refine aw_region ?_ | refine ago_if (by omega) ?_ | skip); simp (config := {maxSteps := 10000000}) (disch := first | exact okYes (by kernel_rfl) | omega) only [thenQ, List.map, dI, dB, List.length, Nat.zero_add, Nat.reduceAdd, Nat.reduceMul, envOf, ARun_none, AOpRun, aexec, D.isBot, FSt.ev, St.F, eget_c, Nat.reduceBEq, ↓eget_h, cond_false, Bool.false_eq_true, Option.isSome, hget_c, hget_n, or_self, ↓reduceIte, D.cells, AGo_ok, St.app, putO, eput_c, eput_n, hups, hput_c, hput_n, ARun_nil, dropE_c, inL_n, dropE_n, Option.map, run1, beq_self_eq_true, cond_true, List.getElem?_cons_succ, List.getElem?_cons_zero, isSh, abin, fits, Nat.reduceLeDiff, List.all, D.leaf, Bool.and_true, and_self, splice, List.take, List.cons_append, List.nil_append, List.drop, inL_c, blockQ])))
  all_goals (refine end_to [] [(48, 48)] (by first | exact .inl rfl | exact .inr rfl) rfl (by kernel_rfl) (by kernel_rfl) (by kernel_rfl) ?_ ?_ <;> repeat' (first | exact trivial | exact vr_val _ | exact vr_list _ | refine And.intro ⟨_, rfl, _, rfl, by decide, ?_⟩ ?_ | apply And.intro))
set_option maxRecDepth 100000 in
set_option maxHeartbeats 1000000 in
theorem do_o1f_ac (h : Hst) (wd : Int × Int) (len wt si cy kd n : Int) (t : Bool) (i : Int) (hO : HoOk h) (hc : h.cable ≤ 100) (ho0 : HgOk h ⟨len, wt, si, cy, false⟩ i) (hi : i ≤ 100) (hk : kd = 1) (c1 : wI n 1 h.cable = false) :
    AC Try.prog 49 [.ptr 48 0, spD (kd, n)] [(48, wiC h wd ⟨len, wt, si, cy, false⟩ t)] [(48, some (wiC h wd (doK h wd ⟨len, wt, si, cy, false⟩ t (kd, n)) (doT h wd ⟨len, wt, si, cy, false⟩ t (kd, n))))] (dB (doB h wd ⟨len, wt, si, cy, false⟩ t (kd, n))) := by
  subst hk
  have q1 : 0 ≤ len := ho0.l1
  have q2 : len ≤ h.cable := ho0.l2
  have q3 : 0 ≤ wt := ho0.w1
  have q4 : wt ≤ 100000 := ho0.w2
  have q5 : 0 ≤ si := ho0.s1
  have q6 : si ≤ i := ho0.s2
  have q7 : 0 ≤ cy := ho0.c1
  have q8 : cy ≤ i := ho0.c2
  have e : stepS h wd ⟨len, wt, si, cy, false⟩ t (1, n) = none := by
    unfold stepS; simp [c1]
  obtain ⟨z1, z2, z3⟩ := do_none e
  rw [z1, z2, z3]
  refine kpsling_winch_do.ac (n0 := 56) (by simp) ⟨.ptr _ _ (by omega), in_agg2 _ _ _, trivial⟩ ⟨⟨by omega, wiC_in _ _ _ _ _⟩, trivial⟩ rfl ?_
  unfold cpsling_winch_do wiC spD
  (have hg : (987654321 : Nat) - 987654321 = 0 := rfl; have hr := hg; repeat' (first | refine aw_seq ?_ | (refine aw_skip ?_; try simp only [thenQ, blockQ, if_true, if_false, Nat.reduceEqDiff, reduceCtorEq]) | (refine aw_exit ?_; try simp only [thenQ, blockQ, if_true, if_false, Nat.reduceEqDiff, reduceCtorEq]) | refine aw_ret ?_ | refine aw_block ?_ | refine aw_condT rfl ?_ | refine aw_condF rfl ?_ | ((first | refine aw_region ?_ | refine acall0 (slwithin_ac _ _ _) ?_ | refine ago_if (by omega) ?_ | skip); simp (config := {maxSteps := 10000000}) (disch := first | exact okYes (by kernel_rfl) | omega) only [thenQ, List.map, dI, dB, List.length, Nat.zero_add, Nat.reduceAdd, Nat.reduceMul, envOf, ARun_none, AOpRun, aexec, D.isBot, FSt.ev, St.F, eget_c, Nat.reduceBEq, ↓eget_h, cond_false, Bool.false_eq_true, Option.isSome, hget_c, hget_n, or_self, ↓reduceIte, D.cells, AGo_ok, St.app, putO, eput_c, eput_n, hups, hput_c, hput_n, ARun_nil, dropE_c, inL_n, dropE_n, Option.map, run1, beq_self_eq_true, cond_true, List.getElem?_cons_succ, List.getElem?_cons_zero, isSh, abin, fits, Nat.reduceLeDiff, List.all, D.leaf, Bool.and_true, and_self, splice, List.take, List.cons_append, List.nil_append, List.drop, inL_c, ↓hget_h, c1, ARun_some, AG_ft, blockQ])))
  all_goals (refine end_to [] [(48, 48)] (by first | exact .inl rfl | exact .inr rfl) rfl (by kernel_rfl) (by kernel_rfl) (by kernel_rfl) ?_ ?_ <;> repeat' (first | exact trivial | exact vr_val _ | exact vr_list _ | refine And.intro ⟨_, rfl, _, rfl, by decide, ?_⟩ ?_ | apply And.intro))
set_option maxRecDepth 100000 in
set_option maxHeartbeats 1000000 in
theorem do_o1o_ac (h : Hst) (wd : Int × Int) (len wt si cy kd n : Int) (t : Bool) (i : Int) (hO : HoOk h) (hc : h.cable ≤ 100) (ho0 : HgOk h ⟨len, wt, si, cy, false⟩ i) (hi : i ≤ 100) (hk : kd = 1) (c1 : wI n 1 h.cable = true) (ho : wI (len + n) 0 h.cable = true ∧ caB h wd (len + n, len + n) wt = true) :
    AC Try.prog 49 [.ptr 48 0, spD (kd, n)] [(48, wiC h wd ⟨len, wt, si, cy, false⟩ t)] [(48, some (wiC h wd (doK h wd ⟨len, wt, si, cy, false⟩ t (kd, n)) (doT h wd ⟨len, wt, si, cy, false⟩ t (kd, n))))] (dB (doB h wd ⟨len, wt, si, cy, false⟩ t (kd, n))) := by
  subst hk
  have q1 : 0 ≤ len := ho0.l1
  have q2 : len ≤ h.cable := ho0.l2
  have q3 : 0 ≤ wt := ho0.w1
  have q4 : wt ≤ 100000 := ho0.w2
  have q5 : 0 ≤ si := ho0.s1
  have q6 : si ≤ i := ho0.s2
  have q7 : 0 ≤ cy := ho0.c1
  have q8 : cy ≤ i := ho0.c2
  have e : stepS h wd ⟨len, wt, si, cy, false⟩ t (1, n) = some (⟨len + n, wt, si + 1, cy, false⟩, t) := by
    unfold stepS outS; simp [c1, ho.1, ho.2]
  obtain ⟨z1, z2, z3⟩ := do_some e
  rw [z1, z2, z3]
  have hn := wI_t c1
  have outO := outO_ac h wd ⟨len, wt, si + 1, cy, false⟩ t (n) hO ⟨q1, by simp only; omega⟩ ⟨by omega, by omega⟩ ho
  refine kpsling_winch_do.ac (n0 := 56) (by simp) ⟨.ptr _ _ (by omega), in_agg2 _ _ _, trivial⟩ ⟨⟨by omega, wiC_in _ _ _ _ _⟩, trivial⟩ rfl ?_
  unfold cpsling_winch_do wiC spD
  unfold wiC at outO
  (have hg : (987654321 : Nat) - 987654321 = 0 := rfl; have hr := hg; repeat' (first | refine aw_seq ?_ | (refine aw_skip ?_; try simp only [thenQ, blockQ, if_true, if_false, Nat.reduceEqDiff, reduceCtorEq]) | (refine aw_exit ?_; try simp only [thenQ, blockQ, if_true, if_false, Nat.reduceEqDiff, reduceCtorEq]) | refine aw_ret ?_ | refine aw_block ?_ | refine aw_condT rfl ?_ | refine aw_condF rfl ?_ | ((first | refine aw_region ?_ | refine acall0 (slwithin_ac _ _ _) ?_ | refine acallB (outO) (by repeat' (first | exact trivial | exact rfl | refine And.intro ?_ ?_)) (by kernel_rfl) (by kernel_rfl) (by kernel_rfl) ?_ | refine ago_if (by omega) ?_ | skip); simp (config := {maxSteps := 10000000}) (disch := first | exact okYes (by kernel_rfl) | omega) only [thenQ, List.map, dI, dB, List.length, Nat.zero_add, Nat.reduceAdd, Nat.reduceMul, envOf, ARun_none, AOpRun, aexec, D.isBot, FSt.ev, St.F, eget_c, Nat.reduceBEq, ↓eget_h, cond_false, Bool.false_eq_true, Option.isSome, hget_c, hget_n, or_self, ↓reduceIte, D.cells, AGo_ok, St.app, putO, eput_c, eput_n, hups, hput_c, hput_n, ARun_nil, dropE_c, inL_n, dropE_n, Option.map, run1, beq_self_eq_true, cond_true, List.getElem?_cons_succ, List.getElem?_cons_zero, isSh, abin, fits, Nat.reduceLeDiff, List.all, D.leaf, Bool.and_true, and_self, splice, List.take, List.cons_append, List.nil_append, List.drop, inL_c, ↓hget_h, c1, ARun_some, AG_tt, List.append_nil, blockQ])))
  all_goals (refine end_to [] [(48, 48)] (by first | exact .inl rfl | exact .inr rfl) rfl (by kernel_rfl) (by kernel_rfl) (by kernel_rfl) ?_ ?_ <;> repeat' (first | exact trivial | exact vr_val _ | exact vr_list _ | refine And.intro ⟨_, rfl, _, rfl, by decide, ?_⟩ ?_ | apply And.intro))
set_option maxRecDepth 100000 in
set_option maxHeartbeats 1000000 in
theorem do_o1e_ac (h : Hst) (wd : Int × Int) (len wt si cy kd n : Int) (t : Bool) (i : Int) (hO : HoOk h) (hc : h.cable ≤ 100) (ho0 : HgOk h ⟨len, wt, si, cy, false⟩ i) (hi : i ≤ 100) (hk : kd = 1) (c1 : wI n 1 h.cable = true) (ho : ¬ (wI (len + n) 0 h.cable = true ∧ caB h wd (len + n, len + n) wt = true)) :
    AC Try.prog 49 [.ptr 48 0, spD (kd, n)] [(48, wiC h wd ⟨len, wt, si, cy, false⟩ t)] [(48, some (wiC h wd (doK h wd ⟨len, wt, si, cy, false⟩ t (kd, n)) (doT h wd ⟨len, wt, si, cy, false⟩ t (kd, n))))] (dB (doB h wd ⟨len, wt, si, cy, false⟩ t (kd, n))) := by
  subst hk
  have q1 : 0 ≤ len := ho0.l1
  have q2 : len ≤ h.cable := ho0.l2
  have q3 : 0 ≤ wt := ho0.w1
  have q4 : wt ≤ 100000 := ho0.w2
  have q5 : 0 ≤ si := ho0.s1
  have q6 : si ≤ i := ho0.s2
  have q7 : 0 ≤ cy := ho0.c1
  have q8 : cy ≤ i := ho0.c2
  have e : stepS h wd ⟨len, wt, si, cy, false⟩ t (1, n) = none := by
    unfold stepS outS; simp [c1]; intro a; exact Bool.eq_false_iff.2 fun b => ho ⟨a, b⟩
  obtain ⟨z1, z2, z3⟩ := do_none e
  rw [z1, z2, z3]
  have hn := wI_t c1
  have outE := outE_ac h wd ⟨len, wt, si + 1, cy, false⟩ t (n) hO ⟨q1, by simp only; omega⟩ ⟨by omega, by omega⟩ ho
  refine kpsling_winch_do.ac (n0 := 56) (by simp) ⟨.ptr _ _ (by omega), in_agg2 _ _ _, trivial⟩ ⟨⟨by omega, wiC_in _ _ _ _ _⟩, trivial⟩ rfl ?_
  unfold cpsling_winch_do wiC spD
  unfold wiC at outE
  (have hg : (987654321 : Nat) - 987654321 = 0 := rfl; have hr := hg; repeat' (first | refine aw_seq ?_ | (refine aw_skip ?_; try simp only [thenQ, blockQ, if_true, if_false, Nat.reduceEqDiff, reduceCtorEq]) | (refine aw_exit ?_; try simp only [thenQ, blockQ, if_true, if_false, Nat.reduceEqDiff, reduceCtorEq]) | refine aw_ret ?_ | refine aw_block ?_ | refine aw_condT rfl ?_ | refine aw_condF rfl ?_ | ((first | refine aw_region ?_ | refine acall0 (slwithin_ac _ _ _) ?_ | refine acallB (outE) (by repeat' (first | exact trivial | exact rfl | refine And.intro ?_ ?_)) (by kernel_rfl) (by kernel_rfl) (by kernel_rfl) ?_ | refine ago_if (by omega) ?_ | skip); simp (config := {maxSteps := 10000000}) (disch := first | exact okYes (by kernel_rfl) | omega) only [thenQ, List.map, dI, dB, List.length, Nat.zero_add, Nat.reduceAdd, Nat.reduceMul, envOf, ARun_none, AOpRun, aexec, D.isBot, FSt.ev, St.F, eget_c, Nat.reduceBEq, ↓eget_h, cond_false, Bool.false_eq_true, Option.isSome, hget_c, hget_n, or_self, ↓reduceIte, D.cells, AGo_ok, St.app, putO, eput_c, eput_n, hups, hput_c, hput_n, ARun_nil, dropE_c, inL_n, dropE_n, Option.map, run1, beq_self_eq_true, cond_true, List.getElem?_cons_succ, List.getElem?_cons_zero, isSh, abin, fits, Nat.reduceLeDiff, List.all, D.leaf, Bool.and_true, and_self, splice, List.take, List.cons_append, List.nil_append, List.drop, inL_c, ↓hget_h, c1, ARun_some, AG_tt, List.append_nil, blockQ])))
  all_goals (refine end_to [] [(48, 48)] (by first | exact .inl rfl | exact .inr rfl) rfl (by kernel_rfl) (by kernel_rfl) (by kernel_rfl) ?_ ?_ <;> repeat' (first | exact trivial | exact vr_val _ | exact vr_list _ | refine And.intro ⟨_, rfl, _, rfl, by decide, ?_⟩ ?_ | apply And.intro))
set_option maxRecDepth 100000 in
set_option maxHeartbeats 1000000 in
theorem do_o2f_ac (h : Hst) (wd : Int × Int) (len wt si cy kd n : Int) (t : Bool) (i : Int) (hO : HoOk h) (hc : h.cable ≤ 100) (ho0 : HgOk h ⟨len, wt, si, cy, false⟩ i) (hi : i ≤ 100) (hk : kd = 2) (c1 : wI n 1 h.cable = false) :
    AC Try.prog 49 [.ptr 48 0, spD (kd, n)] [(48, wiC h wd ⟨len, wt, si, cy, false⟩ t)] [(48, some (wiC h wd (doK h wd ⟨len, wt, si, cy, false⟩ t (kd, n)) (doT h wd ⟨len, wt, si, cy, false⟩ t (kd, n))))] (dB (doB h wd ⟨len, wt, si, cy, false⟩ t (kd, n))) := by
  subst hk
  have q1 : 0 ≤ len := ho0.l1
  have q2 : len ≤ h.cable := ho0.l2
  have q3 : 0 ≤ wt := ho0.w1
  have q4 : wt ≤ 100000 := ho0.w2
  have q5 : 0 ≤ si := ho0.s1
  have q6 : si ≤ i := ho0.s2
  have q7 : 0 ≤ cy := ho0.c1
  have q8 : cy ≤ i := ho0.c2
  have e : stepS h wd ⟨len, wt, si, cy, false⟩ t (2, n) = none := by
    unfold stepS; simp [c1]
  obtain ⟨z1, z2, z3⟩ := do_none e
  rw [z1, z2, z3]
  refine kpsling_winch_do.ac (n0 := 56) (by simp) ⟨.ptr _ _ (by omega), in_agg2 _ _ _, trivial⟩ ⟨⟨by omega, wiC_in _ _ _ _ _⟩, trivial⟩ rfl ?_
  unfold cpsling_winch_do wiC spD
  (have hg : (987654321 : Nat) - 987654321 = 0 := rfl; have hr := hg; repeat' (first | refine aw_seq ?_ | (refine aw_skip ?_; try simp only [thenQ, blockQ, if_true, if_false, Nat.reduceEqDiff, reduceCtorEq]) | (refine aw_exit ?_; try simp only [thenQ, blockQ, if_true, if_false, Nat.reduceEqDiff, reduceCtorEq]) | refine aw_ret ?_ | refine aw_block ?_ | refine aw_condT rfl ?_ | refine aw_condF rfl ?_ | ((first | refine aw_region ?_ | refine acall0 (slwithin_ac _ _ _) ?_ | refine ago_if (by omega) ?_ | skip); simp (config := {maxSteps := 10000000}) (disch := first | exact okYes (by kernel_rfl) | omega) only [thenQ, List.map, dI, dB, List.length, Nat.zero_add, Nat.reduceAdd, Nat.reduceMul, envOf, ARun_none, AOpRun, aexec, D.isBot, FSt.ev, St.F, eget_c, Nat.reduceBEq, ↓eget_h, cond_false, Bool.false_eq_true, Option.isSome, hget_c, hget_n, or_self, ↓reduceIte, D.cells, AGo_ok, St.app, putO, eput_c, eput_n, hups, hput_c, hput_n, ARun_nil, dropE_c, inL_n, dropE_n, Option.map, run1, beq_self_eq_true, cond_true, List.getElem?_cons_succ, List.getElem?_cons_zero, isSh, abin, fits, Nat.reduceLeDiff, List.all, D.leaf, Bool.and_true, and_self, splice, List.take, List.cons_append, List.nil_append, List.drop, inL_c, ↓hget_h, Int.reduceBEq, c1, ARun_some, AG_ft, blockQ])))
  all_goals (refine end_to [] [(48, 48)] (by first | exact .inl rfl | exact .inr rfl) rfl (by kernel_rfl) (by kernel_rfl) (by kernel_rfl) ?_ ?_ <;> repeat' (first | exact trivial | exact vr_val _ | exact vr_list _ | refine And.intro ⟨_, rfl, _, rfl, by decide, ?_⟩ ?_ | apply And.intro))
set_option maxRecDepth 100000 in
set_option maxHeartbeats 1000000 in
theorem do_o2o_ac (h : Hst) (wd : Int × Int) (len wt si cy kd n : Int) (t : Bool) (i : Int) (hO : HoOk h) (hc : h.cable ≤ 100) (ho0 : HgOk h ⟨len, wt, si, cy, false⟩ i) (hi : i ≤ 100) (hk : kd = 2) (c1 : wI n 1 h.cable = true) (ho : wI (len + -n) 0 h.cable = true ∧ caB h wd (len + -n, len + -n) wt = true) :
    AC Try.prog 49 [.ptr 48 0, spD (kd, n)] [(48, wiC h wd ⟨len, wt, si, cy, false⟩ t)] [(48, some (wiC h wd (doK h wd ⟨len, wt, si, cy, false⟩ t (kd, n)) (doT h wd ⟨len, wt, si, cy, false⟩ t (kd, n))))] (dB (doB h wd ⟨len, wt, si, cy, false⟩ t (kd, n))) := by
  subst hk
  have q1 : 0 ≤ len := ho0.l1
  have q2 : len ≤ h.cable := ho0.l2
  have q3 : 0 ≤ wt := ho0.w1
  have q4 : wt ≤ 100000 := ho0.w2
  have q5 : 0 ≤ si := ho0.s1
  have q6 : si ≤ i := ho0.s2
  have q7 : 0 ≤ cy := ho0.c1
  have q8 : cy ≤ i := ho0.c2
  have e : stepS h wd ⟨len, wt, si, cy, false⟩ t (2, n) = some (⟨len + -n, wt, si + 1, cy, false⟩, t) := by
    unfold stepS outS; simp [c1, ho.1, ho.2]
  obtain ⟨z1, z2, z3⟩ := do_some e
  rw [z1, z2, z3]
  have hn := wI_t c1
  have outO := outO_ac h wd ⟨len, wt, si + 1, cy, false⟩ t (-n) hO ⟨q1, by simp only; omega⟩ ⟨by omega, by omega⟩ ho
  refine kpsling_winch_do.ac (n0 := 56) (by simp) ⟨.ptr _ _ (by omega), in_agg2 _ _ _, trivial⟩ ⟨⟨by omega, wiC_in _ _ _ _ _⟩, trivial⟩ rfl ?_
  unfold cpsling_winch_do wiC spD
  unfold wiC at outO
  (have hg : (987654321 : Nat) - 987654321 = 0 := rfl; have hr := hg; repeat' (first | refine aw_seq ?_ | (refine aw_skip ?_; try simp only [thenQ, blockQ, if_true, if_false, Nat.reduceEqDiff, reduceCtorEq]) | (refine aw_exit ?_; try simp only [thenQ, blockQ, if_true, if_false, Nat.reduceEqDiff, reduceCtorEq]) | refine aw_ret ?_ | refine aw_block ?_ | refine aw_condT rfl ?_ | refine aw_condF rfl ?_ | ((first | refine aw_region ?_ | refine acall0 (slwithin_ac _ _ _) ?_ | refine acallB (outO) (by repeat' (first | exact trivial | exact rfl | refine And.intro ?_ ?_)) (by kernel_rfl) (by kernel_rfl) (by kernel_rfl) ?_ | refine ago_if (by omega) ?_ | skip); simp (config := {maxSteps := 10000000}) (disch := first | exact okYes (by kernel_rfl) | omega) only [thenQ, List.map, dI, dB, List.length, Nat.zero_add, Nat.reduceAdd, Nat.reduceMul, envOf, ARun_none, AOpRun, aexec, D.isBot, FSt.ev, St.F, eget_c, Nat.reduceBEq, ↓eget_h, cond_false, Bool.false_eq_true, Option.isSome, hget_c, hget_n, or_self, ↓reduceIte, D.cells, AGo_ok, St.app, putO, eput_c, eput_n, hups, hput_c, hput_n, ARun_nil, dropE_c, inL_n, dropE_n, Option.map, run1, beq_self_eq_true, cond_true, List.getElem?_cons_succ, List.getElem?_cons_zero, isSh, abin, fits, Nat.reduceLeDiff, List.all, D.leaf, Bool.and_true, and_self, splice, List.take, List.cons_append, List.nil_append, List.drop, inL_c, ↓hget_h, Int.reduceBEq, c1, ARun_some, AG_tt, Int.zero_sub, List.append_nil, blockQ])))
  all_goals (refine end_to [] [(48, 48)] (by first | exact .inl rfl | exact .inr rfl) rfl (by kernel_rfl) (by kernel_rfl) (by kernel_rfl) ?_ ?_ <;> repeat' (first | exact trivial | exact vr_val _ | exact vr_list _ | refine And.intro ⟨_, rfl, _, rfl, by decide, ?_⟩ ?_ | apply And.intro))
set_option maxRecDepth 100000 in
set_option maxHeartbeats 1000000 in
theorem do_o2e_ac (h : Hst) (wd : Int × Int) (len wt si cy kd n : Int) (t : Bool) (i : Int) (hO : HoOk h) (hc : h.cable ≤ 100) (ho0 : HgOk h ⟨len, wt, si, cy, false⟩ i) (hi : i ≤ 100) (hk : kd = 2) (c1 : wI n 1 h.cable = true) (ho : ¬ (wI (len + -n) 0 h.cable = true ∧ caB h wd (len + -n, len + -n) wt = true)) :
    AC Try.prog 49 [.ptr 48 0, spD (kd, n)] [(48, wiC h wd ⟨len, wt, si, cy, false⟩ t)] [(48, some (wiC h wd (doK h wd ⟨len, wt, si, cy, false⟩ t (kd, n)) (doT h wd ⟨len, wt, si, cy, false⟩ t (kd, n))))] (dB (doB h wd ⟨len, wt, si, cy, false⟩ t (kd, n))) := by
  subst hk
  have q1 : 0 ≤ len := ho0.l1
  have q2 : len ≤ h.cable := ho0.l2
  have q3 : 0 ≤ wt := ho0.w1
  have q4 : wt ≤ 100000 := ho0.w2
  have q5 : 0 ≤ si := ho0.s1
  have q6 : si ≤ i := ho0.s2
  have q7 : 0 ≤ cy := ho0.c1
  have q8 : cy ≤ i := ho0.c2
  have e : stepS h wd ⟨len, wt, si, cy, false⟩ t (2, n) = none := by
    unfold stepS outS; simp [c1]; intro a; exact Bool.eq_false_iff.2 fun b => ho ⟨a, b⟩
  obtain ⟨z1, z2, z3⟩ := do_none e
  rw [z1, z2, z3]
  have hn := wI_t c1
  have outE := outE_ac h wd ⟨len, wt, si + 1, cy, false⟩ t (-n) hO ⟨q1, by simp only; omega⟩ ⟨by omega, by omega⟩ ho
  refine kpsling_winch_do.ac (n0 := 56) (by simp) ⟨.ptr _ _ (by omega), in_agg2 _ _ _, trivial⟩ ⟨⟨by omega, wiC_in _ _ _ _ _⟩, trivial⟩ rfl ?_
  unfold cpsling_winch_do wiC spD
  unfold wiC at outE
  (have hg : (987654321 : Nat) - 987654321 = 0 := rfl; have hr := hg; repeat' (first | refine aw_seq ?_ | (refine aw_skip ?_; try simp only [thenQ, blockQ, if_true, if_false, Nat.reduceEqDiff, reduceCtorEq]) | (refine aw_exit ?_; try simp only [thenQ, blockQ, if_true, if_false, Nat.reduceEqDiff, reduceCtorEq]) | refine aw_ret ?_ | refine aw_block ?_ | refine aw_condT rfl ?_ | refine aw_condF rfl ?_ | ((first | refine aw_region ?_ | refine acall0 (slwithin_ac _ _ _) ?_ | refine acallB (outE) (by repeat' (first | exact trivial | exact rfl | refine And.intro ?_ ?_)) (by kernel_rfl) (by kernel_rfl) (by kernel_rfl) ?_ | refine ago_if (by omega) ?_ | skip); simp (config := {maxSteps := 10000000}) (disch := first | exact okYes (by kernel_rfl) | omega) only [thenQ, List.map, dI, dB, List.length, Nat.zero_add, Nat.reduceAdd, Nat.reduceMul, envOf, ARun_none, AOpRun, aexec, D.isBot, FSt.ev, St.F, eget_c, Nat.reduceBEq, ↓eget_h, cond_false, Bool.false_eq_true, Option.isSome, hget_c, hget_n, or_self, ↓reduceIte, D.cells, AGo_ok, St.app, putO, eput_c, eput_n, hups, hput_c, hput_n, ARun_nil, dropE_c, inL_n, dropE_n, Option.map, run1, beq_self_eq_true, cond_true, List.getElem?_cons_succ, List.getElem?_cons_zero, isSh, abin, fits, Nat.reduceLeDiff, List.all, D.leaf, Bool.and_true, and_self, splice, List.take, List.cons_append, List.nil_append, List.drop, inL_c, ↓hget_h, Int.reduceBEq, c1, ARun_some, AG_tt, Int.zero_sub, List.append_nil, blockQ])))
  all_goals (refine end_to [] [(48, 48)] (by first | exact .inl rfl | exact .inr rfl) rfl (by kernel_rfl) (by kernel_rfl) (by kernel_rfl) ?_ ?_ <;> repeat' (first | exact trivial | exact vr_val _ | exact vr_list _ | refine And.intro ⟨_, rfl, _, rfl, by decide, ?_⟩ ?_ | apply And.intro))
set_option maxRecDepth 100000 in
set_option maxHeartbeats 1000000 in
theorem do_h1_ac (h : Hst) (wd : Int × Int) (len wt si cy kd n : Int) (t : Bool) (i : Int) (hO : HoOk h) (hc : h.cable ≤ 100) (ho0 : HgOk h ⟨len, wt, si, cy, false⟩ i) (hi : i ≤ 100) (hk : kd = 4) (c1 : 0 < wt) :
    AC Try.prog 49 [.ptr 48 0, spD (kd, n)] [(48, wiC h wd ⟨len, wt, si, cy, false⟩ t)] [(48, some (wiC h wd (doK h wd ⟨len, wt, si, cy, false⟩ t (kd, n)) (doT h wd ⟨len, wt, si, cy, false⟩ t (kd, n))))] (dB (doB h wd ⟨len, wt, si, cy, false⟩ t (kd, n))) := by
  subst hk
  have q1 : 0 ≤ len := ho0.l1
  have q2 : len ≤ h.cable := ho0.l2
  have q3 : 0 ≤ wt := ho0.w1
  have q4 : wt ≤ 100000 := ho0.w2
  have q5 : 0 ≤ si := ho0.s1
  have q6 : si ≤ i := ho0.s2
  have q7 : 0 ≤ cy := ho0.c1
  have q8 : cy ≤ i := ho0.c2
  have e : stepS h wd ⟨len, wt, si, cy, false⟩ t (4, n) = none := by
    unfold stepS; simp; omega
  obtain ⟨z1, z2, z3⟩ := do_none e
  rw [z1, z2, z3]
  refine kpsling_winch_do.ac (n0 := 56) (by simp) ⟨.ptr _ _ (by omega), in_agg2 _ _ _, trivial⟩ ⟨⟨by omega, wiC_in _ _ _ _ _⟩, trivial⟩ rfl ?_
  unfold cpsling_winch_do wiC spD
  (have hg : (987654321 : Nat) - 987654321 = 0 := rfl; have hr := hg; repeat' (first | refine aw_seq ?_ | (refine aw_skip ?_; try simp only [thenQ, blockQ, if_true, if_false, Nat.reduceEqDiff, reduceCtorEq]) | (refine aw_exit ?_; try simp only [thenQ, blockQ, if_true, if_false, Nat.reduceEqDiff, reduceCtorEq]) | refine aw_ret ?_ | refine aw_block ?_ | refine aw_condT rfl ?_ | refine aw_condF rfl ?_ | (refine ag_bool (fun hg => ?_) (fun hg => ?_) <;> (try (have hq := hg; simp only [Bool.not_eq_true', Bool.not_eq_false', Bool.and_eq_true, Bool.and_eq_false_iff, Bool.or_eq_true, Bool.or_eq_false_iff, decide_eq_true_eq, decide_eq_false_iff_not, bne_iff_ne, beq_iff_eq, beq_eq_false_iff_ne, bne_eq_false_iff_eq, ne_eq, Int.not_lt, Int.not_le, Decidable.not_not] at hq)) <;> (try (have hr := hg; simp only [decide_eq_true_eq, decide_eq_false_iff_not] at hr)) <;> (try (exfalso; omega)) <;> simp (config := {maxSteps := 10000000}) (disch := first | exact okYes (by kernel_rfl) | omega) only [hr, decide_true, AG_tf, Nat.reduceAdd, St.app, putO, eput_c, Nat.reduceBEq, eput_n, cond_false, hups, ARun_some, eget_c, ↓eget_h, ARun_none, AOpRun, aexec, FSt.ev, St.F, ↓reduceIte, AGo_ok, List.map, ARun_nil, dropE_c, inL_c, inL_n, beq_self_eq_true, cond_true, dropE_n]) | ((first | refine aw_region ?_ | refine ago_if (by omega) ?_ | skip); simp (config := {maxSteps := 10000000}) (disch := first | exact okYes (by kernel_rfl) | omega) only [thenQ, List.map, dI, dB, List.length, Nat.zero_add, Nat.reduceAdd, Nat.reduceMul, envOf, ARun_none, AOpRun, aexec, D.isBot, FSt.ev, St.F, eget_c, Nat.reduceBEq, ↓eget_h, cond_false, Bool.false_eq_true, Option.isSome, hget_c, hget_n, or_self, ↓reduceIte, D.cells, AGo_ok, St.app, putO, eput_c, eput_n, hups, hput_c, hput_n, ARun_nil, dropE_c, inL_n, dropE_n, Option.map, run1, beq_self_eq_true, cond_true, List.getElem?_cons_succ, List.getElem?_cons_zero, isSh, abin, fits, Nat.reduceLeDiff, List.all, D.leaf, Bool.and_true, and_self, splice, List.take, List.cons_append, List.nil_append, List.drop, inL_c, ↓hget_h, Int.reduceBEq, ARun_some, blockQ])))
  all_goals (refine end_to [] [(48, 48)] (by first | exact .inl rfl | exact .inr rfl) rfl (by kernel_rfl) (by kernel_rfl) (by kernel_rfl) ?_ ?_ <;> repeat' (first | exact trivial | exact vr_val _ | exact vr_list _ | refine And.intro ⟨_, rfl, _, rfl, by decide, ?_⟩ ?_ | apply And.intro))
set_option maxRecDepth 100000 in
set_option maxHeartbeats 1000000 in
theorem do_h2_ac (h : Hst) (wd : Int × Int) (len wt si cy kd n : Int) (t : Bool) (i : Int) (hO : HoOk h) (hc : h.cable ≤ 100) (ho0 : HgOk h ⟨len, wt, si, cy, false⟩ i) (hi : i ≤ 100) (hk : kd = 4) (c1 : wt ≤ 0) (c2 : len = 0) :
    AC Try.prog 49 [.ptr 48 0, spD (kd, n)] [(48, wiC h wd ⟨len, wt, si, cy, false⟩ t)] [(48, some (wiC h wd (doK h wd ⟨len, wt, si, cy, false⟩ t (kd, n)) (doT h wd ⟨len, wt, si, cy, false⟩ t (kd, n))))] (dB (doB h wd ⟨len, wt, si, cy, false⟩ t (kd, n))) := by
  subst hk
  have q1 : 0 ≤ len := ho0.l1
  have q2 : len ≤ h.cable := ho0.l2
  have q3 : 0 ≤ wt := ho0.w1
  have q4 : wt ≤ 100000 := ho0.w2
  have q5 : 0 ≤ si := ho0.s1
  have q6 : si ≤ i := ho0.s2
  have q7 : 0 ≤ cy := ho0.c1
  have q8 : cy ≤ i := ho0.c2
  have e : stepS h wd ⟨len, wt, si, cy, false⟩ t (4, n) = none := by
    unfold stepS; simp [c2]
  obtain ⟨z1, z2, z3⟩ := do_none e
  rw [z1, z2, z3]
  refine kpsling_winch_do.ac (n0 := 56) (by simp) ⟨.ptr _ _ (by omega), in_agg2 _ _ _, trivial⟩ ⟨⟨by omega, wiC_in _ _ _ _ _⟩, trivial⟩ rfl ?_
  unfold cpsling_winch_do wiC spD
  (have hg : (987654321 : Nat) - 987654321 = 0 := rfl; have hr := hg; repeat' (first | refine aw_seq ?_ | (refine aw_skip ?_; try simp only [thenQ, blockQ, if_true, if_false, Nat.reduceEqDiff, reduceCtorEq]) | (refine aw_exit ?_; try simp only [thenQ, blockQ, if_true, if_false, Nat.reduceEqDiff, reduceCtorEq]) | refine aw_ret ?_ | refine aw_block ?_ | refine aw_condT rfl ?_ | refine aw_condF rfl ?_ | (refine ag_bool (fun hg => ?_) (fun hg => ?_) <;> (try (have hq := hg; simp only [Bool.not_eq_true', Bool.not_eq_false', Bool.and_eq_true, Bool.and_eq_false_iff, Bool.or_eq_true, Bool.or_eq_false_iff, decide_eq_true_eq, decide_eq_false_iff_not, bne_iff_ne, beq_iff_eq, beq_eq_false_iff_ne, bne_eq_false_iff_eq, ne_eq, Int.not_lt, Int.not_le, Decidable.not_not] at hq)) <;> (try (have hr := hg; simp only [decide_eq_true_eq, decide_eq_false_iff_not] at hr)) <;> (try (exfalso; omega)) <;> simp (config := {maxSteps := 10000000}) (disch := first | exact okYes (by kernel_rfl) | omega) only [hr, decide_false, AG_ff, AOpRun, aexec, FSt.ev, St.F, ↓eget_h, AGo_ok, Nat.reduceAdd, St.app, putO, eput_c, Nat.reduceBEq, eput_n, cond_false, hups, List.map, ARun_some, eget_c, Nat.zero_add, Option.map, run1, hget_c, beq_self_eq_true, hget_n, cond_true, List.getElem?_cons_succ, List.getElem?_cons_zero, isSh, Bool.false_eq_true, ↓reduceIte, abin, ARun_none, hg, AG_tf, ARun_nil, dropE_c, inL_c, inL_n, dropE_n]) | ((first | refine aw_region ?_ | refine ago_if (by omega) ?_ | skip); simp (config := {maxSteps := 10000000}) (disch := first | exact okYes (by kernel_rfl) | omega) only [thenQ, List.map, dI, dB, List.length, Nat.zero_add, Nat.reduceAdd, Nat.reduceMul, envOf, ARun_none, AOpRun, aexec, D.isBot, FSt.ev, St.F, eget_c, Nat.reduceBEq, ↓eget_h, cond_false, Bool.false_eq_true, Option.isSome, hget_c, hget_n, or_self, ↓reduceIte, D.cells, AGo_ok, St.app, putO, eput_c, eput_n, hups, hput_c, hput_n, ARun_nil, dropE_c, inL_n, dropE_n, Option.map, run1, beq_self_eq_true, cond_true, List.getElem?_cons_succ, List.getElem?_cons_zero, isSh, abin, fits, Nat.reduceLeDiff, List.all, D.leaf, Bool.and_true, and_self, splice, List.take, List.cons_append, List.nil_append, List.drop, inL_c, ↓hget_h, Int.reduceBEq, ARun_some, blockQ])))
  all_goals (refine end_to [] [(48, 48)] (by first | exact .inl rfl | exact .inr rfl) rfl (by kernel_rfl) (by kernel_rfl) (by kernel_rfl) ?_ ?_ <;> repeat' (first | exact trivial | exact vr_val _ | exact vr_list _ | refine And.intro ⟨_, rfl, _, rfl, by decide, ?_⟩ ?_ | apply And.intro))
set_option maxRecDepth 100000 in
set_option maxHeartbeats 1000000 in
theorem do_h3_ac (h : Hst) (wd : Int × Int) (len wt si cy kd n : Int) (t : Bool) (i : Int) (hO : HoOk h) (hc : h.cable ≤ 100) (ho0 : HgOk h ⟨len, wt, si, cy, false⟩ i) (hi : i ≤ 100) (hk : kd = 4) (c1 : wt ≤ 0) (c2 : len ≠ 0) (c3 : t = false) :
    AC Try.prog 49 [.ptr 48 0, spD (kd, n)] [(48, wiC h wd ⟨len, wt, si, cy, false⟩ t)] [(48, some (wiC h wd (doK h wd ⟨len, wt, si, cy, false⟩ t (kd, n)) (doT h wd ⟨len, wt, si, cy, false⟩ t (kd, n))))] (dB (doB h wd ⟨len, wt, si, cy, false⟩ t (kd, n))) := by
  subst hk
  subst c3
  have q1 : 0 ≤ len := ho0.l1
  have q2 : len ≤ h.cable := ho0.l2
  have q3 : 0 ≤ wt := ho0.w1
  have q4 : wt ≤ 100000 := ho0.w2
  have q5 : 0 ≤ si := ho0.s1
  have q6 : si ≤ i := ho0.s2
  have q7 : 0 ≤ cy := ho0.c1
  have q8 : cy ≤ i := ho0.c2
  have e : stepS h wd ⟨len, wt, si, cy, false⟩ false (4, n) = none := by
    unfold stepS; simp
  obtain ⟨z1, z2, z3⟩ := do_none e
  rw [z1, z2, z3]
  refine kpsling_winch_do.ac (n0 := 56) (by simp) ⟨.ptr _ _ (by omega), in_agg2 _ _ _, trivial⟩ ⟨⟨by omega, wiC_in _ _ _ _ _⟩, trivial⟩ rfl ?_
  unfold cpsling_winch_do wiC spD
  (have hg : (987654321 : Nat) - 987654321 = 0 := rfl; have hr := hg; repeat' (first | refine aw_seq ?_ | (refine aw_skip ?_; try simp only [thenQ, blockQ, if_true, if_false, Nat.reduceEqDiff, reduceCtorEq]) | (refine aw_exit ?_; try simp only [thenQ, blockQ, if_true, if_false, Nat.reduceEqDiff, reduceCtorEq]) | refine aw_ret ?_ | refine aw_block ?_ | refine aw_condT rfl ?_ | refine aw_condF rfl ?_ | (refine ag_bool (fun hg => ?_) (fun hg => ?_) <;> (try (have hq := hg; simp only [Bool.not_eq_true', Bool.not_eq_false', Bool.and_eq_true, Bool.and_eq_false_iff, Bool.or_eq_true, Bool.or_eq_false_iff, decide_eq_true_eq, decide_eq_false_iff_not, bne_iff_ne, beq_iff_eq, beq_eq_false_iff_ne, bne_eq_false_iff_eq, ne_eq, Int.not_lt, Int.not_le, Decidable.not_not] at hq)) <;> (try (have hr := hg; simp only [decide_eq_true_eq, decide_eq_false_iff_not] at hr)) <;> (try (exfalso; omega)) <;> simp (config := {maxSteps := 10000000}) (disch := first | exact okYes (by kernel_rfl) | omega) only [hr, decide_false, AG_ff, AOpRun, aexec, FSt.ev, St.F, ↓eget_h, AGo_ok, Nat.reduceAdd, St.app, putO, eput_c, Nat.reduceBEq, eput_n, cond_false, hups, List.map, ARun_some, eget_c, Nat.zero_add, Option.map, run1, hget_c, beq_self_eq_true, hget_n, cond_true, List.getElem?_cons_succ, List.getElem?_cons_zero, isSh, Bool.false_eq_true, ↓reduceIte, abin, ARun_none, hg, Bool.not_false, AG_tf, ARun_nil, dropE_c, inL_c, inL_n, dropE_n]) | ((first | refine aw_region ?_ | refine ago_if (by omega) ?_ | skip); simp (config := {maxSteps := 10000000}) (disch := first | exact okYes (by kernel_rfl) | omega) only [thenQ, List.map, dI, dB, List.length, Nat.zero_add, Nat.reduceAdd, Nat.reduceMul, envOf, ARun_none, AOpRun, aexec, D.isBot, FSt.ev, St.F, eget_c, Nat.reduceBEq, ↓eget_h, cond_false, Bool.false_eq_true, Option.isSome, hget_c, hget_n, or_self, ↓reduceIte, D.cells, AGo_ok, St.app, putO, eput_c, eput_n, hups, hput_c, hput_n, ARun_nil, dropE_c, inL_n, dropE_n, Option.map, run1, beq_self_eq_true, cond_true, List.getElem?_cons_succ, List.getElem?_cons_zero, isSh, abin, fits, Nat.reduceLeDiff, List.all, D.leaf, Bool.and_true, and_self, splice, List.take, List.cons_append, List.nil_append, List.drop, inL_c, ↓hget_h, Int.reduceBEq, ARun_some, blockQ])))
  all_goals (refine end_to [] [(48, 48)] (by first | exact .inl rfl | exact .inr rfl) rfl (by kernel_rfl) (by kernel_rfl) (by kernel_rfl) ?_ ?_ <;> repeat' (first | exact trivial | exact vr_val _ | exact vr_list _ | refine And.intro ⟨_, rfl, _, rfl, by decide, ?_⟩ ?_ | apply And.intro))
set_option maxRecDepth 100000 in
set_option maxHeartbeats 1000000 in
theorem do_h4_ac (h : Hst) (wd : Int × Int) (len wt si cy kd n : Int) (t : Bool) (i : Int) (hO : HoOk h) (hc : h.cable ≤ 100) (ho0 : HgOk h ⟨len, wt, si, cy, false⟩ i) (hi : i ≤ 100) (hk : kd = 4) (c1 : wt ≤ 0) (c2 : len ≠ 0) (c3 : t = true) (c4 : h.charge < si + 1) :
    AC Try.prog 49 [.ptr 48 0, spD (kd, n)] [(48, wiC h wd ⟨len, wt, si, cy, false⟩ t)] [(48, some (wiC h wd (doK h wd ⟨len, wt, si, cy, false⟩ t (kd, n)) (doT h wd ⟨len, wt, si, cy, false⟩ t (kd, n))))] (dB (doB h wd ⟨len, wt, si, cy, false⟩ t (kd, n))) := by
  subst hk
  subst c3
  have q1 : 0 ≤ len := ho0.l1
  have q2 : len ≤ h.cable := ho0.l2
  have q3 : 0 ≤ wt := ho0.w1
  have q4 : wt ≤ 100000 := ho0.w2
  have q5 : 0 ≤ si := ho0.s1
  have q6 : si ≤ i := ho0.s2
  have q7 : 0 ≤ cy := ho0.c1
  have q8 : cy ≤ i := ho0.c2
  have e : stepS h wd ⟨len, wt, si, cy, false⟩ true (4, n) = none := by
    unfold stepS; simp; omega
  obtain ⟨z1, z2, z3⟩ := do_none e
  rw [z1, z2, z3]
  refine kpsling_winch_do.ac (n0 := 56) (by simp) ⟨.ptr _ _ (by omega), in_agg2 _ _ _, trivial⟩ ⟨⟨by omega, wiC_in _ _ _ _ _⟩, trivial⟩ rfl ?_
  unfold cpsling_winch_do wiC spD
  (have hg : (987654321 : Nat) - 987654321 = 0 := rfl; have hr := hg; repeat' (first | refine aw_seq ?_ | (refine aw_skip ?_; try simp only [thenQ, blockQ, if_true, if_false, Nat.reduceEqDiff, reduceCtorEq]) | (refine aw_exit ?_; try simp only [thenQ, blockQ, if_true, if_false, Nat.reduceEqDiff, reduceCtorEq]) | refine aw_ret ?_ | refine aw_block ?_ | refine aw_condT rfl ?_ | refine aw_condF rfl ?_ | (refine ag_bool (fun hg => ?_) (fun hg => ?_) <;> (try (have hq := hg; simp only [Bool.not_eq_true', Bool.not_eq_false', Bool.and_eq_true, Bool.and_eq_false_iff, Bool.or_eq_true, Bool.or_eq_false_iff, decide_eq_true_eq, decide_eq_false_iff_not, bne_iff_ne, beq_iff_eq, beq_eq_false_iff_ne, bne_eq_false_iff_eq, ne_eq, Int.not_lt, Int.not_le, Decidable.not_not] at hq)) <;> (try (have hr := hg; simp only [decide_eq_true_eq, decide_eq_false_iff_not] at hr)) <;> (try (exfalso; omega)) <;> simp (config := {maxSteps := 10000000}) (disch := first | exact okYes (by kernel_rfl) | omega) only [hr, decide_false, AG_ff, AOpRun, aexec, FSt.ev, St.F, ↓eget_h, AGo_ok, Nat.reduceAdd, St.app, putO, eput_c, Nat.reduceBEq, eput_n, cond_false, hups, List.map, ARun_some, eget_c, Nat.zero_add, Option.map, run1, hget_c, beq_self_eq_true, hget_n, cond_true, List.getElem?_cons_succ, List.getElem?_cons_zero, isSh, Bool.false_eq_true, ↓reduceIte, abin, ARun_none, hg, Bool.not_true, decide_true, AG_tf, ARun_nil, dropE_c, inL_c, inL_n, dropE_n]) | ((first | refine aw_region ?_ | refine ago_if (by omega) ?_ | skip); simp (config := {maxSteps := 10000000}) (disch := first | exact okYes (by kernel_rfl) | omega) only [thenQ, List.map, dI, dB, List.length, Nat.zero_add, Nat.reduceAdd, Nat.reduceMul, envOf, ARun_none, AOpRun, aexec, D.isBot, FSt.ev, St.F, eget_c, Nat.reduceBEq, ↓eget_h, cond_false, Bool.false_eq_true, Option.isSome, hget_c, hget_n, or_self, ↓reduceIte, D.cells, AGo_ok, St.app, putO, eput_c, eput_n, hups, hput_c, hput_n, ARun_nil, dropE_c, inL_n, dropE_n, Option.map, run1, beq_self_eq_true, cond_true, List.getElem?_cons_succ, List.getElem?_cons_zero, isSh, abin, fits, Nat.reduceLeDiff, List.all, D.leaf, Bool.and_true, and_self, splice, List.take, List.cons_append, List.nil_append, List.drop, inL_c, ↓hget_h, Int.reduceBEq, ARun_some, blockQ])))
  all_goals (refine end_to [] [(48, 48)] (by first | exact .inl rfl | exact .inr rfl) rfl (by kernel_rfl) (by kernel_rfl) (by kernel_rfl) ?_ ?_ <;> repeat' (first | exact trivial | exact vr_val _ | exact vr_list _ | refine And.intro ⟨_, rfl, _, rfl, by decide, ?_⟩ ?_ | apply And.intro))
set_option maxRecDepth 100000 in
set_option maxHeartbeats 1000000 in
theorem do_h5_ac (h : Hst) (wd : Int × Int) (len wt si cy kd n : Int) (t : Bool) (i : Int) (hO : HoOk h) (hc : h.cable ≤ 100) (ho0 : HgOk h ⟨len, wt, si, cy, false⟩ i) (hi : i ≤ 100) (hk : kd = 4) (c1 : wt ≤ 0) (c2 : len ≠ 0) (c3 : t = true) (c4 : si + 1 ≤ h.charge) (c5 : wI n 1 100000 = false) :
    AC Try.prog 49 [.ptr 48 0, spD (kd, n)] [(48, wiC h wd ⟨len, wt, si, cy, false⟩ t)] [(48, some (wiC h wd (doK h wd ⟨len, wt, si, cy, false⟩ t (kd, n)) (doT h wd ⟨len, wt, si, cy, false⟩ t (kd, n))))] (dB (doB h wd ⟨len, wt, si, cy, false⟩ t (kd, n))) := by
  subst hk
  subst c3
  have q1 : 0 ≤ len := ho0.l1
  have q2 : len ≤ h.cable := ho0.l2
  have q3 : 0 ≤ wt := ho0.w1
  have q4 : wt ≤ 100000 := ho0.w2
  have q5 : 0 ≤ si := ho0.s1
  have q6 : si ≤ i := ho0.s2
  have q7 : 0 ≤ cy := ho0.c1
  have q8 : cy ≤ i := ho0.c2
  have e : stepS h wd ⟨len, wt, si, cy, false⟩ true (4, n) = none := by
    unfold stepS; simp [c5]
  obtain ⟨z1, z2, z3⟩ := do_none e
  rw [z1, z2, z3]
  refine kpsling_winch_do.ac (n0 := 56) (by simp) ⟨.ptr _ _ (by omega), in_agg2 _ _ _, trivial⟩ ⟨⟨by omega, wiC_in _ _ _ _ _⟩, trivial⟩ rfl ?_
  unfold cpsling_winch_do wiC spD
  (have hg : (987654321 : Nat) - 987654321 = 0 := rfl; have hr := hg; repeat' (first | refine aw_seq ?_ | (refine aw_skip ?_; try simp only [thenQ, blockQ, if_true, if_false, Nat.reduceEqDiff, reduceCtorEq]) | (refine aw_exit ?_; try simp only [thenQ, blockQ, if_true, if_false, Nat.reduceEqDiff, reduceCtorEq]) | refine aw_ret ?_ | refine aw_block ?_ | refine aw_condT rfl ?_ | refine aw_condF rfl ?_ | (refine ag_bool (fun hg => ?_) (fun hg => ?_) <;> (try (have hq := hg; simp only [Bool.not_eq_true', Bool.not_eq_false', Bool.and_eq_true, Bool.and_eq_false_iff, Bool.or_eq_true, Bool.or_eq_false_iff, decide_eq_true_eq, decide_eq_false_iff_not, bne_iff_ne, beq_iff_eq, beq_eq_false_iff_ne, bne_eq_false_iff_eq, ne_eq, Int.not_lt, Int.not_le, Decidable.not_not] at hq)) <;> (try (have hr := hg; simp only [decide_eq_true_eq, decide_eq_false_iff_not] at hr)) <;> (try (exfalso; omega)) <;> simp (config := {maxSteps := 10000000}) (disch := first | exact okYes (by kernel_rfl) | omega) only [hr, decide_false, AG_ff, AOpRun, aexec, FSt.ev, St.F, ↓eget_h, AGo_ok, Nat.reduceAdd, St.app, putO, eput_c, Nat.reduceBEq, eput_n, cond_false, hups, List.map, ARun_some, eget_c, Nat.zero_add, Option.map, run1, hget_c, beq_self_eq_true, hget_n, cond_true, List.getElem?_cons_succ, List.getElem?_cons_zero, isSh, Bool.false_eq_true, ↓reduceIte, abin, ARun_none, hg, Bool.not_true, ↓hget_h]) | ((first | refine aw_region ?_ | refine acall0 (slwithin_ac _ _ _) ?_ | refine ago_if (by omega) ?_ | skip); simp (config := {maxSteps := 10000000}) (disch := first | exact okYes (by kernel_rfl) | omega) only [thenQ, List.map, dI, dB, List.length, Nat.zero_add, Nat.reduceAdd, Nat.reduceMul, envOf, ARun_none, AOpRun, aexec, D.isBot, FSt.ev, St.F, eget_c, Nat.reduceBEq, ↓eget_h, cond_false, Bool.false_eq_true, Option.isSome, hget_c, hget_n, or_self, ↓reduceIte, D.cells, AGo_ok, St.app, putO, eput_c, eput_n, hups, hput_c, hput_n, ARun_nil, dropE_c, inL_n, dropE_n, Option.map, run1, beq_self_eq_true, cond_true, List.getElem?_cons_succ, List.getElem?_cons_zero, isSh, abin, fits, Nat.reduceLeDiff, List.all, D.leaf, Bool.and_true, and_self, splice, List.take, List.cons_append, List.nil_append, List.drop, inL_c, ↓hget_h, Int.reduceBEq, ARun_some, c5, AG_ff, Bool.not_false, AG_tf, blockQ])))
  all_goals (refine end_to [] [(48, 48)] (by first | exact .inl rfl | exact .inr rfl) rfl (by kernel_rfl) (by kernel_rfl) (by kernel_rfl) ?_ ?_ <;> repeat' (first | exact trivial | exact vr_val _ | exact vr_list _ | refine And.intro ⟨_, rfl, _, rfl, by decide, ?_⟩ ?_ | apply And.intro))
set_option maxRecDepth 100000 in
set_option maxHeartbeats 1000000 in
theorem do_h6_ac (h : Hst) (wd : Int × Int) (len wt si cy kd n : Int) (t : Bool) (i : Int) (hO : HoOk h) (hc : h.cable ≤ 100) (ho0 : HgOk h ⟨len, wt, si, cy, false⟩ i) (hi : i ≤ 100) (hk : kd = 4) (c1 : wt ≤ 0) (c2 : len ≠ 0) (c3 : t = true) (c4 : si + 1 ≤ h.charge) (c5 : wI n 1 100000 = true) (c6 : caB h wd (len, len) n = false) :
    AC Try.prog 49 [.ptr 48 0, spD (kd, n)] [(48, wiC h wd ⟨len, wt, si, cy, false⟩ t)] [(48, some (wiC h wd (doK h wd ⟨len, wt, si, cy, false⟩ t (kd, n)) (doT h wd ⟨len, wt, si, cy, false⟩ t (kd, n))))] (dB (doB h wd ⟨len, wt, si, cy, false⟩ t (kd, n))) := by
  subst hk
  subst c3
  have q1 : 0 ≤ len := ho0.l1
  have q2 : len ≤ h.cable := ho0.l2
  have q3 : 0 ≤ wt := ho0.w1
  have q4 : wt ≤ 100000 := ho0.w2
  have q5 : 0 ≤ si := ho0.s1
  have q6 : si ≤ i := ho0.s2
  have q7 : 0 ≤ cy := ho0.c1
  have q8 : cy ≤ i := ho0.c2
  have e : stepS h wd ⟨len, wt, si, cy, false⟩ true (4, n) = none := by
    unfold stepS; simp [c6]
  obtain ⟨z1, z2, z3⟩ := do_none e
  rw [z1, z2, z3]
  have hn := wI_t c5
  have ca := carries_ac h wd (len, len) n ⟨len, wt, si + 1, cy, false⟩ true hO
  unfold wiC at ca
  refine kpsling_winch_do.ac (n0 := 56) (by simp) ⟨.ptr _ _ (by omega), in_agg2 _ _ _, trivial⟩ ⟨⟨by omega, wiC_in _ _ _ _ _⟩, trivial⟩ rfl ?_
  unfold cpsling_winch_do wiC spD
  (have hg : (987654321 : Nat) - 987654321 = 0 := rfl; have hr := hg; repeat' (first | refine aw_seq ?_ | (refine aw_skip ?_; try simp only [thenQ, blockQ, if_true, if_false, Nat.reduceEqDiff, reduceCtorEq]) | (refine aw_exit ?_; try simp only [thenQ, blockQ, if_true, if_false, Nat.reduceEqDiff, reduceCtorEq]) | refine aw_ret ?_ | refine aw_block ?_ | refine aw_condT rfl ?_ | refine aw_condF rfl ?_ | (refine ag_bool (fun hg => ?_) (fun hg => ?_) <;> (try (have hq := hg; simp only [Bool.not_eq_true', Bool.not_eq_false', Bool.and_eq_true, Bool.and_eq_false_iff, Bool.or_eq_true, Bool.or_eq_false_iff, decide_eq_true_eq, decide_eq_false_iff_not, bne_iff_ne, beq_iff_eq, beq_eq_false_iff_ne, bne_eq_false_iff_eq, ne_eq, Int.not_lt, Int.not_le, Decidable.not_not] at hq)) <;> (try (have hr := hg; simp only [decide_eq_true_eq, decide_eq_false_iff_not] at hr)) <;> (try (exfalso; omega)) <;> simp (config := {maxSteps := 10000000}) (disch := first | exact okYes (by kernel_rfl) | omega) only [hr, decide_false, AG_ff, AOpRun, aexec, FSt.ev, St.F, ↓eget_h, AGo_ok, Nat.reduceAdd, St.app, putO, eput_c, Nat.reduceBEq, eput_n, cond_false, hups, List.map, ARun_some, eget_c, Nat.zero_add, Option.map, run1, hget_c, beq_self_eq_true, hget_n, cond_true, List.getElem?_cons_succ, List.getElem?_cons_zero, isSh, Bool.false_eq_true, ↓reduceIte, abin, ARun_none, hg, Bool.not_true, ↓hget_h]) | ((first | refine aw_region ?_ | refine acall0 (slwithin_ac _ _ _) ?_ | refine acall0 (at_ac _) ?_ | refine acallB (ca) (by repeat' (first | exact trivial | exact rfl | refine And.intro ?_ ?_)) (by kernel_rfl) (by kernel_rfl) (by kernel_rfl) ?_ | refine ago_if (by omega) ?_ | skip); simp (config := {maxSteps := 10000000}) (disch := first | exact okYes (by kernel_rfl) | omega) only [thenQ, List.map, dI, dB, List.length, Nat.zero_add, Nat.reduceAdd, Nat.reduceMul, envOf, ARun_none, AOpRun, aexec, D.isBot, FSt.ev, St.F, eget_c, Nat.reduceBEq, ↓eget_h, cond_false, Bool.false_eq_true, Option.isSome, hget_c, hget_n, or_self, ↓reduceIte, D.cells, AGo_ok, St.app, putO, eput_c, eput_n, hups, hput_c, hput_n, ARun_nil, dropE_c, inL_n, dropE_n, Option.map, run1, beq_self_eq_true, cond_true, List.getElem?_cons_succ, List.getElem?_cons_zero, isSh, abin, fits, Nat.reduceLeDiff, List.all, D.leaf, Bool.and_true, and_self, splice, List.take, List.cons_append, List.nil_append, List.drop, inL_c, ↓hget_h, Int.reduceBEq, ARun_some, c5, AG_ff, Bool.not_true, c6, List.append_nil, Bool.not_false, blockQ])))
  all_goals (refine end_to [] [(48, 48)] (by first | exact .inl rfl | exact .inr rfl) rfl (by kernel_rfl) (by kernel_rfl) (by kernel_rfl) ?_ ?_ <;> repeat' (first | exact trivial | exact vr_val _ | exact vr_list _ | refine And.intro ⟨_, rfl, _, rfl, by decide, ?_⟩ ?_ | apply And.intro))
set_option maxRecDepth 100000 in
set_option maxHeartbeats 1000000 in
theorem do_h7_ac (h : Hst) (wd : Int × Int) (len wt si cy kd n : Int) (t : Bool) (i : Int) (hO : HoOk h) (hc : h.cable ≤ 100) (ho0 : HgOk h ⟨len, wt, si, cy, false⟩ i) (hi : i ≤ 100) (hk : kd = 4) (c1 : wt ≤ 0) (c2 : len ≠ 0) (c3 : t = true) (c4 : si + 1 ≤ h.charge) (c5 : wI n 1 100000 = true) (c6 : caB h wd (len, len) n = true) :
    AC Try.prog 49 [.ptr 48 0, spD (kd, n)] [(48, wiC h wd ⟨len, wt, si, cy, false⟩ t)] [(48, some (wiC h wd (doK h wd ⟨len, wt, si, cy, false⟩ t (kd, n)) (doT h wd ⟨len, wt, si, cy, false⟩ t (kd, n))))] (dB (doB h wd ⟨len, wt, si, cy, false⟩ t (kd, n))) := by
  subst hk
  subst c3
  have q1 : 0 ≤ len := ho0.l1
  have q2 : len ≤ h.cable := ho0.l2
  have q3 : 0 ≤ wt := ho0.w1
  have q4 : wt ≤ 100000 := ho0.w2
  have q5 : 0 ≤ si := ho0.s1
  have q6 : si ≤ i := ho0.s2
  have q7 : 0 ≤ cy := ho0.c1
  have q8 : cy ≤ i := ho0.c2
  have e : stepS h wd ⟨len, wt, si, cy, false⟩ true (4, n) = some (⟨len, n, si + 1, cy, false⟩, true) := by
    unfold stepS; simp [c1, c2, c4, c5, c6]
  obtain ⟨z1, z2, z3⟩ := do_some e
  rw [z1, z2, z3]
  have hn := wI_t c5
  have ca := carries_ac h wd (len, len) n ⟨len, wt, si + 1, cy, false⟩ true hO
  unfold wiC at ca
  refine kpsling_winch_do.ac (n0 := 56) (by simp) ⟨.ptr _ _ (by omega), in_agg2 _ _ _, trivial⟩ ⟨⟨by omega, wiC_in _ _ _ _ _⟩, trivial⟩ rfl ?_
  unfold cpsling_winch_do wiC spD
  (have hg : (987654321 : Nat) - 987654321 = 0 := rfl; have hr := hg; repeat' (first | refine aw_seq ?_ | (refine aw_skip ?_; try simp only [thenQ, blockQ, if_true, if_false, Nat.reduceEqDiff, reduceCtorEq]) | (refine aw_exit ?_; try simp only [thenQ, blockQ, if_true, if_false, Nat.reduceEqDiff, reduceCtorEq]) | refine aw_ret ?_ | refine aw_block ?_ | refine aw_condT rfl ?_ | refine aw_condF rfl ?_ | (refine ag_bool (fun hg => ?_) (fun hg => ?_) <;> (try (have hq := hg; simp only [Bool.not_eq_true', Bool.not_eq_false', Bool.and_eq_true, Bool.and_eq_false_iff, Bool.or_eq_true, Bool.or_eq_false_iff, decide_eq_true_eq, decide_eq_false_iff_not, bne_iff_ne, beq_iff_eq, beq_eq_false_iff_ne, bne_eq_false_iff_eq, ne_eq, Int.not_lt, Int.not_le, Decidable.not_not] at hq)) <;> (try (have hr := hg; simp only [decide_eq_true_eq, decide_eq_false_iff_not] at hr)) <;> (try (exfalso; omega)) <;> simp (config := {maxSteps := 10000000}) (disch := first | exact okYes (by kernel_rfl) | omega) only [hr, decide_false, AG_ff, AOpRun, aexec, FSt.ev, St.F, ↓eget_h, AGo_ok, Nat.reduceAdd, St.app, putO, eput_c, Nat.reduceBEq, eput_n, cond_false, hups, List.map, ARun_some, eget_c, Nat.zero_add, Option.map, run1, hget_c, beq_self_eq_true, hget_n, cond_true, List.getElem?_cons_succ, List.getElem?_cons_zero, isSh, Bool.false_eq_true, ↓reduceIte, abin, ARun_none, hg, Bool.not_true, ↓hget_h]) | ((first | refine aw_region ?_ | refine acall0 (slwithin_ac _ _ _) ?_ | refine acall0 (at_ac _) ?_ | refine acallB (ca) (by repeat' (first | exact trivial | exact rfl | refine And.intro ?_ ?_)) (by kernel_rfl) (by kernel_rfl) (by kernel_rfl) ?_ | refine ago_if (by omega) ?_ | skip); simp (config := {maxSteps := 10000000}) (disch := first | exact okYes (by kernel_rfl) | omega) only [thenQ, List.map, dI, dB, List.length, Nat.zero_add, Nat.reduceAdd, Nat.reduceMul, envOf, ARun_none, AOpRun, aexec, D.isBot, FSt.ev, St.F, eget_c, Nat.reduceBEq, ↓eget_h, cond_false, Bool.false_eq_true, Option.isSome, hget_c, hget_n, or_self, ↓reduceIte, D.cells, AGo_ok, St.app, putO, eput_c, eput_n, hups, hput_c, hput_n, ARun_nil, dropE_c, inL_n, dropE_n, Option.map, run1, beq_self_eq_true, cond_true, List.getElem?_cons_succ, List.getElem?_cons_zero, isSh, abin, fits, Nat.reduceLeDiff, List.all, D.leaf, Bool.and_true, and_self, splice, List.take, List.cons_append, List.nil_append, List.drop, inL_c, ↓hget_h, Int.reduceBEq, ARun_some, c5, AG_ff, Bool.not_true, c6, List.append_nil, blockQ])))
  all_goals (refine end_to [] [(48, 48)] (by first | exact .inl rfl | exact .inr rfl) rfl (by kernel_rfl) (by kernel_rfl) (by kernel_rfl) ?_ ?_ <;> repeat' (first | exact trivial | exact vr_val _ | exact vr_list _ | refine And.intro ⟨_, rfl, _, rfl, by decide, ?_⟩ ?_ | apply And.intro))
set_option maxRecDepth 100000 in
set_option maxHeartbeats 1000000 in
theorem do_n_ac (h : Hst) (wd : Int × Int) (len wt si cy kd n : Int) (t : Bool) (i : Int) (hO : HoOk h) (hc : h.cable ≤ 100) (ho0 : HgOk h ⟨len, wt, si, cy, false⟩ i) (hi : i ≤ 100) (k1 : ¬ kd = 1) (k2 : ¬ kd = 2) (k4 : ¬ kd = 4) (c1 : n ≠ 0) :
    AC Try.prog 49 [.ptr 48 0, spD (kd, n)] [(48, wiC h wd ⟨len, wt, si, cy, false⟩ t)] [(48, some (wiC h wd (doK h wd ⟨len, wt, si, cy, false⟩ t (kd, n)) (doT h wd ⟨len, wt, si, cy, false⟩ t (kd, n))))] (dB (doB h wd ⟨len, wt, si, cy, false⟩ t (kd, n))) := by
  have q1 : 0 ≤ len := ho0.l1
  have q2 : len ≤ h.cable := ho0.l2
  have q3 : 0 ≤ wt := ho0.w1
  have q4 : wt ≤ 100000 := ho0.w2
  have q5 : 0 ≤ si := ho0.s1
  have q6 : si ≤ i := ho0.s2
  have q7 : 0 ≤ cy := ho0.c1
  have q8 : cy ≤ i := ho0.c2
  have e : stepS h wd ⟨len, wt, si, cy, false⟩ t (kd, n) = none := by
    unfold stepS; simp [k1, k2, k4, c1]
  obtain ⟨z1, z2, z3⟩ := do_none e
  rw [z1, z2, z3]
  refine kpsling_winch_do.ac (n0 := 56) (by simp) ⟨.ptr _ _ (by omega), in_agg2 _ _ _, trivial⟩ ⟨⟨by omega, wiC_in _ _ _ _ _⟩, trivial⟩ rfl ?_
  unfold cpsling_winch_do wiC spD
  (have hg : (987654321 : Nat) - 987654321 = 0 := rfl; have hr := hg; repeat' (first | refine aw_seq ?_ | (refine aw_skip ?_; try simp only [thenQ, blockQ, if_true, if_false, Nat.reduceEqDiff, reduceCtorEq]) | (refine aw_exit ?_; try simp only [thenQ, blockQ, if_true, if_false, Nat.reduceEqDiff, reduceCtorEq]) | refine aw_ret ?_ | refine aw_block ?_ | refine aw_condT rfl ?_ | refine aw_condF rfl ?_ | (refine aw_cond rfl (fun hg => ?_) (fun hg => ?_) <;> (try (have hq := hg; simp only [Bool.not_eq_true', Bool.not_eq_false', Bool.and_eq_true, Bool.and_eq_false_iff, Bool.or_eq_true, Bool.or_eq_false_iff, decide_eq_true_eq, decide_eq_false_iff_not, bne_iff_ne, beq_iff_eq, beq_eq_false_iff_ne, bne_eq_false_iff_eq, ne_eq, Int.not_lt, Int.not_le, Decidable.not_not] at hq)) <;> (try (have hr := hg; simp only [decide_eq_true_eq, decide_eq_false_iff_not] at hr)) <;> (try (exfalso; omega))) | ((first | refine aw_region ?_ | refine ago_if (by omega) ?_ | skip); simp (config := {maxSteps := 10000000}) (disch := first | exact okYes (by kernel_rfl) | omega) only [thenQ, List.map, dI, dB, List.length, Nat.zero_add, Nat.reduceAdd, Nat.reduceMul, envOf, ARun_none, AOpRun, aexec, D.isBot, FSt.ev, St.F, eget_c, Nat.reduceBEq, ↓eget_h, cond_false, Bool.false_eq_true, Option.isSome, hget_c, hget_n, or_self, ↓reduceIte, D.cells, AGo_ok, St.app, putO, eput_c, eput_n, hups, hput_c, hput_n, ARun_nil, dropE_c, inL_n, dropE_n, Option.map, run1, beq_self_eq_true, cond_true, List.getElem?_cons_succ, List.getElem?_cons_zero, isSh, abin, fits, Nat.reduceLeDiff, List.all, D.leaf, Bool.and_true, and_self, splice, List.take, List.cons_append, List.nil_append, List.drop, inL_c, ↓hget_h, hg, blockQ])))
  all_goals (refine end_to [] [(48, 48)] (by first | exact .inl rfl | exact .inr rfl) rfl (by kernel_rfl) (by kernel_rfl) (by kernel_rfl) ?_ ?_ <;> repeat' (first | exact trivial | exact vr_val _ | exact vr_list _ | refine And.intro ⟨_, rfl, _, rfl, by decide, ?_⟩ ?_ | apply And.intro))
set_option maxRecDepth 100000 in
set_option maxHeartbeats 1000000 in
theorem do_t1_ac (h : Hst) (wd : Int × Int) (len wt si cy kd n : Int) (t : Bool) (i : Int) (hO : HoOk h) (hc : h.cable ≤ 100) (ho0 : HgOk h ⟨len, wt, si, cy, false⟩ i) (hi : i ≤ 100) (hk : kd = 3) (hn : n = 0) (c1 : 0 < len) :
    AC Try.prog 49 [.ptr 48 0, spD (kd, n)] [(48, wiC h wd ⟨len, wt, si, cy, false⟩ t)] [(48, some (wiC h wd (doK h wd ⟨len, wt, si, cy, false⟩ t (kd, n)) (doT h wd ⟨len, wt, si, cy, false⟩ t (kd, n))))] (dB (doB h wd ⟨len, wt, si, cy, false⟩ t (kd, n))) := by
  subst hk
  subst hn
  have q1 : 0 ≤ len := ho0.l1
  have q2 : len ≤ h.cable := ho0.l2
  have q3 : 0 ≤ wt := ho0.w1
  have q4 : wt ≤ 100000 := ho0.w2
  have q5 : 0 ≤ si := ho0.s1
  have q6 : si ≤ i := ho0.s2
  have q7 : 0 ≤ cy := ho0.c1
  have q8 : cy ≤ i := ho0.c2
  have e : stepS h wd ⟨len, wt, si, cy, false⟩ t (3, 0) = some (⟨len, wt, 0, cy, false⟩, true) := by
    unfold stepS; simp [c1]
  obtain ⟨z1, z2, z3⟩ := do_some e
  rw [z1, z2, z3]
  refine kpsling_winch_do.ac (n0 := 56) (by simp) ⟨.ptr _ _ (by omega), in_agg2 _ _ _, trivial⟩ ⟨⟨by omega, wiC_in _ _ _ _ _⟩, trivial⟩ rfl ?_
  unfold cpsling_winch_do wiC spD
  (have hg : (987654321 : Nat) - 987654321 = 0 := rfl; have hr := hg; repeat' (first | refine aw_seq ?_ | (refine aw_skip ?_; try simp only [thenQ, blockQ, if_true, if_false, Nat.reduceEqDiff, reduceCtorEq]) | (refine aw_exit ?_; try simp only [thenQ, blockQ, if_true, if_false, Nat.reduceEqDiff, reduceCtorEq]) | refine aw_ret ?_ | refine aw_block ?_ | refine aw_condT rfl ?_ | refine aw_condF rfl ?_ | (refine aw_cond rfl (fun hg => ?_) (fun hg => ?_) <;> (try (have hq := hg; simp only [Bool.not_eq_true', Bool.not_eq_false', Bool.and_eq_true, Bool.and_eq_false_iff, Bool.or_eq_true, Bool.or_eq_false_iff, decide_eq_true_eq, decide_eq_false_iff_not, bne_iff_ne, beq_iff_eq, beq_eq_false_iff_ne, bne_eq_false_iff_eq, ne_eq, Int.not_lt, Int.not_le, Decidable.not_not] at hq)) <;> (try (have hr := hg; simp only [decide_eq_true_eq, decide_eq_false_iff_not] at hr)) <;> (try (exfalso; omega))) | ((first | refine aw_region ?_ | refine ago_if (by omega) ?_ | skip); simp (config := {maxSteps := 10000000}) (disch := first | exact okYes (by kernel_rfl) | omega) only [thenQ, List.map, dI, dB, List.length, Nat.zero_add, Nat.reduceAdd, Nat.reduceMul, envOf, ARun_none, AOpRun, aexec, D.isBot, FSt.ev, St.F, eget_c, Nat.reduceBEq, ↓eget_h, cond_false, Bool.false_eq_true, Option.isSome, hget_c, hget_n, or_self, ↓reduceIte, D.cells, AGo_ok, St.app, putO, eput_c, eput_n, hups, hput_c, hput_n, ARun_nil, dropE_c, inL_n, dropE_n, Option.map, run1, beq_self_eq_true, cond_true, List.getElem?_cons_succ, List.getElem?_cons_zero, isSh, abin, fits, Nat.reduceLeDiff, List.all, D.leaf, Bool.and_true, and_self, splice, List.take, List.cons_append, List.nil_append, List.drop, inL_c, ↓hget_h, Int.reduceBEq, bne_self_eq_false, ARun_some, AG_tt, blockQ, hr, decide_true, List.append_nil])))
  all_goals (refine end_to [] [(48, 48)] (by first | exact .inl rfl | exact .inr rfl) rfl (by kernel_rfl) (by kernel_rfl) (by kernel_rfl) ?_ ?_ <;> repeat' (first | exact trivial | exact vr_val _ | exact vr_list _ | refine And.intro ⟨_, rfl, _, rfl, by decide, ?_⟩ ?_ | apply And.intro))
set_option maxRecDepth 100000 in
set_option maxHeartbeats 1000000 in
theorem do_t2_ac (h : Hst) (wd : Int × Int) (len wt si cy kd n : Int) (t : Bool) (i : Int) (hO : HoOk h) (hc : h.cable ≤ 100) (ho0 : HgOk h ⟨len, wt, si, cy, false⟩ i) (hi : i ≤ 100) (hk : kd = 3) (hn : n = 0) (c1 : ¬ 0 < len) :
    AC Try.prog 49 [.ptr 48 0, spD (kd, n)] [(48, wiC h wd ⟨len, wt, si, cy, false⟩ t)] [(48, some (wiC h wd (doK h wd ⟨len, wt, si, cy, false⟩ t (kd, n)) (doT h wd ⟨len, wt, si, cy, false⟩ t (kd, n))))] (dB (doB h wd ⟨len, wt, si, cy, false⟩ t (kd, n))) := by
  subst hk
  subst hn
  have q1 : 0 ≤ len := ho0.l1
  have q2 : len ≤ h.cable := ho0.l2
  have q3 : 0 ≤ wt := ho0.w1
  have q4 : wt ≤ 100000 := ho0.w2
  have q5 : 0 ≤ si := ho0.s1
  have q6 : si ≤ i := ho0.s2
  have q7 : 0 ≤ cy := ho0.c1
  have q8 : cy ≤ i := ho0.c2
  have e : stepS h wd ⟨len, wt, si, cy, false⟩ t (3, 0) = none := by
    unfold stepS; simp [c1]
  obtain ⟨z1, z2, z3⟩ := do_none e
  rw [z1, z2, z3]
  refine kpsling_winch_do.ac (n0 := 56) (by simp) ⟨.ptr _ _ (by omega), in_agg2 _ _ _, trivial⟩ ⟨⟨by omega, wiC_in _ _ _ _ _⟩, trivial⟩ rfl ?_
  unfold cpsling_winch_do wiC spD
  (have hg : (987654321 : Nat) - 987654321 = 0 := rfl; have hr := hg; repeat' (first | refine aw_seq ?_ | (refine aw_skip ?_; try simp only [thenQ, blockQ, if_true, if_false, Nat.reduceEqDiff, reduceCtorEq]) | (refine aw_exit ?_; try simp only [thenQ, blockQ, if_true, if_false, Nat.reduceEqDiff, reduceCtorEq]) | refine aw_ret ?_ | refine aw_block ?_ | refine aw_condT rfl ?_ | refine aw_condF rfl ?_ | (refine aw_cond rfl (fun hg => ?_) (fun hg => ?_) <;> (try (have hq := hg; simp only [Bool.not_eq_true', Bool.not_eq_false', Bool.and_eq_true, Bool.and_eq_false_iff, Bool.or_eq_true, Bool.or_eq_false_iff, decide_eq_true_eq, decide_eq_false_iff_not, bne_iff_ne, beq_iff_eq, beq_eq_false_iff_ne, bne_eq_false_iff_eq, ne_eq, Int.not_lt, Int.not_le, Decidable.not_not] at hq)) <;> (try (have hr := hg; simp only [decide_eq_true_eq, decide_eq_false_iff_not] at hr)) <;> (try (exfalso; omega))) | ((first | refine aw_region ?_ | refine ago_if (by omega) ?_ | skip); simp (config := {maxSteps := 10000000}) (disch := first | exact okYes (by kernel_rfl) | omega) only [thenQ, List.map, dI, dB, List.length, Nat.zero_add, Nat.reduceAdd, Nat.reduceMul, envOf, ARun_none, AOpRun, aexec, D.isBot, FSt.ev, St.F, eget_c, Nat.reduceBEq, ↓eget_h, cond_false, Bool.false_eq_true, Option.isSome, hget_c, hget_n, or_self, ↓reduceIte, D.cells, AGo_ok, St.app, putO, eput_c, eput_n, hups, hput_c, hput_n, ARun_nil, dropE_c, inL_n, dropE_n, Option.map, run1, beq_self_eq_true, cond_true, List.getElem?_cons_succ, List.getElem?_cons_zero, isSh, abin, fits, Nat.reduceLeDiff, List.all, D.leaf, Bool.and_true, and_self, splice, List.take, List.cons_append, List.nil_append, List.drop, inL_c, ↓hget_h, Int.reduceBEq, bne_self_eq_false, ARun_some, AG_tt, hr, decide_false, AG_ft, blockQ])))
  all_goals (refine end_to [] [(48, 48)] (by first | exact .inl rfl | exact .inr rfl) rfl (by kernel_rfl) (by kernel_rfl) (by kernel_rfl) ?_ ?_ <;> repeat' (first | exact trivial | exact vr_val _ | exact vr_list _ | refine And.intro ⟨_, rfl, _, rfl, by decide, ?_⟩ ?_ | apply And.intro))
set_option maxRecDepth 100000 in
set_option maxHeartbeats 1000000 in
theorem do_u1_ac (h : Hst) (wd : Int × Int) (len wt si cy kd n : Int) (t : Bool) (i : Int) (hO : HoOk h) (hc : h.cable ≤ 100) (ho0 : HgOk h ⟨len, wt, si, cy, false⟩ i) (hi : i ≤ 100) (hk : kd = 5) (hn : n = 0) (c1 : 0 < wt) :
    AC Try.prog 49 [.ptr 48 0, spD (kd, n)] [(48, wiC h wd ⟨len, wt, si, cy, false⟩ t)] [(48, some (wiC h wd (doK h wd ⟨len, wt, si, cy, false⟩ t (kd, n)) (doT h wd ⟨len, wt, si, cy, false⟩ t (kd, n))))] (dB (doB h wd ⟨len, wt, si, cy, false⟩ t (kd, n))) := by
  subst hk
  subst hn
  have q1 : 0 ≤ len := ho0.l1
  have q2 : len ≤ h.cable := ho0.l2
  have q3 : 0 ≤ wt := ho0.w1
  have q4 : wt ≤ 100000 := ho0.w2
  have q5 : 0 ≤ si := ho0.s1
  have q6 : si ≤ i := ho0.s2
  have q7 : 0 ≤ cy := ho0.c1
  have q8 : cy ≤ i := ho0.c2
  have e : stepS h wd ⟨len, wt, si, cy, false⟩ t (5, 0) = some (⟨len, 0, si + 1, cy + 1, false⟩, t) := by
    unfold stepS; simp [c1]
  obtain ⟨z1, z2, z3⟩ := do_some e
  rw [z1, z2, z3]
  refine kpsling_winch_do.ac (n0 := 56) (by simp) ⟨.ptr _ _ (by omega), in_agg2 _ _ _, trivial⟩ ⟨⟨by omega, wiC_in _ _ _ _ _⟩, trivial⟩ rfl ?_
  unfold cpsling_winch_do wiC spD
  (have hg : (987654321 : Nat) - 987654321 = 0 := rfl; have hr := hg; repeat' (first | refine aw_seq ?_ | (refine aw_skip ?_; try simp only [thenQ, blockQ, if_true, if_false, Nat.reduceEqDiff, reduceCtorEq]) | (refine aw_exit ?_; try simp only [thenQ, blockQ, if_true, if_false, Nat.reduceEqDiff, reduceCtorEq]) | refine aw_ret ?_ | refine aw_block ?_ | refine aw_condT rfl ?_ | refine aw_condF rfl ?_ | (refine aw_cond rfl (fun hg => ?_) (fun hg => ?_) <;> (try (have hq := hg; simp only [Bool.not_eq_true', Bool.not_eq_false', Bool.and_eq_true, Bool.and_eq_false_iff, Bool.or_eq_true, Bool.or_eq_false_iff, decide_eq_true_eq, decide_eq_false_iff_not, bne_iff_ne, beq_iff_eq, beq_eq_false_iff_ne, bne_eq_false_iff_eq, ne_eq, Int.not_lt, Int.not_le, Decidable.not_not] at hq)) <;> (try (have hr := hg; simp only [decide_eq_true_eq, decide_eq_false_iff_not] at hr)) <;> (try (exfalso; omega))) | ((first | refine aw_region ?_ | refine ago_if (by omega) ?_ | skip); simp (config := {maxSteps := 10000000}) (disch := first | exact okYes (by kernel_rfl) | omega) only [thenQ, List.map, dI, dB, List.length, Nat.zero_add, Nat.reduceAdd, Nat.reduceMul, envOf, ARun_none, AOpRun, aexec, D.isBot, FSt.ev, St.F, eget_c, Nat.reduceBEq, ↓eget_h, cond_false, Bool.false_eq_true, Option.isSome, hget_c, hget_n, or_self, ↓reduceIte, D.cells, AGo_ok, St.app, putO, eput_c, eput_n, hups, hput_c, hput_n, ARun_nil, dropE_c, inL_n, dropE_n, Option.map, run1, beq_self_eq_true, cond_true, List.getElem?_cons_succ, List.getElem?_cons_zero, isSh, abin, fits, Nat.reduceLeDiff, List.all, D.leaf, Bool.and_true, and_self, splice, List.take, List.cons_append, List.nil_append, List.drop, inL_c, ↓hget_h, Int.reduceBEq, bne_self_eq_false, ARun_some, AG_ft, AG_tt, hr, decide_true, blockQ])))
  all_goals (refine end_to [] [(48, 48)] (by first | exact .inl rfl | exact .inr rfl) rfl (by kernel_rfl) (by kernel_rfl) (by kernel_rfl) ?_ ?_ <;> repeat' (first | exact trivial | exact vr_val _ | exact vr_list _ | refine And.intro ⟨_, rfl, _, rfl, by decide, ?_⟩ ?_ | apply And.intro))
set_option maxRecDepth 100000 in
set_option maxHeartbeats 1000000 in
theorem do_u2_ac (h : Hst) (wd : Int × Int) (len wt si cy kd n : Int) (t : Bool) (i : Int) (hO : HoOk h) (hc : h.cable ≤ 100) (ho0 : HgOk h ⟨len, wt, si, cy, false⟩ i) (hi : i ≤ 100) (hk : kd = 5) (hn : n = 0) (c1 : ¬ 0 < wt) :
    AC Try.prog 49 [.ptr 48 0, spD (kd, n)] [(48, wiC h wd ⟨len, wt, si, cy, false⟩ t)] [(48, some (wiC h wd (doK h wd ⟨len, wt, si, cy, false⟩ t (kd, n)) (doT h wd ⟨len, wt, si, cy, false⟩ t (kd, n))))] (dB (doB h wd ⟨len, wt, si, cy, false⟩ t (kd, n))) := by
  subst hk
  subst hn
  have q1 : 0 ≤ len := ho0.l1
  have q2 : len ≤ h.cable := ho0.l2
  have q3 : 0 ≤ wt := ho0.w1
  have q4 : wt ≤ 100000 := ho0.w2
  have q5 : 0 ≤ si := ho0.s1
  have q6 : si ≤ i := ho0.s2
  have q7 : 0 ≤ cy := ho0.c1
  have q8 : cy ≤ i := ho0.c2
  have e : stepS h wd ⟨len, wt, si, cy, false⟩ t (5, 0) = none := by
    unfold stepS; simp [c1]
  obtain ⟨z1, z2, z3⟩ := do_none e
  rw [z1, z2, z3]
  refine kpsling_winch_do.ac (n0 := 56) (by simp) ⟨.ptr _ _ (by omega), in_agg2 _ _ _, trivial⟩ ⟨⟨by omega, wiC_in _ _ _ _ _⟩, trivial⟩ rfl ?_
  unfold cpsling_winch_do wiC spD
  (have hg : (987654321 : Nat) - 987654321 = 0 := rfl; have hr := hg; repeat' (first | refine aw_seq ?_ | (refine aw_skip ?_; try simp only [thenQ, blockQ, if_true, if_false, Nat.reduceEqDiff, reduceCtorEq]) | (refine aw_exit ?_; try simp only [thenQ, blockQ, if_true, if_false, Nat.reduceEqDiff, reduceCtorEq]) | refine aw_ret ?_ | refine aw_block ?_ | refine aw_condT rfl ?_ | refine aw_condF rfl ?_ | (refine aw_cond rfl (fun hg => ?_) (fun hg => ?_) <;> (try (have hq := hg; simp only [Bool.not_eq_true', Bool.not_eq_false', Bool.and_eq_true, Bool.and_eq_false_iff, Bool.or_eq_true, Bool.or_eq_false_iff, decide_eq_true_eq, decide_eq_false_iff_not, bne_iff_ne, beq_iff_eq, beq_eq_false_iff_ne, bne_eq_false_iff_eq, ne_eq, Int.not_lt, Int.not_le, Decidable.not_not] at hq)) <;> (try (have hr := hg; simp only [decide_eq_true_eq, decide_eq_false_iff_not] at hr)) <;> (try (exfalso; omega))) | ((first | refine aw_region ?_ | refine ago_if (by omega) ?_ | skip); simp (config := {maxSteps := 10000000}) (disch := first | exact okYes (by kernel_rfl) | omega) only [thenQ, List.map, dI, dB, List.length, Nat.zero_add, Nat.reduceAdd, Nat.reduceMul, envOf, ARun_none, AOpRun, aexec, D.isBot, FSt.ev, St.F, eget_c, Nat.reduceBEq, ↓eget_h, cond_false, Bool.false_eq_true, Option.isSome, hget_c, hget_n, or_self, ↓reduceIte, D.cells, AGo_ok, St.app, putO, eput_c, eput_n, hups, hput_c, hput_n, ARun_nil, dropE_c, inL_n, dropE_n, Option.map, run1, beq_self_eq_true, cond_true, List.getElem?_cons_succ, List.getElem?_cons_zero, isSh, abin, fits, Nat.reduceLeDiff, List.all, D.leaf, Bool.and_true, and_self, splice, List.take, List.cons_append, List.nil_append, List.drop, inL_c, ↓hget_h, Int.reduceBEq, bne_self_eq_false, ARun_some, AG_ft, AG_tt, hr, decide_false, blockQ])))
  all_goals (refine end_to [] [(48, 48)] (by first | exact .inl rfl | exact .inr rfl) rfl (by kernel_rfl) (by kernel_rfl) (by kernel_rfl) ?_ ?_ <;> repeat' (first | exact trivial | exact vr_val _ | exact vr_list _ | refine And.intro ⟨_, rfl, _, rfl, by decide, ?_⟩ ?_ | apply And.intro))
set_option maxRecDepth 100000 in
set_option maxHeartbeats 1000000 in
theorem do_c_ac (h : Hst) (wd : Int × Int) (len wt si cy kd n : Int) (t : Bool) (i : Int) (hO : HoOk h) (hc : h.cable ≤ 100) (ho0 : HgOk h ⟨len, wt, si, cy, false⟩ i) (hi : i ≤ 100) (hk : kd = 6) (hn : n = 0) :
    AC Try.prog 49 [.ptr 48 0, spD (kd, n)] [(48, wiC h wd ⟨len, wt, si, cy, false⟩ t)] [(48, some (wiC h wd (doK h wd ⟨len, wt, si, cy, false⟩ t (kd, n)) (doT h wd ⟨len, wt, si, cy, false⟩ t (kd, n))))] (dB (doB h wd ⟨len, wt, si, cy, false⟩ t (kd, n))) := by
  subst hk
  subst hn
  have q1 : 0 ≤ len := ho0.l1
  have q2 : len ≤ h.cable := ho0.l2
  have q3 : 0 ≤ wt := ho0.w1
  have q4 : wt ≤ 100000 := ho0.w2
  have q5 : 0 ≤ si := ho0.s1
  have q6 : si ≤ i := ho0.s2
  have q7 : 0 ≤ cy := ho0.c1
  have q8 : cy ≤ i := ho0.c2
  have e : stepS h wd ⟨len, wt, si, cy, false⟩ t (6, 0) = some (⟨0, 0, si + 1, cy, true⟩, t) := by
    unfold stepS; simp
  obtain ⟨z1, z2, z3⟩ := do_some e
  rw [z1, z2, z3]
  refine kpsling_winch_do.ac (n0 := 56) (by simp) ⟨.ptr _ _ (by omega), in_agg2 _ _ _, trivial⟩ ⟨⟨by omega, wiC_in _ _ _ _ _⟩, trivial⟩ rfl ?_
  unfold cpsling_winch_do wiC spD
  (have hg : (987654321 : Nat) - 987654321 = 0 := rfl; have hr := hg; repeat' (first | refine aw_seq ?_ | (refine aw_skip ?_; try simp only [thenQ, blockQ, if_true, if_false, Nat.reduceEqDiff, reduceCtorEq]) | (refine aw_exit ?_; try simp only [thenQ, blockQ, if_true, if_false, Nat.reduceEqDiff, reduceCtorEq]) | refine aw_ret ?_ | refine aw_block ?_ | refine aw_condT rfl ?_ | refine aw_condF rfl ?_ | ((first | refine aw_region ?_ | refine ago_if (by omega) ?_ | skip); simp (config := {maxSteps := 10000000}) (disch := first | exact okYes (by kernel_rfl) | omega) only [thenQ, List.map, dI, dB, List.length, Nat.zero_add, Nat.reduceAdd, Nat.reduceMul, envOf, ARun_none, AOpRun, aexec, D.isBot, FSt.ev, St.F, eget_c, Nat.reduceBEq, ↓eget_h, cond_false, Bool.false_eq_true, Option.isSome, hget_c, hget_n, or_self, ↓reduceIte, D.cells, AGo_ok, St.app, putO, eput_c, eput_n, hups, hput_c, hput_n, ARun_nil, dropE_c, inL_n, dropE_n, Option.map, run1, beq_self_eq_true, cond_true, List.getElem?_cons_succ, List.getElem?_cons_zero, isSh, abin, fits, Nat.reduceLeDiff, List.all, D.leaf, Bool.and_true, and_self, splice, List.take, List.cons_append, List.nil_append, List.drop, inL_c, ↓hget_h, Int.reduceBEq, bne_self_eq_false, ARun_some, AG_ft, blockQ])))
  all_goals (refine end_to [] [(48, 48)] (by first | exact .inl rfl | exact .inr rfl) rfl (by kernel_rfl) (by kernel_rfl) (by kernel_rfl) ?_ ?_ <;> repeat' (first | exact trivial | exact vr_val _ | exact vr_list _ | refine And.intro ⟨_, rfl, _, rfl, by decide, ?_⟩ ?_ | apply And.intro))
set_option maxRecDepth 100000 in
set_option maxHeartbeats 1000000 in
theorem do_z_ac (h : Hst) (wd : Int × Int) (len wt si cy kd n : Int) (t : Bool) (i : Int) (hO : HoOk h) (hc : h.cable ≤ 100) (ho0 : HgOk h ⟨len, wt, si, cy, false⟩ i) (hi : i ≤ 100) (k1 : ¬ kd = 1) (k2 : ¬ kd = 2) (k4 : ¬ kd = 4) (k3 : ¬ kd = 3) (k5 : ¬ kd = 5) (k6 : ¬ kd = 6) (hn : n = 0) :
    AC Try.prog 49 [.ptr 48 0, spD (kd, n)] [(48, wiC h wd ⟨len, wt, si, cy, false⟩ t)] [(48, some (wiC h wd (doK h wd ⟨len, wt, si, cy, false⟩ t (kd, n)) (doT h wd ⟨len, wt, si, cy, false⟩ t (kd, n))))] (dB (doB h wd ⟨len, wt, si, cy, false⟩ t (kd, n))) := by
  subst hn
  have q1 : 0 ≤ len := ho0.l1
  have q2 : len ≤ h.cable := ho0.l2
  have q3 : 0 ≤ wt := ho0.w1
  have q4 : wt ≤ 100000 := ho0.w2
  have q5 : 0 ≤ si := ho0.s1
  have q6 : si ≤ i := ho0.s2
  have q7 : 0 ≤ cy := ho0.c1
  have q8 : cy ≤ i := ho0.c2
  have e : stepS h wd ⟨len, wt, si, cy, false⟩ t (kd, 0) = none := by
    unfold stepS; simp [k1, k2, k3, k4, k5, k6]
  obtain ⟨z1, z2, z3⟩ := do_none e
  rw [z1, z2, z3]
  refine kpsling_winch_do.ac (n0 := 56) (by simp) ⟨.ptr _ _ (by omega), in_agg2 _ _ _, trivial⟩ ⟨⟨by omega, wiC_in _ _ _ _ _⟩, trivial⟩ rfl ?_
  unfold cpsling_winch_do wiC spD
  (have hg : (987654321 : Nat) - 987654321 = 0 := rfl; have hr := hg; repeat' (first | refine aw_seq ?_ | (refine aw_skip ?_; try simp only [thenQ, blockQ, if_true, if_false, Nat.reduceEqDiff, reduceCtorEq]) | (refine aw_exit ?_; try simp only [thenQ, blockQ, if_true, if_false, Nat.reduceEqDiff, reduceCtorEq]) | refine aw_ret ?_ | refine aw_block ?_ | refine aw_condT rfl ?_ | refine aw_condF rfl ?_ | (refine aw_cond rfl (fun hg => ?_) (fun hg => ?_) <;> (try (have hq := hg; simp only [Bool.not_eq_true', Bool.not_eq_false', Bool.and_eq_true, Bool.and_eq_false_iff, Bool.or_eq_true, Bool.or_eq_false_iff, decide_eq_true_eq, decide_eq_false_iff_not, bne_iff_ne, beq_iff_eq, beq_eq_false_iff_ne, bne_eq_false_iff_eq, ne_eq, Int.not_lt, Int.not_le, Decidable.not_not] at hq)) <;> (try (have hr := hg; simp only [decide_eq_true_eq, decide_eq_false_iff_not] at hr)) <;> (try (exfalso; omega))) | (refine ag_bool (fun hg => ?_) (fun hg => ?_) <;> (try (have hq := hg; simp only [Bool.not_eq_true', Bool.not_eq_false', Bool.and_eq_true, Bool.and_eq_false_iff, Bool.or_eq_true, Bool.or_eq_false_iff, decide_eq_true_eq, decide_eq_false_iff_not, bne_iff_ne, beq_iff_eq, beq_eq_false_iff_ne, bne_eq_false_iff_eq, ne_eq, Int.not_lt, Int.not_le, Decidable.not_not] at hq)) <;> (try (have hr := hg; simp only [decide_eq_true_eq, decide_eq_false_iff_not] at hr)) <;> (try (exfalso; omega)) <;> simp (config := {maxSteps := 10000000}) (disch := first | exact okYes (by kernel_rfl) | omega) only [hg, AG_ft, Nat.reduceAdd, St.app, putO, eput_c, Nat.reduceBEq, eput_n, cond_false, hups, ARun_some, eget_c, ↓eget_h, ARun_none, AOpRun, aexec, FSt.ev, St.F, Bool.false_eq_true, ↓reduceIte, AGo_ok, List.map, ARun_nil, dropE_c, inL_c, inL_n, beq_self_eq_true, cond_true, dropE_n]) | ((first | refine aw_region ?_ | refine ago_if (by omega) ?_ | skip); simp (config := {maxSteps := 10000000}) (disch := first | exact okYes (by kernel_rfl) | omega) only [thenQ, List.map, dI, dB, List.length, Nat.zero_add, Nat.reduceAdd, Nat.reduceMul, envOf, ARun_none, AOpRun, aexec, D.isBot, FSt.ev, St.F, eget_c, Nat.reduceBEq, ↓eget_h, cond_false, Bool.false_eq_true, Option.isSome, hget_c, hget_n, or_self, ↓reduceIte, D.cells, AGo_ok, St.app, putO, eput_c, eput_n, hups, hput_c, hput_n, ARun_nil, dropE_c, inL_n, dropE_n, Option.map, run1, beq_self_eq_true, cond_true, List.getElem?_cons_succ, List.getElem?_cons_zero, isSh, abin, fits, Nat.reduceLeDiff, List.all, D.leaf, Bool.and_true, and_self, splice, List.take, List.cons_append, List.nil_append, List.drop, inL_c, ↓hget_h, hg, bne_self_eq_false, ARun_some, blockQ])))
  all_goals (refine end_to [] [(48, 48)] (by first | exact .inl rfl | exact .inr rfl) rfl (by kernel_rfl) (by kernel_rfl) (by kernel_rfl) ?_ ?_ <;> repeat' (first | exact trivial | exact vr_val _ | exact vr_list _ | refine And.intro ⟨_, rfl, _, rfl, by decide, ?_⟩ ?_ | apply And.intro))
theorem do_ac (h : Hst) (wd : Int × Int) (k : Hng) (t : Bool) (x : Int × Int) (i : Int) (hO : HoOk h) (hc : h.cable ≤ 100) (ho0 : HgOk h k i) (hi : i ≤ 100) :
    AC Try.prog 49 [.ptr 48 0, spD x] [(48, wiC h wd k t)] [(48, some (wiC h wd (doK h wd k t x) (doT h wd k t x)))] (dB (doB h wd k t x)) := by
  obtain ⟨len, wt, si, cy, cut⟩ := k
  obtain ⟨kd, n⟩ := x
  cases cut with
  | true => exact do_cut_ac h wd len wt si cy kd n t i hO hc ho0 hi
  | false =>
  by_cases k1 : kd = 1
  · cases c1 : wI n 1 h.cable with
    | false => exact do_o1f_ac h wd len wt si cy kd n t i hO hc ho0 hi k1 c1
    | true =>
      by_cases ho : wI (len + n) 0 h.cable = true ∧ caB h wd (len + n, len + n) wt = true
      · exact do_o1o_ac h wd len wt si cy kd n t i hO hc ho0 hi k1 c1 ho
      · exact do_o1e_ac h wd len wt si cy kd n t i hO hc ho0 hi k1 c1 ho
  by_cases k2 : kd = 2
  · cases c1 : wI n 1 h.cable with
    | false => exact do_o2f_ac h wd len wt si cy kd n t i hO hc ho0 hi k2 c1
    | true =>
      by_cases ho : wI (len + -n) 0 h.cable = true ∧ caB h wd (len + -n, len + -n) wt = true
      · exact do_o2o_ac h wd len wt si cy kd n t i hO hc ho0 hi k2 c1 ho
      · exact do_o2e_ac h wd len wt si cy kd n t i hO hc ho0 hi k2 c1 ho
  by_cases k4 : kd = 4
  · by_cases c1 : 0 < wt
    · exact do_h1_ac h wd len wt si cy kd n t i hO hc ho0 hi k4 c1
    have c1' : wt ≤ 0 := by omega
    by_cases c2 : len = 0
    · exact do_h2_ac h wd len wt si cy kd n t i hO hc ho0 hi k4 c1' c2
    cases c3 : t with
    | false => exact do_h3_ac h wd len wt si cy kd n false i hO hc ho0 hi k4 c1' c2 rfl
    | true =>
    by_cases c4 : h.charge < si + 1
    · exact do_h4_ac h wd len wt si cy kd n true i hO hc ho0 hi k4 c1' c2 rfl c4
    cases c5 : wI n 1 100000 with
    | false => exact do_h5_ac h wd len wt si cy kd n true i hO hc ho0 hi k4 c1' c2 rfl (by omega) c5
    | true =>
    cases c6 : caB h wd (len, len) n with
    | false => exact do_h6_ac h wd len wt si cy kd n true i hO hc ho0 hi k4 c1' c2 rfl (by omega) c5 c6
    | true => exact do_h7_ac h wd len wt si cy kd n true i hO hc ho0 hi k4 c1' c2 rfl (by omega) c5 c6
  by_cases hn : n = 0
  case neg => exact do_n_ac h wd len wt si cy kd n t i hO hc ho0 hi k1 k2 k4 hn
  by_cases k3 : kd = 3
  · by_cases c1 : 0 < len
    · exact do_t1_ac h wd len wt si cy kd n t i hO hc ho0 hi k3 hn c1
    · exact do_t2_ac h wd len wt si cy kd n t i hO hc ho0 hi k3 hn c1
  by_cases k5 : kd = 5
  · by_cases c1 : 0 < wt
    · exact do_u1_ac h wd len wt si cy kd n t i hO hc ho0 hi k5 hn c1
    · exact do_u2_ac h wd len wt si cy kd n t i hO hc ho0 hi k5 hn c1
  by_cases k6 : kd = 6
  · exact do_c_ac h wd len wt si cy kd n t i hO hc ho0 hi k6 hn
  · exact do_z_ac h wd len wt si cy kd n t i hO hc ho0 hi k1 k2 k4 k3 k5 k6 hn
end Go.Proofs.Ytgibbaadjbohdaa
/- All steps of a hoist, both sides. No conditions. -/
set_option linter.unusedSimpArgs false
set_option linter.unusedVariables false
namespace Go.Proofs.Ytgibbaadjbohdaa
open Go.RowKit Lift

/-- how a hoist stands behind the first steps -/
def runH (h : Hst) (wd : Int × Int) (l : Bx) : Nat → Option (Hng × Bool)
  | 0 => some (hng0, false)
  | i + 1 => match runH h wd l i with
    | none => none
    | some y => stepS h wd y.1 y.2 (lo l i, hi l i)
def hgAt (h : Hst) (wd : Int × Int) (l : Bx) (i : Nat) : Hng := ((runH h wd l i).getD (hng0, false)).1
def tgAt (h : Hst) (wd : Int × Int) (l : Bx) (i : Nat) : Bool := ((runH h wd l i).getD (hng0, false)).2
theorem runH_at {h : Hst} {wd : Int × Int} {l : Bx} {i : Nat} (e : (runH h wd l i).isSome = true) : runH h wd l i = some (hgAt h wd l i, tgAt h wd l i) := by
  unfold hgAt tgAt
  cases hr : runH h wd l i with
  | none => rw [hr] at e; simp at e
  | some y => rfl
theorem runH_next {h : Hst} {wd : Int × Int} {l : Bx} {i : Nat} (e : (runH h wd l i).isSome = true) : runH h wd l (i + 1) = stepS h wd (hgAt h wd l i) (tgAt h wd l i) (lo l i, hi l i) := by
  show (match runH h wd l i with | none => none | some y => stepS h wd y.1 y.2 (lo l i, hi l i)) = _
  rw [runH_at e]
theorem runH_ok {h : Hst} {wd : Int × Int} {l : Bx} (hc : 1 ≤ h.cable) : ∀ {i : Nat} {y : Hng × Bool}, runH h wd l i = some y → HgOk h y.1 i
  | 0, y, e => by
    have : y = (hng0, false) := (Option.some.inj e).symm
    subst this
    exact hng0_ok hc
  | i + 1, y, e => by
    cases hr : runH h wd l i with
    | none =>
      have : runH h wd l (i + 1) = none := by show (match runH h wd l i with | none => none | some y => stepS h wd y.1 y.2 (lo l i, hi l i)) = _; rw [hr]
      rw [this] at e; cases e
    | some z =>
      have h1 : runH h wd l (i + 1) = stepS h wd z.1 z.2 (lo l i, hi l i) := by show (match runH h wd l i with | none => none | some y => stepS h wd y.1 y.2 (lo l i, hi l i)) = _; rw [hr]
      rw [h1] at e
      have := stepS_ok (k' := y.1) (t' := y.2) hc (runH_ok hc hr) e
      simpa using this
theorem hgAt_ok {h : Hst} {wd : Int × Int} {l : Bx} (hc : 1 ≤ h.cable) {i : Nat} (e : (runH h wd l i).isSome = true) : HgOk h (hgAt h wd l i) i := runH_ok hc (runH_at e)
theorem runH_less {h : Hst} {wd : Int × Int} {l : Bx} : ∀ {i j : Nat}, i ≤ j → (runH h wd l j).isSome = true → (runH h wd l i).isSome = true
  | i, 0, hij, e => by
    obtain rfl : i = 0 := by omega
    exact e
  | i, j + 1, hij, e => by
    rcases (by omega : i = j + 1 ∨ i ≤ j) with rfl | hij
    · exact e
    · refine runH_less hij ?_
      cases hr : runH h wd l j with
      | none =>
        have : runH h wd l (j + 1) = none := by show (match runH h wd l j with | none => none | some y => stepS h wd y.1 y.2 (lo l j, hi l j)) = _; rw [hr]
        rw [this] at e; simp at e
      | some z => rfl
def hauI (h : Hst) (wd : Int × Int) (l : Bx) : Int := ixR (fun i => (runH h wd l (i + 1)).isNone) l.length
def hauE (h : Hst) (wd : Int × Int) (l : Bx) : Int := if wiE h wd = 0 then (if l.length > 100 then 2 else if liesB h.ys wd = true then (if hauI h wd l < 0 then 0 else 72) else 1) else wiE h wd
def hauN (h : Hst) (wd : Int × Int) (l : Bx) : Int := if hauE h wd l = 72 then hauI h wd l else 0
def hauK (h : Hst) (wd : Int × Int) (l : Bx) : Hng := if hauE h wd l = 0 then hgAt h wd l l.length else hng0
theorem wiE_or (h : Hst) (wd : Int × Int) : wiE h wd = 0 ∨ wiE h wd = 10 ∨ wiE h wd = 71 := by
  have e : hoE h = 0 ∨ hoE h = 71 := by unfold hoE; split <;> simp
  unfold wiE
  by_cases h1 : hoE h = 0
  · rw [if_pos h1]
    by_cases h2 : okS wd = true
    · exact .inl (if_pos h2)
    · exact .inr (.inl (if_neg h2))
  · rw [if_neg h1]; omega
set_option maxRecDepth 100000 in
set_option maxHeartbeats 1000000 in
theorem shaul_ac (h : Hst) (wd : Int × Int) (l : Bx) (hS : HSm h) : AC Try.prog 20 [hoD h, spD wd, .list (sps l)] [] [] (.tup [.agg (hgC (hauK h wd l)), dI (hauN h wd l), dI (hauE h wd l)]) := by
  refine ksling_Haul.ac (n0 := 0) (by simp) ⟨hoD_in _ _, in_agg2 _ _ _, .list _, trivial⟩ trivial rfl ?_
  unfold csling_Haul hoD hoC spD hgC
  have hno : hauE h wd l ≠ 0 → hauK h wd l = hng0 := fun e => if_neg e
  have hno2 : hauE h wd l ≠ 72 → hauN h wd l = 0 := fun e => if_neg e
  (have hg : (987654321 : Nat) - 987654321 = 0 := rfl; have hr := hg; iterate 2 (try (first | refine aw_seq ?_ | (refine aw_skip ?_; try simp only [thenQ, blockQ, if_true, if_false, Nat.reduceEqDiff, reduceCtorEq]) | (refine aw_exit ?_; try simp only [thenQ, blockQ, if_true, if_false, Nat.reduceEqDiff, reduceCtorEq]) | refine aw_ret ?_ | refine aw_block ?_ | refine aw_condT rfl ?_ | refine aw_condF rfl ?_ | ((first | refine aw_region ?_ | refine ago_if (by omega) ?_ | skip); simp (config := {maxSteps := 10000000}) (disch := first | exact okYes (by kernel_rfl) | omega) only [thenQ, List.map, dI, dB, List.length, Nat.zero_add, Nat.reduceAdd, Nat.reduceMul, envOf, ARun_none, AOpRun, aexec, D.isBot, FSt.ev, St.F, ↓eget_h, Bool.false_eq_true, Option.isSome, hget_n, or_self, ↓reduceIte, D.cells, AGo_ok, St.app, putO, eput_c, Nat.reduceBEq, eput_n, cond_false, hups, hput_n, eget_c, hget_c, hput_c, ARun_nil, dropE_c, inL_n, dropE_n]))))
  refine aw_wk (s' := ⟨[(2, .list (sps l)), (3, .ptr 0 0), (4, .ptr 8 0), (6, .ptr 16 0), (7, dI 0), (8, dI 0)], [(0, [dI h.cable, .list (ints h.xs), .list (ints h.ys), .list (rows h.vs), dI h.charge]), (8, [dI wd.1, dI wd.2]), (16, [dI 0, dI 0, dI 0, dI 0, dB false])], 32⟩) ?_ ?_
  · refine wk_to [] [(0, 0), (8, 8), (16, 16)] (by kernel_rfl) (by kernel_rfl) (by kernel_rfl) (by kernel_rfl) (by kernel_rfl) ?_ ?_ <;> repeat' (first | exact trivial | exact vr_val _ | exact vr_list _ | exact vr_ptr _ _ _ rfl | refine And.intro ⟨_, rfl, .inl ⟨_, rfl, by decide, ?_⟩⟩ ?_ | apply And.intro)
  by_cases h1 : wiE h wd = 0
  case neg =>
    have e1 : hauE h wd l = wiE h wd := if_neg h1
    have h72 : hauE h wd l ≠ 72 := by have := wiE_or h wd; omega
    rw [hno (by omega), hno2 h72, e1]
    unfold hng0
    (have hg : (987654321 : Nat) - 987654321 = 0 := rfl; have hr := hg; repeat' (first | refine aw_seq ?_ | (refine aw_skip ?_; try simp only [thenQ, blockQ, if_true, if_false, Nat.reduceEqDiff, reduceCtorEq]) | (refine aw_exit ?_; try simp only [thenQ, blockQ, if_true, if_false, Nat.reduceEqDiff, reduceCtorEq]) | refine aw_ret ?_ | refine aw_block ?_ | refine aw_condT rfl ?_ | refine aw_condF rfl ?_ | (refine aw_cond rfl (fun hg => ?_) (fun hg => ?_) <;> (try (have hq := hg; simp only [Bool.not_eq_true', Bool.not_eq_false', Bool.and_eq_true, Bool.and_eq_false_iff, Bool.or_eq_true, Bool.or_eq_false_iff, decide_eq_true_eq, decide_eq_false_iff_not, bne_iff_ne, beq_iff_eq, beq_eq_false_iff_ne, bne_eq_false_iff_eq, ne_eq, Int.not_lt, Int.not_le, Decidable.not_not] at hq)) <;> (try (have hr := hg; simp only [decide_eq_true_eq, decide_eq_false_iff_not] at hr)) <;> (try (exfalso; omega))) | ((first | refine aw_region ?_ | refine acall0 (newWinchE_ac h wd hS h1) ?_ | refine ago_if (by omega) ?_ | skip); simp (config := {maxSteps := 10000000}) (disch := first | exact okYes (by kernel_rfl) | omega) only [thenQ, List.length, Nat.zero_add, Nat.reduceAdd, Nat.reduceMul, dI, dB, ARun_none, AOpRun, aexec, FSt.ev, St.F, eget_c, Nat.reduceBEq, ↓eget_h, cond_false, hget_c, beq_self_eq_true, hget_n, cond_true, Nat.reduceLeDiff, ↓reduceIte, List.drop, List.take, AGo_ok, St.app, putO, eput_c, eput_n, hups, List.map, ↓hget_h, opt1, Option.map, List.getElem?_cons_zero, List.getElem?_cons_succ, ARun_nil, dropE_c, inL_c, inL_n, dropE_n, isSh, Bool.false_eq_true, abin, hg, fillD, D.isBot, D.cells, List.all, D.leaf, Bool.and_true, and_self, splice, List.nil_append, List.append_nil, hput_c, hput_n, blockQ])))
    all_goals (refine end_to [] [] (by first | exact .inl rfl | exact .inr rfl) rfl (by kernel_rfl) (by kernel_rfl) (by kernel_rfl) ?_ ?_ <;> repeat' (first | exact trivial | exact vr_val _ | apply vr_agg | apply vr_tup | apply And.intro))
  have nw := newWinchO_ac h wd hS h1
  unfold wiC hng0 at nw
  by_cases h2 : l.length > 100
  · have e1 : hauE h wd l = 2 := by unfold hauE; rw [if_pos h1, if_pos h2]
    rw [hno (by omega), hno2 (by omega), e1]
    unfold hng0
    (have hg : (987654321 : Nat) - 987654321 = 0 := rfl; have hr := hg; repeat' (first | refine aw_seq ?_ | (refine aw_skip ?_; try simp only [thenQ, blockQ, if_true, if_false, Nat.reduceEqDiff, reduceCtorEq]) | (refine aw_exit ?_; try simp only [thenQ, blockQ, if_true, if_false, Nat.reduceEqDiff, reduceCtorEq]) | refine aw_ret ?_ | refine aw_block ?_ | refine aw_condT rfl ?_ | refine aw_condF rfl ?_ | (refine aw_cond rfl (fun hg => ?_) (fun hg => ?_) <;> (try (have hq := hg; simp only [Bool.not_eq_true', Bool.not_eq_false', Bool.and_eq_true, Bool.and_eq_false_iff, Bool.or_eq_true, Bool.or_eq_false_iff, decide_eq_true_eq, decide_eq_false_iff_not, bne_iff_ne, beq_iff_eq, beq_eq_false_iff_ne, bne_eq_false_iff_eq, ne_eq, Int.not_lt, Int.not_le, Decidable.not_not] at hq)) <;> (try (have hr := hg; simp only [decide_eq_true_eq, decide_eq_false_iff_not] at hr)) <;> (try (exfalso; omega))) | ((first | refine aw_region ?_ | refine acallB (nw) (by repeat' (first | exact trivial | exact rfl | refine And.intro ?_ ?_)) (by kernel_rfl) (by kernel_rfl) (by kernel_rfl) ?_ | refine ago_if (by omega) ?_ | skip); simp (config := {maxSteps := 10000000}) (disch := first | exact okYes (by kernel_rfl) | omega) only [thenQ, List.length, Nat.zero_add, Nat.reduceAdd, Nat.reduceMul, dI, dB, ARun_none, AOpRun, aexec, FSt.ev, St.F, eget_c, Nat.reduceBEq, ↓eget_h, cond_false, hget_c, beq_self_eq_true, hget_n, cond_true, Nat.reduceLeDiff, ↓reduceIte, List.drop, List.take, AGo_ok, St.app, putO, eput_c, eput_n, hups, List.map, ↓hget_h, hput_c, hput_n, List.append_nil, opt1, Option.map, List.getElem?_cons_zero, List.getElem?_cons_succ, ARun_nil, dropE_c, inL_c, inL_n, dropE_n, isSh, Bool.false_eq_true, abin, bne_self_eq_false, sps_len, hr, decide_true, fillD, D.isBot, D.cells, List.all, D.leaf, Bool.and_true, and_self, splice, List.nil_append, blockQ])))
    all_goals (refine end_to [] [] (by first | exact .inl rfl | exact .inr rfl) rfl (by kernel_rfl) (by kernel_rfl) (by kernel_rfl) ?_ ?_ <;> repeat' (first | exact trivial | exact vr_val _ | apply vr_agg | apply vr_tup | apply And.intro))
  cases h3 : liesB h.ys wd with
  | false =>
    have e1 : hauE h wd l = 1 := by unfold hauE; rw [if_pos h1, if_neg h2, h3]; rfl
    rw [hno (by omega), hno2 (by omega), e1]
    unfold hng0
    (have hg : (987654321 : Nat) - 987654321 = 0 := rfl; have hr := hg; repeat' (first | refine aw_seq ?_ | (refine aw_skip ?_; try simp only [thenQ, blockQ, if_true, if_false, Nat.reduceEqDiff, reduceCtorEq]) | (refine aw_exit ?_; try simp only [thenQ, blockQ, if_true, if_false, Nat.reduceEqDiff, reduceCtorEq]) | refine aw_ret ?_ | refine aw_block ?_ | refine aw_condT rfl ?_ | refine aw_condF rfl ?_ | (refine aw_cond rfl (fun hg => ?_) (fun hg => ?_) <;> (try (have hq := hg; simp only [Bool.not_eq_true', Bool.not_eq_false', Bool.and_eq_true, Bool.and_eq_false_iff, Bool.or_eq_true, Bool.or_eq_false_iff, decide_eq_true_eq, decide_eq_false_iff_not, bne_iff_ne, beq_iff_eq, beq_eq_false_iff_ne, bne_eq_false_iff_eq, ne_eq, Int.not_lt, Int.not_le, Decidable.not_not] at hq)) <;> (try (have hr := hg; simp only [decide_eq_true_eq, decide_eq_false_iff_not] at hr)) <;> (try (exfalso; omega))) | ((first | refine aw_region ?_ | refine acallB (nw) (by repeat' (first | exact trivial | exact rfl | refine And.intro ?_ ?_)) (by kernel_rfl) (by kernel_rfl) (by kernel_rfl) ?_ | refine ago_if (by omega) ?_ | skip); simp (config := {maxSteps := 10000000}) (disch := first | exact okYes (by kernel_rfl) | omega) only [thenQ, List.length, Nat.zero_add, Nat.reduceAdd, Nat.reduceMul, dI, dB, ARun_none, AOpRun, aexec, FSt.ev, St.F, eget_c, Nat.reduceBEq, ↓eget_h, cond_false, hget_c, beq_self_eq_true, hget_n, cond_true, Nat.reduceLeDiff, ↓reduceIte, List.drop, List.take, AGo_ok, St.app, putO, eput_c, eput_n, hups, List.map, ↓hget_h, h3, hput_c, hput_n, List.append_nil, opt1, Option.map, List.getElem?_cons_zero, List.getElem?_cons_succ, ARun_nil, dropE_c, inL_c, inL_n, dropE_n, isSh, Bool.false_eq_true, abin, bne_self_eq_false, sps_len, hr, decide_false, Bool.not_false, fillD, D.isBot, D.cells, List.all, D.leaf, Bool.and_true, and_self, splice, List.nil_append, blockQ])))
    all_goals (refine end_to [] [] (by first | exact .inl rfl | exact .inr rfl) rfl (by kernel_rfl) (by kernel_rfl) (by kernel_rfl) ?_ ?_ <;> repeat' (first | exact trivial | exact vr_val _ | apply vr_agg | apply vr_tup | apply And.intro))
  | true =>
  have e0 := wi_wnd h1
  rw [h3] at e0
  have WO := wndE_ok (h := h) (wd := wd) e0
  have hc1 := WO.o.c1
  have hc2 := WO.o.c2
  have e1 : hauE h wd l = if hauI h wd l < 0 then 0 else 72 := by unfold hauE; rw [if_pos h1, if_neg h2, h3]; rfl
  (have hg : (987654321 : Nat) - 987654321 = 0 := rfl; have hr := hg; repeat' (first | refine aw_seq ?_ | (refine aw_skip ?_; try simp only [thenQ, blockQ, if_true, if_false, Nat.reduceEqDiff, reduceCtorEq]) | (refine aw_exit ?_; try simp only [thenQ, blockQ, if_true, if_false, Nat.reduceEqDiff, reduceCtorEq]) | refine aw_ret ?_ | refine aw_block ?_ | refine aw_condT rfl ?_ | refine aw_condF rfl ?_ | (refine aw_cond rfl (fun hg => ?_) (fun hg => ?_) <;> (try (have hq := hg; simp only [Bool.not_eq_true', Bool.not_eq_false', Bool.and_eq_true, Bool.and_eq_false_iff, Bool.or_eq_true, Bool.or_eq_false_iff, decide_eq_true_eq, decide_eq_false_iff_not, bne_iff_ne, beq_iff_eq, beq_eq_false_iff_ne, bne_eq_false_iff_eq, ne_eq, Int.not_lt, Int.not_le, Decidable.not_not] at hq)) <;> (try (have hr := hg; simp only [decide_eq_true_eq, decide_eq_false_iff_not] at hr)) <;> (try (exfalso; omega))) | ((first | refine aw_region ?_ | refine acallB (nw) (by repeat' (first | exact trivial | exact rfl | refine And.intro ?_ ?_)) (by kernel_rfl) (by kernel_rfl) (by kernel_rfl) ?_ | refine ago_if (by omega) ?_ | skip); simp (config := {maxSteps := 10000000}) (disch := first | exact okYes (by kernel_rfl) | omega) only [thenQ, List.length, Nat.zero_add, Nat.reduceAdd, Nat.reduceMul, dI, dB, ARun_none, AOpRun, aexec, FSt.ev, St.F, eget_c, Nat.reduceBEq, ↓eget_h, cond_false, hget_c, beq_self_eq_true, hget_n, cond_true, Nat.reduceLeDiff, ↓reduceIte, List.drop, List.take, AGo_ok, St.app, putO, eput_c, eput_n, hups, List.map, ↓hget_h, h3, hput_c, hput_n, List.append_nil, opt1, Option.map, List.getElem?_cons_zero, List.getElem?_cons_succ, ARun_nil, dropE_c, inL_c, inL_n, dropE_n, isSh, Bool.false_eq_true, abin, bne_self_eq_false, sps_len, hr, decide_false, Bool.not_true])))
  refine aw_loop (fun i : Nat => ⟨[(6, .ptr 16 0), (9, .ptr 48 0), (34, .list (sps l)), (35, dI l.length), (36, dI i)], [(16, [dI 0, dI 0, dI 0, dI 0, dB false]), (48, [dI h.cable, .list (ints h.xs), .list (ints h.ys), .list (rows h.vs), dI h.charge, dI wd.1, dI wd.2, dI (hgAt h wd l i).len, dI (hgAt h wd l i).wt, dI (hgAt h wd l i).since, dI (hgAt h wd l i).cyc, dB (hgAt h wd l i).cut, dB (tgAt h wd l i)])], 400⟩) (fun i => i ≤ l.length ∧ (runH h wd l i).isSome = true) (fun i => l.length - i) ⟨0, ⟨by omega, rfl⟩, ?_⟩ ?_
  · refine wk_to [] [(16, 16), (48, 48)] (by kernel_rfl) (by kernel_rfl) (by kernel_rfl) (by kernel_rfl) (by kernel_rfl) ?_ ?_ <;> repeat' (first | exact trivial | exact vr_val _ | exact vr_list _ | exact vr_ptr _ _ _ rfl | refine And.intro ⟨_, rfl, .inl ⟨_, rfl, by decide, ?_⟩⟩ ?_ | apply And.intro)
  rintro i ⟨hle, hr⟩
  by_cases hi2 : i < l.length
  · have g1 := sps_gd l i hi2
    have hd := do_ac h wd (hgAt h wd l i) (tgAt h wd l i) (lo l i, hi l i) i WO.o hc2 (hgAt_ok hc1 hr) (by omega)
    have hn := runH_next hr
    cases hs : stepS h wd (hgAt h wd l i) (tgAt h wd l i) (lo l i, hi l i) with
    | none =>
      obtain ⟨z1, z2, z3⟩ := do_none hs
      rw [z1, z2, z3] at hd
      unfold wiC at hd
      have ex : hauI h wd l = i := ixR_some hi2 (fun j hj => by
        have := runH_less (h := h) (wd := wd) (l := l) (i := j + 1) (j := i) (by omega) hr
        cases hq : runH h wd l (j + 1) with
        | none => rw [hq] at this; simp at this
        | some _ => rfl) (by rw [hn, hs]; rfl)
      have e2 : hauE h wd l = 72 := by rw [e1, ex, if_neg (by omega)]
      have e3 : hauN h wd l = i := by unfold hauN; rw [if_pos e2, ex]
      rw [hno (by omega), e3, e2]
      unfold hng0
      (have hg : (987654321 : Nat) - 987654321 = 0 := rfl; have hr := hg; repeat' (first | refine aw_seq ?_ | (refine aw_skip ?_; try simp only [thenQ, blockQ, if_true, if_false, Nat.reduceEqDiff, reduceCtorEq]) | (refine aw_exit ?_; try simp only [thenQ, blockQ, if_true, if_false, Nat.reduceEqDiff, reduceCtorEq]) | refine aw_ret ?_ | refine aw_block ?_ | refine aw_condT rfl ?_ | refine aw_condF rfl ?_ | (refine aw_cond rfl (fun hg => ?_) (fun hg => ?_) <;> (try (have hq := hg; simp only [Bool.not_eq_true', Bool.not_eq_false', Bool.and_eq_true, Bool.and_eq_false_iff, Bool.or_eq_true, Bool.or_eq_false_iff, decide_eq_true_eq, decide_eq_false_iff_not, bne_iff_ne, beq_iff_eq, beq_eq_false_iff_ne, bne_eq_false_iff_eq, ne_eq, Int.not_lt, Int.not_le, Decidable.not_not] at hq)) <;> (try (have hr := hg; simp only [decide_eq_true_eq, decide_eq_false_iff_not] at hr)) <;> (try (exfalso; omega))) | ((first | refine aw_region ?_ | refine acallB (hd) (by repeat' (first | exact trivial | exact rfl | refine And.intro ?_ ?_)) (by kernel_rfl) (by kernel_rfl) (by kernel_rfl) ?_ | refine ago_if (by omega) ?_ | skip); simp (config := {maxSteps := 10000000}) (disch := first | exact okYes (by kernel_rfl) | omega) only [thenQ, Option.isSome, dI, dB, List.length, Nat.zero_add, Nat.reduceMul, Nat.reduceAdd, ARun_none, AOpRun, aexec, FSt.ev, St.F, eget_c, Nat.reduceBEq, ↓eget_h, cond_false, isSh, Bool.false_eq_true, ↓reduceIte, Option.map, abin, AGo_ok, St.app, putO, eput_c, eput_n, hups, List.map, ARun_nil, dropE_c, inL_n, dropE_n, hr, decide_true, Int.natCast_nonneg, sps_all, and_self, opt1, Int.toNat_natCast, g1, Nat.reduceLeDiff, List.take, hget_c, hget_n, hput_c, hput_n, ↓hget_h, D.isBot, D.cells, List.all, D.leaf, Bool.and_true, splice, List.nil_append, List.drop, List.append_nil, beq_self_eq_true, cond_true, inL_c, Bool.not_false, fillD, blockQ])))
      all_goals (refine end_to [] [] (by first | exact .inl rfl | exact .inr rfl) rfl (by kernel_rfl) (by kernel_rfl) (by kernel_rfl) ?_ ?_ <;> repeat' (first | exact trivial | exact vr_val _ | apply vr_agg | apply vr_tup | apply And.intro))
    | some y =>
      obtain ⟨z1, z2, z3⟩ := do_some (k' := y.1) (t' := y.2) hs
      rw [z1, z2, z3] at hd
      unfold wiC at hd
      have hr2 : (runH h wd l (i + 1)).isSome = true := by rw [hn, hs]; rfl
      have y1 : hgAt h wd l (i + 1) = y.1 := by unfold hgAt; rw [hn, hs]; rfl
      have y2 : tgAt h wd l (i + 1) = y.2 := by unfold tgAt; rw [hn, hs]; rfl
      rw [← y1, ← y2] at hd
      (have hg : (987654321 : Nat) - 987654321 = 0 := rfl; have hr := hg; repeat' (first | refine aw_seq ?_ | (refine aw_skip ?_; try simp only [thenQ, blockQ, if_true, if_false, Nat.reduceEqDiff, reduceCtorEq]) | (refine aw_exit ?_; try simp only [thenQ, blockQ, if_true, if_false, Nat.reduceEqDiff, reduceCtorEq]) | refine aw_ret ?_ | refine aw_block ?_ | refine aw_condT rfl ?_ | refine aw_condF rfl ?_ | (refine aw_cond rfl (fun hg => ?_) (fun hg => ?_) <;> (try (have hq := hg; simp only [Bool.not_eq_true', Bool.not_eq_false', Bool.and_eq_true, Bool.and_eq_false_iff, Bool.or_eq_true, Bool.or_eq_false_iff, decide_eq_true_eq, decide_eq_false_iff_not, bne_iff_ne, beq_iff_eq, beq_eq_false_iff_ne, bne_eq_false_iff_eq, ne_eq, Int.not_lt, Int.not_le, Decidable.not_not] at hq)) <;> (try (have hr := hg; simp only [decide_eq_true_eq, decide_eq_false_iff_not] at hr)) <;> (try (exfalso; omega))) | ((first | refine aw_region ?_ | refine acallB (hd) (by repeat' (first | exact trivial | exact rfl | refine And.intro ?_ ?_)) (by kernel_rfl) (by kernel_rfl) (by kernel_rfl) ?_ | refine ago_if (by omega) ?_ | skip); simp (config := {maxSteps := 10000000}) (disch := first | exact okYes (by kernel_rfl) | omega) only [thenQ, Option.isSome, dI, dB, List.length, Nat.zero_add, Nat.reduceMul, Nat.reduceAdd, ARun_none, AOpRun, aexec, FSt.ev, St.F, eget_c, Nat.reduceBEq, ↓eget_h, cond_false, isSh, Bool.false_eq_true, ↓reduceIte, Option.map, abin, AGo_ok, St.app, putO, eput_c, eput_n, hups, List.map, ARun_nil, dropE_c, inL_n, dropE_n, hr, decide_true, Int.natCast_nonneg, sps_all, and_self, opt1, Int.toNat_natCast, g1, Nat.reduceLeDiff, List.take, hget_c, hget_n, hput_c, hput_n, ↓hget_h, D.isBot, D.cells, List.all, D.leaf, Bool.and_true, splice, List.nil_append, List.drop, List.append_nil, beq_self_eq_true, cond_true, inL_c, Bool.not_true, fits])))
      exact ⟨i + 1, ⟨by omega, hr2⟩, by omega, by refine wk_to [] [(16, 16), (48, 48)] (by kernel_rfl) (by kernel_rfl) (by kernel_rfl) (by kernel_rfl) (by kernel_rfl) ?_ ?_ <;> repeat' (first | exact trivial | exact vr_val _ | exact vr_list _ | exact vr_ptr _ _ _ rfl | refine And.intro ⟨_, rfl, .inl ⟨_, rfl, by decide, ?_⟩⟩ ?_ | apply And.intro)⟩
  · obtain rfl : i = l.length := by omega
    have ex : hauI h wd l = -1 := ixR_none fun j hj => by
      have := runH_less (h := h) (wd := wd) (l := l) (i := j + 1) (j := l.length) (by omega) hr
      cases hq : runH h wd l (j + 1) with
      | none => rw [hq] at this; simp at this
      | some _ => rfl
    have e2 : hauE h wd l = 0 := by rw [e1, ex]; rfl
    have e3 : hauK h wd l = hgAt h wd l l.length := if_pos e2
    rw [hno2 (by omega), e3, e2]
    (have hg : (987654321 : Nat) - 987654321 = 0 := rfl; have hr := hg; repeat' (first | refine aw_seq ?_ | (refine aw_skip ?_; try simp only [thenQ, blockQ, if_true, if_false, Nat.reduceEqDiff, reduceCtorEq]) | (refine aw_exit ?_; try simp only [thenQ, blockQ, if_true, if_false, Nat.reduceEqDiff, reduceCtorEq]) | refine aw_ret ?_ | refine aw_block ?_ | refine aw_condT rfl ?_ | refine aw_condF rfl ?_ | (refine aw_cond rfl (fun hg => ?_) (fun hg => ?_) <;> (try (have hq := hg; simp only [Bool.not_eq_true', Bool.not_eq_false', Bool.and_eq_true, Bool.and_eq_false_iff, Bool.or_eq_true, Bool.or_eq_false_iff, decide_eq_true_eq, decide_eq_false_iff_not, bne_iff_ne, beq_iff_eq, beq_eq_false_iff_ne, bne_eq_false_iff_eq, ne_eq, Int.not_lt, Int.not_le, Decidable.not_not] at hq)) <;> (try (have hr := hg; simp only [decide_eq_true_eq, decide_eq_false_iff_not] at hr)) <;> (try (exfalso; omega))) | ((first | refine aw_region ?_ | refine ago_if (by omega) ?_ | skip); simp (config := {maxSteps := 10000000}) (disch := first | exact okYes (by kernel_rfl) | omega) only [thenQ, Option.isSome, dI, dB, List.length, Nat.zero_add, Nat.reduceMul, Nat.reduceAdd, ARun_none, AOpRun, aexec, FSt.ev, St.F, eget_c, Nat.reduceBEq, ↓eget_h, cond_false, isSh, Bool.false_eq_true, ↓reduceIte, Option.map, abin, AGo_ok, St.app, putO, eput_c, eput_n, hups, List.map, ARun_nil, dropE_c, inL_n, dropE_n, hr, decide_false, hget_c, ↓hget_h, Nat.reduceLeDiff, List.drop, List.take, beq_self_eq_true, hget_n, cond_true, D.isBot, D.cells, List.all, D.leaf, Bool.and_true, and_self, splice, List.nil_append, List.append_nil, hput_c, hput_n, inL_c])))
    all_goals (refine end_to [] [] (by first | exact .inl rfl | exact .inr rfl) rfl (by kernel_rfl) (by kernel_rfl) (by kernel_rfl) ?_ ?_ <;> repeat' (first | exact trivial | exact vr_val _ | apply vr_agg | apply vr_tup | apply And.intro))
end Go.Proofs.Ytgibbaadjbohdaa
/- What holds behind right steps of a hoist. In numbers; no conditions. -/
namespace Go.Proofs.Ytgibbaadjbohdaa
open Go.RowKit Lift

/-- the last touch before a step -/
def tchI (l : Bx) : Nat → Int
  | 0 => -1
  | i + 1 => if lo l i = 3 then i else tchI l i
theorem tchI_s (l : Bx) (i : Nat) : tchI l (i + 1) = if lo l i = 3 then (i : Int) else tchI l i := rfl
theorem tchI_le (l : Bx) : ∀ i, -1 ≤ tchI l i ∧ tchI l i < i
  | 0 => by simp [tchI]
  | i + 1 => by
    have := tchI_le l i
    rw [tchI_s]
    split <;> omega
/-- how many steps unhooked -/
def unhN (l : Bx) : Nat → Int
  | 0 => 0
  | i + 1 => if lo l i = 5 then unhN l i + 1 else unhN l i
structure StepIs (h : Hst) (wd : Int × Int) (k : Hng) (t : Bool) (x : Int × Int) (k' : Hng) (t' : Bool) : Prop where
  cut : k.cut = false
  cyc : k'.cyc = if x.1 = 5 then k.cyc + 1 else k.cyc
  tch : x.1 = 3 → k'.since = 0 ∧ t' = true
  no : x.1 ≠ 3 → k'.since = k.since + 1 ∧ t' = t
  hook : x.1 = 4 → t = true ∧ k.since + 1 ≤ h.charge
  ct : x.1 = 6 → k'.cut = true
  be : 0 < k'.wt → caB h wd (k'.len, k'.len) k'.wt = true ∨ (k'.len = k.len ∧ k'.wt = k.wt)
theorem outS_is {h : Hst} {wd : Int × Int} {k k' : Hng} {t t' : Bool} {n : Int} (e : outS h wd k t n = some (k', t')) : k' = ⟨k.len + n, k.wt, k.since + 1, k.cyc, k.cut⟩ ∧ t' = t ∧ caB h wd (k.len + n, k.len + n) k.wt = true ∧ wI (k.len + n) 0 h.cable = true := by
  unfold outS at e
  split at e
  · rename_i hc
    simp only [Option.some.injEq, Prod.mk.injEq] at e
    exact ⟨e.1.symm, e.2.symm, hc.2, hc.1⟩
  · cases e
theorem stepIs {h : Hst} {wd : Int × Int} {k k' : Hng} {t t' : Bool} {x : Int × Int} (e : stepS h wd k t x = some (k', t')) : StepIs h wd k t x k' t' := by
  unfold stepS at e
  split at e
  · cases e
  rename_i hcut
  have hcut' : k.cut = false := by simpa using hcut
  split at e
  · rename_i h1
    split at e
    · obtain ⟨rfl, rfl, h3, _⟩ := outS_is e
      exact ⟨hcut', by simp [h1], by omega, fun _ => ⟨rfl, rfl⟩, by omega, by omega, fun _ => .inl h3⟩
    · cases e
  split at e
  · rename_i h1
    split at e
    · obtain ⟨rfl, rfl, h3, _⟩ := outS_is e
      exact ⟨hcut', by simp [h1], by omega, fun _ => ⟨rfl, rfl⟩, by omega, by omega, fun _ => .inl h3⟩
    · cases e
  split at e
  · rename_i h1
    split at e
    · rename_i hq
      simp only [Option.some.injEq, Prod.mk.injEq] at e
      obtain ⟨rfl, rfl⟩ := e
      exact ⟨hcut', by simp [h1], by omega, fun _ => ⟨rfl, rfl⟩, fun _ => ⟨hq.2.2.1, hq.2.2.2.1⟩, by omega, fun _ => .inl hq.2.2.2.2.2⟩
    · cases e
  split at e
  · cases e
  split at e
  · rename_i h1
    simp only [Option.some.injEq, Prod.mk.injEq] at e
    obtain ⟨rfl, rfl⟩ := e
    exact ⟨hcut', by simp [h1.1], fun _ => ⟨rfl, rfl⟩, fun h => absurd h1.1 h, by omega, by omega, fun _ => .inr ⟨rfl, rfl⟩⟩
  split at e
  · rename_i h1
    simp only [Option.some.injEq, Prod.mk.injEq] at e
    obtain ⟨rfl, rfl⟩ := e
    exact ⟨hcut', by simp [h1.1], by omega, fun _ => ⟨rfl, rfl⟩, by omega, by omega, fun h => by simp only at h; omega⟩
  split at e
  · rename_i h1
    simp only [Option.some.injEq, Prod.mk.injEq] at e
    obtain ⟨rfl, rfl⟩ := e
    exact ⟨hcut', by simp [h1], by omega, fun _ => ⟨rfl, rfl⟩, by omega, fun _ => rfl, fun h => by simp only at h; omega⟩
  · cases e
theorem stepAt {h : Hst} {wd : Int × Int} {l : Bx} {i : Nat} (e : (runH h wd l (i + 1)).isSome = true) : StepIs h wd (hgAt h wd l i) (tgAt h wd l i) (lo l i, hi l i) (hgAt h wd l (i + 1)) (tgAt h wd l (i + 1)) := by
  have h0 := runH_less (h := h) (wd := wd) (l := l) (i := i) (j := i + 1) (by omega) e
  have h1 := runH_at e
  rw [runH_next h0] at h1
  exact stepIs h1
/-- what holds behind the first steps, if they are right -/
structure RunIs (h : Hst) (wd : Int × Int) (l : Bx) (i : Nat) : Prop where
  ok : HgOk h (hgAt h wd l i) i
  cyc : (hgAt h wd l i).cyc = unhN l i
  tch : tgAt h wd l i = decide (0 ≤ tchI l i)
  since : (hgAt h wd l i).since = if 0 ≤ tchI l i then i - 1 - tchI l i else i
  be : 0 < (hgAt h wd l i).wt → beB h wd (hgAt h wd l i).len (hgAt h wd l i).wt = true
theorem runIs {h : Hst} {wd : Int × Int} (WO : WdOk h wd) {l : Bx} : ∀ {i : Nat}, (runH h wd l i).isSome = true → RunIs h wd l i
  | 0, e => ⟨hgAt_ok WO.o.c1 e, rfl, rfl, rfl, fun h => by simp [hgAt, runH, hng0] at h⟩
  | i + 1, e => by
    have h0 := runH_less (h := h) (wd := wd) (l := l) (i := i) (j := i + 1) (by omega) e
    have R := runIs WO h0
    have S := stepAt e
    have O := hgAt_ok WO.o.c1 e
    have tl := tchI_le l i
    refine ⟨O, ?_, ?_, ?_, fun hw => ?_⟩
    · rw [S.cyc, R.cyc]; rfl
    · by_cases h3 : lo l i = 3
      · rw [(S.tch h3).2]; rw [tchI_s]; rw [if_pos h3, decide_eq_true (by omega)]
      · rw [(S.no h3).2, R.tch]; rw [tchI_s]; rw [if_neg h3]
    · by_cases h3 : lo l i = 3
      · rw [(S.tch h3).1]; rw [tchI_s]; rw [if_pos h3, if_pos (by omega)]; omega
      · rw [(S.no h3).1, R.since]; rw [tchI_s]; rw [if_neg h3]; split <;> omega
    · have := O.l1; have := O.l2
      rcases S.be hw with hb | ⟨h1, h2⟩
      · rw [← WO.ca_be (by omega) (by omega) (by omega)]; exact hb
      · rw [h1, h2]; rw [h2] at hw; exact R.be hw
theorem hauI_all {h : Hst} {wd : Int × Int} {l : Bx} (e : hauI h wd l < 0) : (runH h wd l l.length).isSome = true := by
  rcases ixR_cases (fun i => (runH h wd l (i + 1)).isNone) l.length with ⟨_, hv⟩ | ⟨k, _, e2, _⟩
  · match hl : l.length with
    | 0 => rfl
    | n + 1 =>
      have := hv n (by omega)
      cases hq : runH h wd l (n + 1) with
      | none => rw [hq] at this; simp at this
      | some _ => rfl
  · have e3 : hauI h wd l = k := e2
    omega
theorem hauE_zero {h : Hst} {wd : Int × Int} {l : Bx} (e : hauE h wd l = 0) : wiE h wd = 0 ∧ WdOk h wd ∧ l.length ≤ 100 ∧ (runH h wd l l.length).isSome = true := by
  by_cases h1 : wiE h wd = 0
  · have e1 : hauE h wd l = if l.length > 100 then 2 else if liesB h.ys wd = true then (if hauI h wd l < 0 then 0 else 72) else 1 := if_pos h1
    rw [e1] at e
    by_cases h2 : l.length > 100
    · rw [if_pos h2] at e; omega
    · rw [if_neg h2] at e
      by_cases h3 : liesB h.ys wd = true
      · rw [if_pos h3] at e
        by_cases h4 : hauI h wd l < 0
        · refine ⟨h1, wndE_ok ?_, by omega, hauI_all h4⟩
          rw [wi_wnd h1, if_pos h3]
        · rw [if_neg h4] at e; omega
      · rw [if_neg h3] at e; omega
  · exact absurd ((if_neg h1).symm.trans e) h1
theorem lo_take (l : Bx) {i j : Nat} (h : j < i) : lo (l.take i) j = lo l j ∧ hi (l.take i) j = hi l j := by
  unfold lo hi
  rw [List.getElem?_take, if_pos h]
  exact ⟨rfl, rfl⟩
theorem runH_take {h : Hst} {wd : Int × Int} {l : Bx} {i : Nat} : ∀ {j : Nat}, j ≤ i → runH h wd (l.take i) j = runH h wd l j
  | 0, _ => rfl
  | j + 1, hj => by
    have h1 := runH_take (h := h) (wd := wd) (l := l) (i := i) (j := j) (by omega)
    have h2 := lo_take l (i := i) (j := j) (by omega)
    show (match runH h wd (l.take i) j with | none => none | some y => stepS h wd y.1 y.2 (lo (l.take i) j, hi (l.take i) j)) = (match runH h wd l j with | none => none | some y => stepS h wd y.1 y.2 (lo l j, hi l j))
    rw [h1, h2.1, h2.2]
end Go.Proofs.Ytgibbaadjbohdaa
