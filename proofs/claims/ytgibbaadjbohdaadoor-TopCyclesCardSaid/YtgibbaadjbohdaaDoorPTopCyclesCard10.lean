/- Texts of the law TopCyclesCard, part 10. No conditions. -/
import Derived.Test.YtgibbaadjbohdaaDoorPTopCyclesCard09
import Derived.Test.YtgibbaadjbohdaaDoorRows
set_option linter.unusedSimpArgs false
set_option linter.unusedVariables false
/- A step of a hoist: the program's. No conditions. -/
namespace Go.Proofs.YtgibbaadjbohdaaDoor
open Go.RowKit Lift

theorem do_none {h : Hst} {wd : Int × Int} {k : Hng} {t : Bool} {x : Int × Int} (e : stepS h wd k t x = none) : doK h wd k t x = ⟨k.len, k.wt, k.since + 1, k.cyc, k.cut⟩ ∧ doT h wd k t x = t ∧ doB h wd k t x = false := by
  unfold doK doT doB; rw [e]; exact ⟨rfl, rfl, rfl⟩
theorem do_some {h : Hst} {wd : Int × Int} {k k' : Hng} {t t' : Bool} {x : Int × Int} (e : stepS h wd k t x = some (k', t')) : doK h wd k t x = k' ∧ doT h wd k t x = t' ∧ doB h wd k t x = true := by
  unfold doK doT doB; rw [e]; exact ⟨rfl, rfl, rfl⟩
set_option maxRecDepth 100000 in
set_option maxHeartbeats 1000000 in
theorem do_cut_ac (h : Hst) (wd : Int × Int) (len wt si cy kd n : Int) (t : Bool) (i : Int) (hO : HoOk h) (hc : h.cable ≤ 100) (ho0 : HgOk h ⟨len, wt, si, cy, true⟩ i) (hi : i ≤ 100)  :
    AC Tryd.prog 12 [.ptr 48 0, spD (kd, n)] [(48, wiC h wd ⟨len, wt, si, cy, true⟩ t)] [(48, some (wiC h wd (doK h wd ⟨len, wt, si, cy, true⟩ t (kd, n)) (doT h wd ⟨len, wt, si, cy, true⟩ t (kd, n))))] (dB (doB h wd ⟨len, wt, si, cy, true⟩ t (kd, n))) := by
  have q1 : 0 ≤ len := ho0.l1
  have q2 : len ≤ h.cable := ho0.l2
  have q3 : 0 ≤ wt := ho0.w1
  have q4 : wt ≤ 100000 := ho0.w2
  have q5 : 0 ≤ si := ho0.s1
  have q6 : si ≤ i := ho0.s2
  have q7 : 0 ≤ cy := ho0.c1
  have q8 : cy ≤ i := ho0.c2
  have e : stepS h wd ⟨len, wt, si, cy, true⟩ t (kd, n) = none := by
    unfold stepS; simp
  obtain ⟨z1, z2, z3⟩ := do_none e
  rw [z1, z2, z3]
  refine kpsling_winch_do.ac (n0 := 56) (by simp) ⟨.ptr _ _ (by omega), in_agg2 _ _ _, trivial⟩ ⟨⟨by omega, wiC_in _ _ _ _ _⟩, trivial⟩ rfl ?_
  unfold cpsling_winch_do wiC spD
  (repeat' (first | apply aw_seq | ((first | apply aw_skip | apply aw_exit); try simp only [thenQ, blockQ, if_true, if_false, Nat.reduceEqDiff, reduceCtorEq]) | apply aw_ret | apply aw_block | apply aw_condT rfl | apply aw_condF rfl | ((first | refine aw_region ?_ | refine ago_if (by omega) ?_ | skip); simp (disch := first | exact okY | omega) only [ZU, dI, dB, Nat.reduceAdd, Nat.reduceMul, AOpRun, aexec, D.isBot, Nat.reduceBEq, ↓eget_h, or_self, ↓reduceIte, D.cells, run1, isSh, abin, fits, Nat.reduceLeDiff, List.all, D.leaf, splice, List.take, List.drop, blockQ])))
  all_goals (refine end_q [] [(48, 48)] ?_ ?_ <;> repeat' (first | exact trivial | exact vr_val _ | exact vr_list _ | refine And.intro ⟨_, rfl, _, rfl, by decide, ?_⟩ ?_ | apply And.intro))
set_option maxRecDepth 100000 in
set_option maxHeartbeats 1000000 in
theorem do_o1f_ac (h : Hst) (wd : Int × Int) (len wt si cy kd n : Int) (t : Bool) (i : Int) (hO : HoOk h) (hc : h.cable ≤ 100) (ho0 : HgOk h ⟨len, wt, si, cy, false⟩ i) (hi : i ≤ 100) (hk : kd = 1) (c1 : wI n 1 h.cable = false) :
    AC Tryd.prog 12 [.ptr 48 0, spD (kd, n)] [(48, wiC h wd ⟨len, wt, si, cy, false⟩ t)] [(48, some (wiC h wd (doK h wd ⟨len, wt, si, cy, false⟩ t (kd, n)) (doT h wd ⟨len, wt, si, cy, false⟩ t (kd, n))))] (dB (doB h wd ⟨len, wt, si, cy, false⟩ t (kd, n))) := by
  subst hk
  have q1 : 0 ≤ len := ho0.l1
  have q2 : len ≤ h.cable := ho0.l2
  have q3 : 0 ≤ wt := ho0.w1
  have q4 : wt ≤ 100000 := ho0.w2
  have q5 : 0 ≤ si := ho0.s1
  have q6 : si ≤ i := ho0.s2
  have q7 : 0 ≤ cy := ho0.c1
  have q8 : cy ≤ i := ho0.c2
  have e : stepS h wd ⟨len, wt, si, cy, false⟩ t (1, n) = none := by
    unfold stepS; simp [c1]
  obtain ⟨z1, z2, z3⟩ := do_none e
  rw [z1, z2, z3]
  refine kpsling_winch_do.ac (n0 := 56) (by simp) ⟨.ptr _ _ (by omega), in_agg2 _ _ _, trivial⟩ ⟨⟨by omega, wiC_in _ _ _ _ _⟩, trivial⟩ rfl ?_
  unfold cpsling_winch_do wiC spD
  (repeat' (first | apply aw_seq | ((first | apply aw_skip | apply aw_exit); try simp only [thenQ, blockQ, if_true, if_false, Nat.reduceEqDiff, reduceCtorEq]) | apply aw_ret | apply aw_block | apply aw_condT rfl | apply aw_condF rfl | ((first | refine aw_region ?_ | refine acall0 (slwithin_ac _ _ _) ?_ | refine ago_if (by omega) ?_ | skip); simp (disch := first | exact okY | omega) only [ZU, dI, dB, Nat.reduceAdd, Nat.reduceMul, AOpRun, aexec, D.isBot, Nat.reduceBEq, ↓eget_h, or_self, ↓reduceIte, D.cells, run1, isSh, abin, fits, Nat.reduceLeDiff, List.all, D.leaf, splice, List.take, List.drop, ↓hget_h, c1, ARun_some, AG_ft, blockQ])))
  all_goals (refine end_q [] [(48, 48)] ?_ ?_ <;> repeat' (first | exact trivial | exact vr_val _ | exact vr_list _ | refine And.intro ⟨_, rfl, _, rfl, by decide, ?_⟩ ?_ | apply And.intro))
set_option maxRecDepth 100000 in
set_option maxHeartbeats 1000000 in
theorem do_o1o_ac (h : Hst) (wd : Int × Int) (len wt si cy kd n : Int) (t : Bool) (i : Int) (hO : HoOk h) (hc : h.cable ≤ 100) (ho0 : HgOk h ⟨len, wt, si, cy, false⟩ i) (hi : i ≤ 100) (hk : kd = 1) (c1 : wI n 1 h.cable = true) (ho : wI (len + n) 0 h.cable = true ∧ caB h wd (len + n, len + n) wt = true) :
    AC Tryd.prog 12 [.ptr 48 0, spD (kd, n)] [(48, wiC h wd ⟨len, wt, si, cy, false⟩ t)] [(48, some (wiC h wd (doK h wd ⟨len, wt, si, cy, false⟩ t (kd, n)) (doT h wd ⟨len, wt, si, cy, false⟩ t (kd, n))))] (dB (doB h wd ⟨len, wt, si, cy, false⟩ t (kd, n))) := by
  subst hk
  have q1 : 0 ≤ len := ho0.l1
  have q2 : len ≤ h.cable := ho0.l2
  have q3 : 0 ≤ wt := ho0.w1
  have q4 : wt ≤ 100000 := ho0.w2
  have q5 : 0 ≤ si := ho0.s1
  have q6 : si ≤ i := ho0.s2
  have q7 : 0 ≤ cy := ho0.c1
  have q8 : cy ≤ i := ho0.c2
  have e : stepS h wd ⟨len, wt, si, cy, false⟩ t (1, n) = some (⟨len + n, wt, si + 1, cy, false⟩, t) := by
    unfold stepS outS; simp [c1, ho.1, ho.2]
  obtain ⟨z1, z2, z3⟩ := do_some e
  rw [z1, z2, z3]
  have hn := wI_t c1
  have outO := outO_ac h wd ⟨len, wt, si + 1, cy, false⟩ t (n) hO ⟨q1, by simp only; omega⟩ ⟨by omega, by omega⟩ ho
  refine kpsling_winch_do.ac (n0 := 56) (by simp) ⟨.ptr _ _ (by omega), in_agg2 _ _ _, trivial⟩ ⟨⟨by omega, wiC_in _ _ _ _ _⟩, trivial⟩ rfl ?_
  unfold cpsling_winch_do wiC spD
  unfold wiC at outO
  (repeat' (first | apply aw_seq | ((first | apply aw_skip | apply aw_exit); try simp only [thenQ, blockQ, if_true, if_false, Nat.reduceEqDiff, reduceCtorEq]) | apply aw_ret | apply aw_block | apply aw_condT rfl | apply aw_condF rfl | ((first | refine aw_region ?_ | refine acall0 (slwithin_ac _ _ _) ?_ | refine acallB (outO) (by repeat' (first | exact trivial | exact rfl | refine And.intro ?_ ?_)) (by kernel_rfl) (by kernel_rfl) (by kernel_rfl) ?_ | refine ago_if (by omega) ?_ | skip); simp (disch := first | exact okY | omega) only [ZU, dI, dB, Nat.reduceAdd, Nat.reduceMul, AOpRun, aexec, D.isBot, Nat.reduceBEq, ↓eget_h, or_self, ↓reduceIte, D.cells, run1, isSh, abin, fits, Nat.reduceLeDiff, List.all, D.leaf, splice, List.take, List.drop, ↓hget_h, c1, ARun_some, AG_tt, blockQ])))
  all_goals (refine end_q [] [(48, 48)] ?_ ?_ <;> repeat' (first | exact trivial | exact vr_val _ | exact vr_list _ | refine And.intro ⟨_, rfl, _, rfl, by decide, ?_⟩ ?_ | apply And.intro))
set_option maxRecDepth 100000 in
set_option maxHeartbeats 1000000 in
theorem do_o1e_ac (h : Hst) (wd : Int × Int) (len wt si cy kd n : Int) (t : Bool) (i : Int) (hO : HoOk h) (hc : h.cable ≤ 100) (ho0 : HgOk h ⟨len, wt, si, cy, false⟩ i) (hi : i ≤ 100) (hk : kd = 1) (c1 : wI n 1 h.cable = true) (ho : ¬ (wI (len + n) 0 h.cable = true ∧ caB h wd (len + n, len + n) wt = true)) :
    AC Tryd.prog 12 [.ptr 48 0, spD (kd, n)] [(48, wiC h wd ⟨len, wt, si, cy, false⟩ t)] [(48, some (wiC h wd (doK h wd ⟨len, wt, si, cy, false⟩ t (kd, n)) (doT h wd ⟨len, wt, si, cy, false⟩ t (kd, n))))] (dB (doB h wd ⟨len, wt, si, cy, false⟩ t (kd, n))) := by
  subst hk
  have q1 : 0 ≤ len := ho0.l1
  have q2 : len ≤ h.cable := ho0.l2
  have q3 : 0 ≤ wt := ho0.w1
  have q4 : wt ≤ 100000 := ho0.w2
  have q5 : 0 ≤ si := ho0.s1
  have q6 : si ≤ i := ho0.s2
  have q7 : 0 ≤ cy := ho0.c1
  have q8 : cy ≤ i := ho0.c2
  have e : stepS h wd ⟨len, wt, si, cy, false⟩ t (1, n) = none := by
    unfold stepS outS; simp [c1]; intro a; exact Bool.eq_false_iff.2 fun b => ho ⟨a, b⟩
  obtain ⟨z1, z2, z3⟩ := do_none e
  rw [z1, z2, z3]
  have hn := wI_t c1
  have outE := outE_ac h wd ⟨len, wt, si + 1, cy, false⟩ t (n) hO ⟨q1, by simp only; omega⟩ ⟨by omega, by omega⟩ ho
  refine kpsling_winch_do.ac (n0 := 56) (by simp) ⟨.ptr _ _ (by omega), in_agg2 _ _ _, trivial⟩ ⟨⟨by omega, wiC_in _ _ _ _ _⟩, trivial⟩ rfl ?_
  unfold cpsling_winch_do wiC spD
  unfold wiC at outE
  (repeat' (first | apply aw_seq | ((first | apply aw_skip | apply aw_exit); try simp only [thenQ, blockQ, if_true, if_false, Nat.reduceEqDiff, reduceCtorEq]) | apply aw_ret | apply aw_block | apply aw_condT rfl | apply aw_condF rfl | ((first | refine aw_region ?_ | refine acall0 (slwithin_ac _ _ _) ?_ | refine acallB (outE) (by repeat' (first | exact trivial | exact rfl | refine And.intro ?_ ?_)) (by kernel_rfl) (by kernel_rfl) (by kernel_rfl) ?_ | refine ago_if (by omega) ?_ | skip); simp (disch := first | exact okY | omega) only [ZU, dI, dB, Nat.reduceAdd, Nat.reduceMul, AOpRun, aexec, D.isBot, Nat.reduceBEq, ↓eget_h, or_self, ↓reduceIte, D.cells, run1, isSh, abin, fits, Nat.reduceLeDiff, List.all, D.leaf, splice, List.take, List.drop, ↓hget_h, c1, ARun_some, AG_tt, blockQ])))
  all_goals (refine end_q [] [(48, 48)] ?_ ?_ <;> repeat' (first | exact trivial | exact vr_val _ | exact vr_list _ | refine And.intro ⟨_, rfl, _, rfl, by decide, ?_⟩ ?_ | apply And.intro))
set_option maxRecDepth 100000 in
set_option maxHeartbeats 1000000 in
theorem do_o2f_ac (h : Hst) (wd : Int × Int) (len wt si cy kd n : Int) (t : Bool) (i : Int) (hO : HoOk h) (hc : h.cable ≤ 100) (ho0 : HgOk h ⟨len, wt, si, cy, false⟩ i) (hi : i ≤ 100) (hk : kd = 2) (c1 : wI n 1 h.cable = false) :
    AC Tryd.prog 12 [.ptr 48 0, spD (kd, n)] [(48, wiC h wd ⟨len, wt, si, cy, false⟩ t)] [(48, some (wiC h wd (doK h wd ⟨len, wt, si, cy, false⟩ t (kd, n)) (doT h wd ⟨len, wt, si, cy, false⟩ t (kd, n))))] (dB (doB h wd ⟨len, wt, si, cy, false⟩ t (kd, n))) := by
  subst hk
  have q1 : 0 ≤ len := ho0.l1
  have q2 : len ≤ h.cable := ho0.l2
  have q3 : 0 ≤ wt := ho0.w1
  have q4 : wt ≤ 100000 := ho0.w2
  have q5 : 0 ≤ si := ho0.s1
  have q6 : si ≤ i := ho0.s2
  have q7 : 0 ≤ cy := ho0.c1
  have q8 : cy ≤ i := ho0.c2
  have e : stepS h wd ⟨len, wt, si, cy, false⟩ t (2, n) = none := by
    unfold stepS; simp [c1]
  obtain ⟨z1, z2, z3⟩ := do_none e
  rw [z1, z2, z3]
  refine kpsling_winch_do.ac (n0 := 56) (by simp) ⟨.ptr _ _ (by omega), in_agg2 _ _ _, trivial⟩ ⟨⟨by omega, wiC_in _ _ _ _ _⟩, trivial⟩ rfl ?_
  unfold cpsling_winch_do wiC spD
  (repeat' (first | apply aw_seq | ((first | apply aw_skip | apply aw_exit); try simp only [thenQ, blockQ, if_true, if_false, Nat.reduceEqDiff, reduceCtorEq]) | apply aw_ret | apply aw_block | apply aw_condT rfl | apply aw_condF rfl | ((first | refine aw_region ?_ | refine acall0 (slwithin_ac _ _ _) ?_ | refine ago_if (by omega) ?_ | skip); simp (disch := first | exact okY | omega) only [ZU, dI, dB, Nat.reduceAdd, Nat.reduceMul, AOpRun, aexec, D.isBot, Nat.reduceBEq, ↓eget_h, or_self, ↓reduceIte, D.cells, run1, isSh, abin, fits, Nat.reduceLeDiff, List.all, D.leaf, splice, List.take, List.drop, ↓hget_h, Int.reduceBEq, c1, ARun_some, AG_ft, blockQ])))
  all_goals (refine end_q [] [(48, 48)] ?_ ?_ <;> repeat' (first | exact trivial | exact vr_val _ | exact vr_list _ | refine And.intro ⟨_, rfl, _, rfl, by decide, ?_⟩ ?_ | apply And.intro))
set_option maxRecDepth 100000 in
set_option maxHeartbeats 1000000 in
theorem do_o2o_ac (h : Hst) (wd : Int × Int) (len wt si cy kd n : Int) (t : Bool) (i : Int) (hO : HoOk h) (hc : h.cable ≤ 100) (ho0 : HgOk h ⟨len, wt, si, cy, false⟩ i) (hi : i ≤ 100) (hk : kd = 2) (c1 : wI n 1 h.cable = true) (ho : wI (len + -n) 0 h.cable = true ∧ caB h wd (len + -n, len + -n) wt = true) :
    AC Tryd.prog 12 [.ptr 48 0, spD (kd, n)] [(48, wiC h wd ⟨len, wt, si, cy, false⟩ t)] [(48, some (wiC h wd (doK h wd ⟨len, wt, si, cy, false⟩ t (kd, n)) (doT h wd ⟨len, wt, si, cy, false⟩ t (kd, n))))] (dB (doB h wd ⟨len, wt, si, cy, false⟩ t (kd, n))) := by
  subst hk
  have q1 : 0 ≤ len := ho0.l1
  have q2 : len ≤ h.cable := ho0.l2
  have q3 : 0 ≤ wt := ho0.w1
  have q4 : wt ≤ 100000 := ho0.w2
  have q5 : 0 ≤ si := ho0.s1
  have q6 : si ≤ i := ho0.s2
  have q7 : 0 ≤ cy := ho0.c1
  have q8 : cy ≤ i := ho0.c2
  have e : stepS h wd ⟨len, wt, si, cy, false⟩ t (2, n) = some (⟨len + -n, wt, si + 1, cy, false⟩, t) := by
    unfold stepS outS; simp [c1, ho.1, ho.2]
  obtain ⟨z1, z2, z3⟩ := do_some e
  rw [z1, z2, z3]
  have hn := wI_t c1
  have outO := outO_ac h wd ⟨len, wt, si + 1, cy, false⟩ t (-n) hO ⟨q1, by simp only; omega⟩ ⟨by omega, by omega⟩ ho
  refine kpsling_winch_do.ac (n0 := 56) (by simp) ⟨.ptr _ _ (by omega), in_agg2 _ _ _, trivial⟩ ⟨⟨by omega, wiC_in _ _ _ _ _⟩, trivial⟩ rfl ?_
  unfold cpsling_winch_do wiC spD
  unfold wiC at outO
  (repeat' (first | apply aw_seq | ((first | apply aw_skip | apply aw_exit); try simp only [thenQ, blockQ, if_true, if_false, Nat.reduceEqDiff, reduceCtorEq]) | apply aw_ret | apply aw_block | apply aw_condT rfl | apply aw_condF rfl | ((first | refine aw_region ?_ | refine acall0 (slwithin_ac _ _ _) ?_ | refine acallB (outO) (by repeat' (first | exact trivial | exact rfl | refine And.intro ?_ ?_)) (by kernel_rfl) (by kernel_rfl) (by kernel_rfl) ?_ | refine ago_if (by omega) ?_ | skip); simp (disch := first | exact okY | omega) only [ZU, dI, dB, Nat.reduceAdd, Nat.reduceMul, AOpRun, aexec, D.isBot, Nat.reduceBEq, ↓eget_h, or_self, ↓reduceIte, D.cells, run1, isSh, abin, fits, Nat.reduceLeDiff, List.all, D.leaf, splice, List.take, List.drop, ↓hget_h, Int.reduceBEq, c1, ARun_some, AG_tt, Int.zero_sub, blockQ])))
  all_goals (refine end_q [] [(48, 48)] ?_ ?_ <;> repeat' (first | exact trivial | exact vr_val _ | exact vr_list _ | refine And.intro ⟨_, rfl, _, rfl, by decide, ?_⟩ ?_ | apply And.intro))
set_option maxRecDepth 100000 in
set_option maxHeartbeats 1000000 in
theorem do_o2e_ac (h : Hst) (wd : Int × Int) (len wt si cy kd n : Int) (t : Bool) (i : Int) (hO : HoOk h) (hc : h.cable ≤ 100) (ho0 : HgOk h ⟨len, wt, si, cy, false⟩ i) (hi : i ≤ 100) (hk : kd = 2) (c1 : wI n 1 h.cable = true) (ho : ¬ (wI (len + -n) 0 h.cable = true ∧ caB h wd (len + -n, len + -n) wt = true)) :
    AC Tryd.prog 12 [.ptr 48 0, spD (kd, n)] [(48, wiC h wd ⟨len, wt, si, cy, false⟩ t)] [(48, some (wiC h wd (doK h wd ⟨len, wt, si, cy, false⟩ t (kd, n)) (doT h wd ⟨len, wt, si, cy, false⟩ t (kd, n))))] (dB (doB h wd ⟨len, wt, si, cy, false⟩ t (kd, n))) := by
  subst hk
  have q1 : 0 ≤ len := ho0.l1
  have q2 : len ≤ h.cable := ho0.l2
  have q3 : 0 ≤ wt := ho0.w1
  have q4 : wt ≤ 100000 := ho0.w2
  have q5 : 0 ≤ si := ho0.s1
  have q6 : si ≤ i := ho0.s2
  have q7 : 0 ≤ cy := ho0.c1
  have q8 : cy ≤ i := ho0.c2
  have e : stepS h wd ⟨len, wt, si, cy, false⟩ t (2, n) = none := by
    unfold stepS outS; simp [c1]; intro a; exact Bool.eq_false_iff.2 fun b => ho ⟨a, b⟩
  obtain ⟨z1, z2, z3⟩ := do_none e
  rw [z1, z2, z3]
  have hn := wI_t c1
  have outE := outE_ac h wd ⟨len, wt, si + 1, cy, false⟩ t (-n) hO ⟨q1, by simp only; omega⟩ ⟨by omega, by omega⟩ ho
  refine kpsling_winch_do.ac (n0 := 56) (by simp) ⟨.ptr _ _ (by omega), in_agg2 _ _ _, trivial⟩ ⟨⟨by omega, wiC_in _ _ _ _ _⟩, trivial⟩ rfl ?_
  unfold cpsling_winch_do wiC spD
  unfold wiC at outE
  (repeat' (first | apply aw_seq | ((first | apply aw_skip | apply aw_exit); try simp only [thenQ, blockQ, if_true, if_false, Nat.reduceEqDiff, reduceCtorEq]) | apply aw_ret | apply aw_block | apply aw_condT rfl | apply aw_condF rfl | ((first | refine aw_region ?_ | refine acall0 (slwithin_ac _ _ _) ?_ | refine acallB (outE) (by repeat' (first | exact trivial | exact rfl | refine And.intro ?_ ?_)) (by kernel_rfl) (by kernel_rfl) (by kernel_rfl) ?_ | refine ago_if (by omega) ?_ | skip); simp (disch := first | exact okY | omega) only [ZU, dI, dB, Nat.reduceAdd, Nat.reduceMul, AOpRun, aexec, D.isBot, Nat.reduceBEq, ↓eget_h, or_self, ↓reduceIte, D.cells, run1, isSh, abin, fits, Nat.reduceLeDiff, List.all, D.leaf, splice, List.take, List.drop, ↓hget_h, Int.reduceBEq, c1, ARun_some, AG_tt, Int.zero_sub, blockQ])))
  all_goals (refine end_q [] [(48, 48)] ?_ ?_ <;> repeat' (first | exact trivial | exact vr_val _ | exact vr_list _ | refine And.intro ⟨_, rfl, _, rfl, by decide, ?_⟩ ?_ | apply And.intro))
set_option maxRecDepth 100000 in
set_option maxHeartbeats 1000000 in
theorem do_h1_ac (h : Hst) (wd : Int × Int) (len wt si cy kd n : Int) (t : Bool) (i : Int) (hO : HoOk h) (hc : h.cable ≤ 100) (ho0 : HgOk h ⟨len, wt, si, cy, false⟩ i) (hi : i ≤ 100) (hk : kd = 4) (c1 : 0 < wt) :
    AC Tryd.prog 12 [.ptr 48 0, spD (kd, n)] [(48, wiC h wd ⟨len, wt, si, cy, false⟩ t)] [(48, some (wiC h wd (doK h wd ⟨len, wt, si, cy, false⟩ t (kd, n)) (doT h wd ⟨len, wt, si, cy, false⟩ t (kd, n))))] (dB (doB h wd ⟨len, wt, si, cy, false⟩ t (kd, n))) := by
  subst hk
  have q1 : 0 ≤ len := ho0.l1
  have q2 : len ≤ h.cable := ho0.l2
  have q3 : 0 ≤ wt := ho0.w1
  have q4 : wt ≤ 100000 := ho0.w2
  have q5 : 0 ≤ si := ho0.s1
  have q6 : si ≤ i := ho0.s2
  have q7 : 0 ≤ cy := ho0.c1
  have q8 : cy ≤ i := ho0.c2
  have e : stepS h wd ⟨len, wt, si, cy, false⟩ t (4, n) = none := by
    unfold stepS; simp; omega
  obtain ⟨z1, z2, z3⟩ := do_none e
  rw [z1, z2, z3]
  refine kpsling_winch_do.ac (n0 := 56) (by simp) ⟨.ptr _ _ (by omega), in_agg2 _ _ _, trivial⟩ ⟨⟨by omega, wiC_in _ _ _ _ _⟩, trivial⟩ rfl ?_
  unfold cpsling_winch_do wiC spD
  (have hg : (987654321 : Nat) - 987654321 = 0 := rfl; have hr := hg; repeat' (first | apply aw_seq | ((first | apply aw_skip | apply aw_exit); try simp only [thenQ, blockQ, if_true, if_false, Nat.reduceEqDiff, reduceCtorEq]) | apply aw_ret | apply aw_block | apply aw_condT rfl | apply aw_condF rfl | (refine ag_bool (fun hg => ?_) (fun hg => ?_) <;> (try (have hq := hg; simp only [Bool.not_eq_true', Bool.not_eq_false', Bool.and_eq_true, Bool.and_eq_false_iff, Bool.or_eq_true, Bool.or_eq_false_iff, decide_eq_true_eq, decide_eq_false_iff_not, bne_iff_ne, beq_iff_eq, beq_eq_false_iff_ne, bne_eq_false_iff_eq, ne_eq, Int.not_lt, Int.not_le, Decidable.not_not] at hq)) <;> (try (have hr := hg; simp only [decide_eq_true_eq, decide_eq_false_iff_not] at hr)) <;> (try (exfalso; omega)) <;> simp (disch := first | exact okY | omega) only [ZU, hr, AG_tf, Nat.reduceAdd, Nat.reduceBEq, ARun_some, ↓eget_h, AOpRun, aexec, ↓reduceIte]) | ((first | refine aw_region ?_ | refine ago_if (by omega) ?_ | skip); simp (disch := first | exact okY | omega) only [ZU, dI, dB, Nat.reduceAdd, Nat.reduceMul, AOpRun, aexec, D.isBot, Nat.reduceBEq, ↓eget_h, or_self, ↓reduceIte, D.cells, run1, isSh, abin, fits, Nat.reduceLeDiff, List.all, D.leaf, splice, List.take, List.drop, ↓hget_h, Int.reduceBEq, ARun_some, blockQ])))
  all_goals (refine end_q [] [(48, 48)] ?_ ?_ <;> repeat' (first | exact trivial | exact vr_val _ | exact vr_list _ | refine And.intro ⟨_, rfl, _, rfl, by decide, ?_⟩ ?_ | apply And.intro))
set_option maxRecDepth 100000 in
set_option maxHeartbeats 1000000 in
theorem do_h2_ac (h : Hst) (wd : Int × Int) (len wt si cy kd n : Int) (t : Bool) (i : Int) (hO : HoOk h) (hc : h.cable ≤ 100) (ho0 : HgOk h ⟨len, wt, si, cy, false⟩ i) (hi : i ≤ 100) (hk : kd = 4) (c1 : wt ≤ 0) (c2 : len = 0) :
    AC Tryd.prog 12 [.ptr 48 0, spD (kd, n)] [(48, wiC h wd ⟨len, wt, si, cy, false⟩ t)] [(48, some (wiC h wd (doK h wd ⟨len, wt, si, cy, false⟩ t (kd, n)) (doT h wd ⟨len, wt, si, cy, false⟩ t (kd, n))))] (dB (doB h wd ⟨len, wt, si, cy, false⟩ t (kd, n))) := by
  subst hk
  have q1 : 0 ≤ len := ho0.l1
  have q2 : len ≤ h.cable := ho0.l2
  have q3 : 0 ≤ wt := ho0.w1
  have q4 : wt ≤ 100000 := ho0.w2
  have q5 : 0 ≤ si := ho0.s1
  have q6 : si ≤ i := ho0.s2
  have q7 : 0 ≤ cy := ho0.c1
  have q8 : cy ≤ i := ho0.c2
  have e : stepS h wd ⟨len, wt, si, cy, false⟩ t (4, n) = none := by
    unfold stepS; simp [c2]
  obtain ⟨z1, z2, z3⟩ := do_none e
  rw [z1, z2, z3]
  refine kpsling_winch_do.ac (n0 := 56) (by simp) ⟨.ptr _ _ (by omega), in_agg2 _ _ _, trivial⟩ ⟨⟨by omega, wiC_in _ _ _ _ _⟩, trivial⟩ rfl ?_
  unfold cpsling_winch_do wiC spD
  (have hg : (987654321 : Nat) - 987654321 = 0 := rfl; have hr := hg; repeat' (first | apply aw_seq | ((first | apply aw_skip | apply aw_exit); try simp only [thenQ, blockQ, if_true, if_false, Nat.reduceEqDiff, reduceCtorEq]) | apply aw_ret | apply aw_block | apply aw_condT rfl | apply aw_condF rfl | (refine ag_bool (fun hg => ?_) (fun hg => ?_) <;> (try (have hq := hg; simp only [Bool.not_eq_true', Bool.not_eq_false', Bool.and_eq_true, Bool.and_eq_false_iff, Bool.or_eq_true, Bool.or_eq_false_iff, decide_eq_true_eq, decide_eq_false_iff_not, bne_iff_ne, beq_iff_eq, beq_eq_false_iff_ne, bne_eq_false_iff_eq, ne_eq, Int.not_lt, Int.not_le, Decidable.not_not] at hq)) <;> (try (have hr := hg; simp only [decide_eq_true_eq, decide_eq_false_iff_not] at hr)) <;> (try (exfalso; omega)) <;> simp (disch := first | exact okY | omega) only [ZU, hr, decide_false, AG_ff, AOpRun, aexec, ↓eget_h, Nat.reduceAdd, Nat.reduceBEq, ARun_some, run1, isSh, ↓reduceIte, abin, hg, AG_tf]) | ((first | refine aw_region ?_ | refine ago_if (by omega) ?_ | skip); simp (disch := first | exact okY | omega) only [ZU, dI, dB, Nat.reduceAdd, Nat.reduceMul, AOpRun, aexec, D.isBot, Nat.reduceBEq, ↓eget_h, or_self, ↓reduceIte, D.cells, run1, isSh, abin, fits, Nat.reduceLeDiff, List.all, D.leaf, splice, List.take, List.drop, ↓hget_h, Int.reduceBEq, ARun_some, blockQ])))
  all_goals (refine end_q [] [(48, 48)] ?_ ?_ <;> repeat' (first | exact trivial | exact vr_val _ | exact vr_list _ | refine And.intro ⟨_, rfl, _, rfl, by decide, ?_⟩ ?_ | apply And.intro))
set_option maxRecDepth 100000 in
set_option maxHeartbeats 1000000 in
theorem do_h3_ac (h : Hst) (wd : Int × Int) (len wt si cy kd n : Int) (t : Bool) (i : Int) (hO : HoOk h) (hc : h.cable ≤ 100) (ho0 : HgOk h ⟨len, wt, si, cy, false⟩ i) (hi : i ≤ 100) (hk : kd = 4) (c1 : wt ≤ 0) (c2 : len ≠ 0) (c3 : t = false) :
    AC Tryd.prog 12 [.ptr 48 0, spD (kd, n)] [(48, wiC h wd ⟨len, wt, si, cy, false⟩ t)] [(48, some (wiC h wd (doK h wd ⟨len, wt, si, cy, false⟩ t (kd, n)) (doT h wd ⟨len, wt, si, cy, false⟩ t (kd, n))))] (dB (doB h wd ⟨len, wt, si, cy, false⟩ t (kd, n))) := by
  subst hk
  subst c3
  have q1 : 0 ≤ len := ho0.l1
  have q2 : len ≤ h.cable := ho0.l2
  have q3 : 0 ≤ wt := ho0.w1
  have q4 : wt ≤ 100000 := ho0.w2
  have q5 : 0 ≤ si := ho0.s1
  have q6 : si ≤ i := ho0.s2
  have q7 : 0 ≤ cy := ho0.c1
  have q8 : cy ≤ i := ho0.c2
  have e : stepS h wd ⟨len, wt, si, cy, false⟩ false (4, n) = none := by
    unfold stepS; simp
  obtain ⟨z1, z2, z3⟩ := do_none e
  rw [z1, z2, z3]
  refine kpsling_winch_do.ac (n0 := 56) (by simp) ⟨.ptr _ _ (by omega), in_agg2 _ _ _, trivial⟩ ⟨⟨by omega, wiC_in _ _ _ _ _⟩, trivial⟩ rfl ?_
  unfold cpsling_winch_do wiC spD
  (have hg : (987654321 : Nat) - 987654321 = 0 := rfl; have hr := hg; repeat' (first | apply aw_seq | ((first | apply aw_skip | apply aw_exit); try simp only [thenQ, blockQ, if_true, if_false, Nat.reduceEqDiff, reduceCtorEq]) | apply aw_ret | apply aw_block | apply aw_condT rfl | apply aw_condF rfl | (refine ag_bool (fun hg => ?_) (fun hg => ?_) <;> (try (have hq := hg; simp only [Bool.not_eq_true', Bool.not_eq_false', Bool.and_eq_true, Bool.and_eq_false_iff, Bool.or_eq_true, Bool.or_eq_false_iff, decide_eq_true_eq, decide_eq_false_iff_not, bne_iff_ne, beq_iff_eq, beq_eq_false_iff_ne, bne_eq_false_iff_eq, ne_eq, Int.not_lt, Int.not_le, Decidable.not_not] at hq)) <;> (try (have hr := hg; simp only [decide_eq_true_eq, decide_eq_false_iff_not] at hr)) <;> (try (exfalso; omega)) <;> simp (disch := first | exact okY | omega) only [ZU, hr, decide_false, AG_ff, AOpRun, aexec, ↓eget_h, Nat.reduceAdd, Nat.reduceBEq, ARun_some, run1, isSh, ↓reduceIte, abin, hg, AG_tf]) | ((first | refine aw_region ?_ | refine ago_if (by omega) ?_ | skip); simp (disch := first | exact okY | omega) only [ZU, dI, dB, Nat.reduceAdd, Nat.reduceMul, AOpRun, aexec, D.isBot, Nat.reduceBEq, ↓eget_h, or_self, ↓reduceIte, D.cells, run1, isSh, abin, fits, Nat.reduceLeDiff, List.all, D.leaf, splice, List.take, List.drop, ↓hget_h, Int.reduceBEq, ARun_some, blockQ])))
  all_goals (refine end_q [] [(48, 48)] ?_ ?_ <;> repeat' (first | exact trivial | exact vr_val _ | exact vr_list _ | refine And.intro ⟨_, rfl, _, rfl, by decide, ?_⟩ ?_ | apply And.intro))
set_option maxRecDepth 100000 in
set_option maxHeartbeats 1000000 in
theorem do_h4_ac (h : Hst) (wd : Int × Int) (len wt si cy kd n : Int) (t : Bool) (i : Int) (hO : HoOk h) (hc : h.cable ≤ 100) (ho0 : HgOk h ⟨len, wt, si, cy, false⟩ i) (hi : i ≤ 100) (hk : kd = 4) (c1 : wt ≤ 0) (c2 : len ≠ 0) (c3 : t = true) (c4 : h.charge < si + 1) :
    AC Tryd.prog 12 [.ptr 48 0, spD (kd, n)] [(48, wiC h wd ⟨len, wt, si, cy, false⟩ t)] [(48, some (wiC h wd (doK h wd ⟨len, wt, si, cy, false⟩ t (kd, n)) (doT h wd ⟨len, wt, si, cy, false⟩ t (kd, n))))] (dB (doB h wd ⟨len, wt, si, cy, false⟩ t (kd, n))) := by
  subst hk
  subst c3
  have q1 : 0 ≤ len := ho0.l1
  have q2 : len ≤ h.cable := ho0.l2
  have q3 : 0 ≤ wt := ho0.w1
  have q4 : wt ≤ 100000 := ho0.w2
  have q5 : 0 ≤ si := ho0.s1
  have q6 : si ≤ i := ho0.s2
  have q7 : 0 ≤ cy := ho0.c1
  have q8 : cy ≤ i := ho0.c2
  have e : stepS h wd ⟨len, wt, si, cy, false⟩ true (4, n) = none := by
    unfold stepS; simp; omega
  obtain ⟨z1, z2, z3⟩ := do_none e
  rw [z1, z2, z3]
  refine kpsling_winch_do.ac (n0 := 56) (by simp) ⟨.ptr _ _ (by omega), in_agg2 _ _ _, trivial⟩ ⟨⟨by omega, wiC_in _ _ _ _ _⟩, trivial⟩ rfl ?_
  unfold cpsling_winch_do wiC spD
  (have hg : (987654321 : Nat) - 987654321 = 0 := rfl; have hr := hg; repeat' (first | apply aw_seq | ((first | apply aw_skip | apply aw_exit); try simp only [thenQ, blockQ, if_true, if_false, Nat.reduceEqDiff, reduceCtorEq]) | apply aw_ret | apply aw_block | apply aw_condT rfl | apply aw_condF rfl | (refine ag_bool (fun hg => ?_) (fun hg => ?_) <;> (try (have hq := hg; simp only [Bool.not_eq_true', Bool.not_eq_false', Bool.and_eq_true, Bool.and_eq_false_iff, Bool.or_eq_true, Bool.or_eq_false_iff, decide_eq_true_eq, decide_eq_false_iff_not, bne_iff_ne, beq_iff_eq, beq_eq_false_iff_ne, bne_eq_false_iff_eq, ne_eq, Int.not_lt, Int.not_le, Decidable.not_not] at hq)) <;> (try (have hr := hg; simp only [decide_eq_true_eq, decide_eq_false_iff_not] at hr)) <;> (try (exfalso; omega)) <;> simp (disch := first | exact okY | omega) only [ZU, hr, decide_false, AG_ff, AOpRun, aexec, ↓eget_h, Nat.reduceAdd, Nat.reduceBEq, ARun_some, run1, isSh, ↓reduceIte, abin, hg, AG_tf]) | ((first | refine aw_region ?_ | refine ago_if (by omega) ?_ | skip); simp (disch := first | exact okY | omega) only [ZU, dI, dB, Nat.reduceAdd, Nat.reduceMul, AOpRun, aexec, D.isBot, Nat.reduceBEq, ↓eget_h, or_self, ↓reduceIte, D.cells, run1, isSh, abin, fits, Nat.reduceLeDiff, List.all, D.leaf, splice, List.take, List.drop, ↓hget_h, Int.reduceBEq, ARun_some, blockQ])))
  all_goals (refine end_q [] [(48, 48)] ?_ ?_ <;> repeat' (first | exact trivial | exact vr_val _ | exact vr_list _ | refine And.intro ⟨_, rfl, _, rfl, by decide, ?_⟩ ?_ | apply And.intro))
set_option maxRecDepth 100000 in
set_option maxHeartbeats 1000000 in
theorem do_h5_ac (h : Hst) (wd : Int × Int) (len wt si cy kd n : Int) (t : Bool) (i : Int) (hO : HoOk h) (hc : h.cable ≤ 100) (ho0 : HgOk h ⟨len, wt, si, cy, false⟩ i) (hi : i ≤ 100) (hk : kd = 4) (c1 : wt ≤ 0) (c2 : len ≠ 0) (c3 : t = true) (c4 : si + 1 ≤ h.charge) (c5 : wI n 1 100000 = false) :
    AC Tryd.prog 12 [.ptr 48 0, spD (kd, n)] [(48, wiC h wd ⟨len, wt, si, cy, false⟩ t)] [(48, some (wiC h wd (doK h wd ⟨len, wt, si, cy, false⟩ t (kd, n)) (doT h wd ⟨len, wt, si, cy, false⟩ t (kd, n))))] (dB (doB h wd ⟨len, wt, si, cy, false⟩ t (kd, n))) := by
  subst hk
  subst c3
  have q1 : 0 ≤ len := ho0.l1
  have q2 : len ≤ h.cable := ho0.l2
  have q3 : 0 ≤ wt := ho0.w1
  have q4 : wt ≤ 100000 := ho0.w2
  have q5 : 0 ≤ si := ho0.s1
  have q6 : si ≤ i := ho0.s2
  have q7 : 0 ≤ cy := ho0.c1
  have q8 : cy ≤ i := ho0.c2
  have e : stepS h wd ⟨len, wt, si, cy, false⟩ true (4, n) = none := by
    unfold stepS; simp [c5]
  obtain ⟨z1, z2, z3⟩ := do_none e
  rw [z1, z2, z3]
  refine kpsling_winch_do.ac (n0 := 56) (by simp) ⟨.ptr _ _ (by omega), in_agg2 _ _ _, trivial⟩ ⟨⟨by omega, wiC_in _ _ _ _ _⟩, trivial⟩ rfl ?_
  unfold cpsling_winch_do wiC spD
  (have hg : (987654321 : Nat) - 987654321 = 0 := rfl; have hr := hg; repeat' (first | apply aw_seq | ((first | apply aw_skip | apply aw_exit); try simp only [thenQ, blockQ, if_true, if_false, Nat.reduceEqDiff, reduceCtorEq]) | apply aw_ret | apply aw_block | apply aw_condT rfl | apply aw_condF rfl | (refine ag_bool (fun hg => ?_) (fun hg => ?_) <;> (try (have hq := hg; simp only [Bool.not_eq_true', Bool.not_eq_false', Bool.and_eq_true, Bool.and_eq_false_iff, Bool.or_eq_true, Bool.or_eq_false_iff, decide_eq_true_eq, decide_eq_false_iff_not, bne_iff_ne, beq_iff_eq, beq_eq_false_iff_ne, bne_eq_false_iff_eq, ne_eq, Int.not_lt, Int.not_le, Decidable.not_not] at hq)) <;> (try (have hr := hg; simp only [decide_eq_true_eq, decide_eq_false_iff_not] at hr)) <;> (try (exfalso; omega)) <;> simp (disch := first | exact okY | omega) only [ZU, hr, decide_false, AG_ff, AOpRun, aexec, ↓eget_h, Nat.reduceAdd, Nat.reduceBEq, ARun_some, run1, isSh, ↓reduceIte, abin, hg, ↓hget_h]) | ((first | refine aw_region ?_ | refine acall0 (slwithin_ac _ _ _) ?_ | refine ago_if (by omega) ?_ | skip); simp (disch := first | exact okY | omega) only [ZU, dI, dB, Nat.reduceAdd, Nat.reduceMul, AOpRun, aexec, D.isBot, Nat.reduceBEq, ↓eget_h, or_self, ↓reduceIte, D.cells, run1, isSh, abin, fits, Nat.reduceLeDiff, List.all, D.leaf, splice, List.take, List.drop, ↓hget_h, Int.reduceBEq, ARun_some, c5, AG_ff, AG_tf, blockQ])))
  all_goals (refine end_q [] [(48, 48)] ?_ ?_ <;> repeat' (first | exact trivial | exact vr_val _ | exact vr_list _ | refine And.intro ⟨_, rfl, _, rfl, by decide, ?_⟩ ?_ | apply And.intro))
set_option maxRecDepth 100000 in
set_option maxHeartbeats 1000000 in
theorem do_h6_ac (h : Hst) (wd : Int × Int) (len wt si cy kd n : Int) (t : Bool) (i : Int) (hO : HoOk h) (hc : h.cable ≤ 100) (ho0 : HgOk h ⟨len, wt, si, cy, false⟩ i) (hi : i ≤ 100) (hk : kd = 4) (c1 : wt ≤ 0) (c2 : len ≠ 0) (c3 : t = true) (c4 : si + 1 ≤ h.charge) (c5 : wI n 1 100000 = true) (c6 : caB h wd (len, len) n = false) :
    AC Tryd.prog 12 [.ptr 48 0, spD (kd, n)] [(48, wiC h wd ⟨len, wt, si, cy, false⟩ t)] [(48, some (wiC h wd (doK h wd ⟨len, wt, si, cy, false⟩ t (kd, n)) (doT h wd ⟨len, wt, si, cy, false⟩ t (kd, n))))] (dB (doB h wd ⟨len, wt, si, cy, false⟩ t (kd, n))) := by
  subst hk
  subst c3
  have q1 : 0 ≤ len := ho0.l1
  have q2 : len ≤ h.cable := ho0.l2
  have q3 : 0 ≤ wt := ho0.w1
  have q4 : wt ≤ 100000 := ho0.w2
  have q5 : 0 ≤ si := ho0.s1
  have q6 : si ≤ i := ho0.s2
  have q7 : 0 ≤ cy := ho0.c1
  have q8 : cy ≤ i := ho0.c2
  have e : stepS h wd ⟨len, wt, si, cy, false⟩ true (4, n) = none := by
    unfold stepS; simp [c6]
  obtain ⟨z1, z2, z3⟩ := do_none e
  rw [z1, z2, z3]
  have hn := wI_t c5
  have ca := carries_ac h wd (len, len) n ⟨len, wt, si + 1, cy, false⟩ true hO
  unfold wiC at ca
  refine kpsling_winch_do.ac (n0 := 56) (by simp) ⟨.ptr _ _ (by omega), in_agg2 _ _ _, trivial⟩ ⟨⟨by omega, wiC_in _ _ _ _ _⟩, trivial⟩ rfl ?_
  unfold cpsling_winch_do wiC spD
  (have hg : (987654321 : Nat) - 987654321 = 0 := rfl; have hr := hg; repeat' (first | apply aw_seq | ((first | apply aw_skip | apply aw_exit); try simp only [thenQ, blockQ, if_true, if_false, Nat.reduceEqDiff, reduceCtorEq]) | apply aw_ret | apply aw_block | apply aw_condT rfl | apply aw_condF rfl | (refine ag_bool (fun hg => ?_) (fun hg => ?_) <;> (try (have hq := hg; simp only [Bool.not_eq_true', Bool.not_eq_false', Bool.and_eq_true, Bool.and_eq_false_iff, Bool.or_eq_true, Bool.or_eq_false_iff, decide_eq_true_eq, decide_eq_false_iff_not, bne_iff_ne, beq_iff_eq, beq_eq_false_iff_ne, bne_eq_false_iff_eq, ne_eq, Int.not_lt, Int.not_le, Decidable.not_not] at hq)) <;> (try (have hr := hg; simp only [decide_eq_true_eq, decide_eq_false_iff_not] at hr)) <;> (try (exfalso; omega)) <;> simp (disch := first | exact okY | omega) only [ZU, hr, decide_false, AG_ff, AOpRun, aexec, ↓eget_h, Nat.reduceAdd, Nat.reduceBEq, ARun_some, run1, isSh, ↓reduceIte, abin, hg, ↓hget_h]) | ((first | refine aw_region ?_ | refine acall0 (slwithin_ac _ _ _) ?_ | refine acall0 (at_ac _) ?_ | refine acallB (ca) (by repeat' (first | exact trivial | exact rfl | refine And.intro ?_ ?_)) (by kernel_rfl) (by kernel_rfl) (by kernel_rfl) ?_ | refine ago_if (by omega) ?_ | skip); simp (disch := first | exact okY | omega) only [ZU, dI, dB, Nat.reduceAdd, Nat.reduceMul, AOpRun, aexec, D.isBot, Nat.reduceBEq, ↓eget_h, or_self, ↓reduceIte, D.cells, run1, isSh, abin, fits, Nat.reduceLeDiff, List.all, D.leaf, splice, List.take, List.drop, ↓hget_h, Int.reduceBEq, ARun_some, c5, AG_ff, c6, blockQ])))
  all_goals (refine end_q [] [(48, 48)] ?_ ?_ <;> repeat' (first | exact trivial | exact vr_val _ | exact vr_list _ | refine And.intro ⟨_, rfl, _, rfl, by decide, ?_⟩ ?_ | apply And.intro))
set_option maxRecDepth 100000 in
set_option maxHeartbeats 1000000 in
theorem do_h7_ac (h : Hst) (wd : Int × Int) (len wt si cy kd n : Int) (t : Bool) (i : Int) (hO : HoOk h) (hc : h.cable ≤ 100) (ho0 : HgOk h ⟨len, wt, si, cy, false⟩ i) (hi : i ≤ 100) (hk : kd = 4) (c1 : wt ≤ 0) (c2 : len ≠ 0) (c3 : t = true) (c4 : si + 1 ≤ h.charge) (c5 : wI n 1 100000 = true) (c6 : caB h wd (len, len) n = true) :
    AC Tryd.prog 12 [.ptr 48 0, spD (kd, n)] [(48, wiC h wd ⟨len, wt, si, cy, false⟩ t)] [(48, some (wiC h wd (doK h wd ⟨len, wt, si, cy, false⟩ t (kd, n)) (doT h wd ⟨len, wt, si, cy, false⟩ t (kd, n))))] (dB (doB h wd ⟨len, wt, si, cy, false⟩ t (kd, n))) := by
  subst hk
  subst c3
  have q1 : 0 ≤ len := ho0.l1
  have q2 : len ≤ h.cable := ho0.l2
  have q3 : 0 ≤ wt := ho0.w1
  have q4 : wt ≤ 100000 := ho0.w2
  have q5 : 0 ≤ si := ho0.s1
  have q6 : si ≤ i := ho0.s2
  have q7 : 0 ≤ cy := ho0.c1
  have q8 : cy ≤ i := ho0.c2
  have e : stepS h wd ⟨len, wt, si, cy, false⟩ true (4, n) = some (⟨len, n, si + 1, cy, false⟩, true) := by
    unfold stepS; simp [c1, c2, c4, c5, c6]
  obtain ⟨z1, z2, z3⟩ := do_some e
  rw [z1, z2, z3]
  have hn := wI_t c5
  have ca := carries_ac h wd (len, len) n ⟨len, wt, si + 1, cy, false⟩ true hO
  unfold wiC at ca
  refine kpsling_winch_do.ac (n0 := 56) (by simp) ⟨.ptr _ _ (by omega), in_agg2 _ _ _, trivial⟩ ⟨⟨by omega, wiC_in _ _ _ _ _⟩, trivial⟩ rfl ?_
  unfold cpsling_winch_do wiC spD
  (have hg : (987654321 : Nat) - 987654321 = 0 := rfl; have hr := hg; repeat' (first | apply aw_seq | ((first | apply aw_skip | apply aw_exit); try simp only [thenQ, blockQ, if_true, if_false, Nat.reduceEqDiff, reduceCtorEq]) | apply aw_ret | apply aw_block | apply aw_condT rfl | apply aw_condF rfl | (refine ag_bool (fun hg => ?_) (fun hg => ?_) <;> (try (have hq := hg; simp only [Bool.not_eq_true', Bool.not_eq_false', Bool.and_eq_true, Bool.and_eq_false_iff, Bool.or_eq_true, Bool.or_eq_false_iff, decide_eq_true_eq, decide_eq_false_iff_not, bne_iff_ne, beq_iff_eq, beq_eq_false_iff_ne, bne_eq_false_iff_eq, ne_eq, Int.not_lt, Int.not_le, Decidable.not_not] at hq)) <;> (try (have hr := hg; simp only [decide_eq_true_eq, decide_eq_false_iff_not] at hr)) <;> (try (exfalso; omega)) <;> simp (disch := first | exact okY | omega) only [ZU, hr, decide_false, AG_ff, AOpRun, aexec, ↓eget_h, Nat.reduceAdd, Nat.reduceBEq, ARun_some, run1, isSh, ↓reduceIte, abin, hg, ↓hget_h]) | ((first | refine aw_region ?_ | refine acall0 (slwithin_ac _ _ _) ?_ | refine acall0 (at_ac _) ?_ | refine acallB (ca) (by repeat' (first | exact trivial | exact rfl | refine And.intro ?_ ?_)) (by kernel_rfl) (by kernel_rfl) (by kernel_rfl) ?_ | refine ago_if (by omega) ?_ | skip); simp (disch := first | exact okY | omega) only [ZU, dI, dB, Nat.reduceAdd, Nat.reduceMul, AOpRun, aexec, D.isBot, Nat.reduceBEq, ↓eget_h, or_self, ↓reduceIte, D.cells, run1, isSh, abin, fits, Nat.reduceLeDiff, List.all, D.leaf, splice, List.take, List.drop, ↓hget_h, Int.reduceBEq, ARun_some, c5, AG_ff, c6, blockQ])))
  all_goals (refine end_q [] [(48, 48)] ?_ ?_ <;> repeat' (first | exact trivial | exact vr_val _ | exact vr_list _ | refine And.intro ⟨_, rfl, _, rfl, by decide, ?_⟩ ?_ | apply And.intro))
set_option maxRecDepth 100000 in
set_option maxHeartbeats 1000000 in
theorem do_n_ac (h : Hst) (wd : Int × Int) (len wt si cy kd n : Int) (t : Bool) (i : Int) (hO : HoOk h) (hc : h.cable ≤ 100) (ho0 : HgOk h ⟨len, wt, si, cy, false⟩ i) (hi : i ≤ 100) (k1 : ¬ kd = 1) (k2 : ¬ kd = 2) (k4 : ¬ kd = 4) (c1 : n ≠ 0) :
    AC Tryd.prog 12 [.ptr 48 0, spD (kd, n)] [(48, wiC h wd ⟨len, wt, si, cy, false⟩ t)] [(48, some (wiC h wd (doK h wd ⟨len, wt, si, cy, false⟩ t (kd, n)) (doT h wd ⟨len, wt, si, cy, false⟩ t (kd, n))))] (dB (doB h wd ⟨len, wt, si, cy, false⟩ t (kd, n))) := by
  have q1 : 0 ≤ len := ho0.l1
  have q2 : len ≤ h.cable := ho0.l2
  have q3 : 0 ≤ wt := ho0.w1
  have q4 : wt ≤ 100000 := ho0.w2
  have q5 : 0 ≤ si := ho0.s1
  have q6 : si ≤ i := ho0.s2
  have q7 : 0 ≤ cy := ho0.c1
  have q8 : cy ≤ i := ho0.c2
  have e : stepS h wd ⟨len, wt, si, cy, false⟩ t (kd, n) = none := by
    unfold stepS; simp [k1, k2, k4, c1]
  obtain ⟨z1, z2, z3⟩ := do_none e
  rw [z1, z2, z3]
  refine kpsling_winch_do.ac (n0 := 56) (by simp) ⟨.ptr _ _ (by omega), in_agg2 _ _ _, trivial⟩ ⟨⟨by omega, wiC_in _ _ _ _ _⟩, trivial⟩ rfl ?_
  unfold cpsling_winch_do wiC spD
  (have hg : (987654321 : Nat) - 987654321 = 0 := rfl; have hr := hg; repeat' (first | apply aw_seq | ((first | apply aw_skip | apply aw_exit); try simp only [thenQ, blockQ, if_true, if_false, Nat.reduceEqDiff, reduceCtorEq]) | apply aw_ret | apply aw_block | apply aw_condT rfl | apply aw_condF rfl | (refine aw_cond rfl (fun hg => ?_) (fun hg => ?_) <;> (try (have hq := hg; simp only [Bool.not_eq_true', Bool.not_eq_false', Bool.and_eq_true, Bool.and_eq_false_iff, Bool.or_eq_true, Bool.or_eq_false_iff, decide_eq_true_eq, decide_eq_false_iff_not, bne_iff_ne, beq_iff_eq, beq_eq_false_iff_ne, bne_eq_false_iff_eq, ne_eq, Int.not_lt, Int.not_le, Decidable.not_not] at hq)) <;> (try (have hr := hg; simp only [decide_eq_true_eq, decide_eq_false_iff_not] at hr)) <;> (try (exfalso; omega))) | ((first | refine aw_region ?_ | refine ago_if (by omega) ?_ | skip); simp (disch := first | exact okY | omega) only [ZU, dI, dB, Nat.reduceAdd, Nat.reduceMul, AOpRun, aexec, D.isBot, Nat.reduceBEq, ↓eget_h, or_self, ↓reduceIte, D.cells, run1, isSh, abin, fits, Nat.reduceLeDiff, List.all, D.leaf, splice, List.take, List.drop, ↓hget_h, hg, blockQ])))
  all_goals (refine end_q [] [(48, 48)] ?_ ?_ <;> repeat' (first | exact trivial | exact vr_val _ | exact vr_list _ | refine And.intro ⟨_, rfl, _, rfl, by decide, ?_⟩ ?_ | apply And.intro))
set_option maxRecDepth 100000 in
set_option maxHeartbeats 1000000 in
theorem do_t1_ac (h : Hst) (wd : Int × Int) (len wt si cy kd n : Int) (t : Bool) (i : Int) (hO : HoOk h) (hc : h.cable ≤ 100) (ho0 : HgOk h ⟨len, wt, si, cy, false⟩ i) (hi : i ≤ 100) (hk : kd = 3) (hn : n = 0) (c1 : 0 < len) :
    AC Tryd.prog 12 [.ptr 48 0, spD (kd, n)] [(48, wiC h wd ⟨len, wt, si, cy, false⟩ t)] [(48, some (wiC h wd (doK h wd ⟨len, wt, si, cy, false⟩ t (kd, n)) (doT h wd ⟨len, wt, si, cy, false⟩ t (kd, n))))] (dB (doB h wd ⟨len, wt, si, cy, false⟩ t (kd, n))) := by
  subst hk
  subst hn
  have q1 : 0 ≤ len := ho0.l1
  have q2 : len ≤ h.cable := ho0.l2
  have q3 : 0 ≤ wt := ho0.w1
  have q4 : wt ≤ 100000 := ho0.w2
  have q5 : 0 ≤ si := ho0.s1
  have q6 : si ≤ i := ho0.s2
  have q7 : 0 ≤ cy := ho0.c1
  have q8 : cy ≤ i := ho0.c2
  have e : stepS h wd ⟨len, wt, si, cy, false⟩ t (3, 0) = some (⟨len, wt, 0, cy, false⟩, true) := by
    unfold stepS; simp [c1]
  obtain ⟨z1, z2, z3⟩ := do_some e
  rw [z1, z2, z3]
  refine kpsling_winch_do.ac (n0 := 56) (by simp) ⟨.ptr _ _ (by omega), in_agg2 _ _ _, trivial⟩ ⟨⟨by omega, wiC_in _ _ _ _ _⟩, trivial⟩ rfl ?_
  unfold cpsling_winch_do wiC spD
  (have hg : (987654321 : Nat) - 987654321 = 0 := rfl; have hr := hg; repeat' (first | apply aw_seq | ((first | apply aw_skip | apply aw_exit); try simp only [thenQ, blockQ, if_true, if_false, Nat.reduceEqDiff, reduceCtorEq]) | apply aw_ret | apply aw_block | apply aw_condT rfl | apply aw_condF rfl | (refine aw_cond rfl (fun hg => ?_) (fun hg => ?_) <;> (try (have hq := hg; simp only [Bool.not_eq_true', Bool.not_eq_false', Bool.and_eq_true, Bool.and_eq_false_iff, Bool.or_eq_true, Bool.or_eq_false_iff, decide_eq_true_eq, decide_eq_false_iff_not, bne_iff_ne, beq_iff_eq, beq_eq_false_iff_ne, bne_eq_false_iff_eq, ne_eq, Int.not_lt, Int.not_le, Decidable.not_not] at hq)) <;> (try (have hr := hg; simp only [decide_eq_true_eq, decide_eq_false_iff_not] at hr)) <;> (try (exfalso; omega))) | ((first | refine aw_region ?_ | refine ago_if (by omega) ?_ | skip); simp (disch := first | exact okY | omega) only [ZU, dI, dB, Nat.reduceAdd, Nat.reduceMul, AOpRun, aexec, D.isBot, Nat.reduceBEq, ↓eget_h, or_self, ↓reduceIte, D.cells, run1, isSh, abin, fits, Nat.reduceLeDiff, List.all, D.leaf, splice, List.take, List.drop, ↓hget_h, Int.reduceBEq, bne_self_eq_false, ARun_some, AG_tt, blockQ, hr])))
  all_goals (refine end_q [] [(48, 48)] ?_ ?_ <;> repeat' (first | exact trivial | exact vr_val _ | exact vr_list _ | refine And.intro ⟨_, rfl, _, rfl, by decide, ?_⟩ ?_ | apply And.intro))
set_option maxRecDepth 100000 in
set_option maxHeartbeats 1000000 in
theorem do_t2_ac (h : Hst) (wd : Int × Int) (len wt si cy kd n : Int) (t : Bool) (i : Int) (hO : HoOk h) (hc : h.cable ≤ 100) (ho0 : HgOk h ⟨len, wt, si, cy, false⟩ i) (hi : i ≤ 100) (hk : kd = 3) (hn : n = 0) (c1 : ¬ 0 < len) :
    AC Tryd.prog 12 [.ptr 48 0, spD (kd, n)] [(48, wiC h wd ⟨len, wt, si, cy, false⟩ t)] [(48, some (wiC h wd (doK h wd ⟨len, wt, si, cy, false⟩ t (kd, n)) (doT h wd ⟨len, wt, si, cy, false⟩ t (kd, n))))] (dB (doB h wd ⟨len, wt, si, cy, false⟩ t (kd, n))) := by
  subst hk
  subst hn
  have q1 : 0 ≤ len := ho0.l1
  have q2 : len ≤ h.cable := ho0.l2
  have q3 : 0 ≤ wt := ho0.w1
  have q4 : wt ≤ 100000 := ho0.w2
  have q5 : 0 ≤ si := ho0.s1
  have q6 : si ≤ i := ho0.s2
  have q7 : 0 ≤ cy := ho0.c1
  have q8 : cy ≤ i := ho0.c2
  have e : stepS h wd ⟨len, wt, si, cy, false⟩ t (3, 0) = none := by
    unfold stepS; simp [c1]
  obtain ⟨z1, z2, z3⟩ := do_none e
  rw [z1, z2, z3]
  refine kpsling_winch_do.ac (n0 := 56) (by simp) ⟨.ptr _ _ (by omega), in_agg2 _ _ _, trivial⟩ ⟨⟨by omega, wiC_in _ _ _ _ _⟩, trivial⟩ rfl ?_
  unfold cpsling_winch_do wiC spD
  (have hg : (987654321 : Nat) - 987654321 = 0 := rfl; have hr := hg; repeat' (first | apply aw_seq | ((first | apply aw_skip | apply aw_exit); try simp only [thenQ, blockQ, if_true, if_false, Nat.reduceEqDiff, reduceCtorEq]) | apply aw_ret | apply aw_block | apply aw_condT rfl | apply aw_condF rfl | (refine aw_cond rfl (fun hg => ?_) (fun hg => ?_) <;> (try (have hq := hg; simp only [Bool.not_eq_true', Bool.not_eq_false', Bool.and_eq_true, Bool.and_eq_false_iff, Bool.or_eq_true, Bool.or_eq_false_iff, decide_eq_true_eq, decide_eq_false_iff_not, bne_iff_ne, beq_iff_eq, beq_eq_false_iff_ne, bne_eq_false_iff_eq, ne_eq, Int.not_lt, Int.not_le, Decidable.not_not] at hq)) <;> (try (have hr := hg; simp only [decide_eq_true_eq, decide_eq_false_iff_not] at hr)) <;> (try (exfalso; omega))) | ((first | refine aw_region ?_ | refine ago_if (by omega) ?_ | skip); simp (disch := first | exact okY | omega) only [ZU, dI, dB, Nat.reduceAdd, Nat.reduceMul, AOpRun, aexec, D.isBot, Nat.reduceBEq, ↓eget_h, or_self, ↓reduceIte, D.cells, run1, isSh, abin, fits, Nat.reduceLeDiff, List.all, D.leaf, splice, List.take, List.drop, ↓hget_h, Int.reduceBEq, bne_self_eq_false, ARun_some, AG_tt, hr, decide_false, AG_ft, blockQ])))
  all_goals (refine end_q [] [(48, 48)] ?_ ?_ <;> repeat' (first | exact trivial | exact vr_val _ | exact vr_list _ | refine And.intro ⟨_, rfl, _, rfl, by decide, ?_⟩ ?_ | apply And.intro))
set_option maxRecDepth 100000 in
set_option maxHeartbeats 1000000 in
theorem do_u1_ac (h : Hst) (wd : Int × Int) (len wt si cy kd n : Int) (t : Bool) (i : Int) (hO : HoOk h) (hc : h.cable ≤ 100) (ho0 : HgOk h ⟨len, wt, si, cy, false⟩ i) (hi : i ≤ 100) (hk : kd = 5) (hn : n = 0) (c1 : 0 < wt) :
    AC Tryd.prog 12 [.ptr 48 0, spD (kd, n)] [(48, wiC h wd ⟨len, wt, si, cy, false⟩ t)] [(48, some (wiC h wd (doK h wd ⟨len, wt, si, cy, false⟩ t (kd, n)) (doT h wd ⟨len, wt, si, cy, false⟩ t (kd, n))))] (dB (doB h wd ⟨len, wt, si, cy, false⟩ t (kd, n))) := by
  subst hk
  subst hn
  have q1 : 0 ≤ len := ho0.l1
  have q2 : len ≤ h.cable := ho0.l2
  have q3 : 0 ≤ wt := ho0.w1
  have q4 : wt ≤ 100000 := ho0.w2
  have q5 : 0 ≤ si := ho0.s1
  have q6 : si ≤ i := ho0.s2
  have q7 : 0 ≤ cy := ho0.c1
  have q8 : cy ≤ i := ho0.c2
  have e : stepS h wd ⟨len, wt, si, cy, false⟩ t (5, 0) = some (⟨len, 0, si + 1, cy + 1, false⟩, t) := by
    unfold stepS; simp [c1]
  obtain ⟨z1, z2, z3⟩ := do_some e
  rw [z1, z2, z3]
  refine kpsling_winch_do.ac (n0 := 56) (by simp) ⟨.ptr _ _ (by omega), in_agg2 _ _ _, trivial⟩ ⟨⟨by omega, wiC_in _ _ _ _ _⟩, trivial⟩ rfl ?_
  unfold cpsling_winch_do wiC spD
  (have hg : (987654321 : Nat) - 987654321 = 0 := rfl; have hr := hg; repeat' (first | apply aw_seq | ((first | apply aw_skip | apply aw_exit); try simp only [thenQ, blockQ, if_true, if_false, Nat.reduceEqDiff, reduceCtorEq]) | apply aw_ret | apply aw_block | apply aw_condT rfl | apply aw_condF rfl | (refine aw_cond rfl (fun hg => ?_) (fun hg => ?_) <;> (try (have hq := hg; simp only [Bool.not_eq_true', Bool.not_eq_false', Bool.and_eq_true, Bool.and_eq_false_iff, Bool.or_eq_true, Bool.or_eq_false_iff, decide_eq_true_eq, decide_eq_false_iff_not, bne_iff_ne, beq_iff_eq, beq_eq_false_iff_ne, bne_eq_false_iff_eq, ne_eq, Int.not_lt, Int.not_le, Decidable.not_not] at hq)) <;> (try (have hr := hg; simp only [decide_eq_true_eq, decide_eq_false_iff_not] at hr)) <;> (try (exfalso; omega))) | ((first | refine aw_region ?_ | refine ago_if (by omega) ?_ | skip); simp (disch := first | exact okY | omega) only [ZU, dI, dB, Nat.reduceAdd, Nat.reduceMul, AOpRun, aexec, D.isBot, Nat.reduceBEq, ↓eget_h, or_self, ↓reduceIte, D.cells, run1, isSh, abin, fits, Nat.reduceLeDiff, List.all, D.leaf, splice, List.take, List.drop, ↓hget_h, Int.reduceBEq, bne_self_eq_false, ARun_some, AG_ft, AG_tt, hr, blockQ])))
  all_goals (refine end_q [] [(48, 48)] ?_ ?_ <;> repeat' (first | exact trivial | exact vr_val _ | exact vr_list _ | refine And.intro ⟨_, rfl, _, rfl, by decide, ?_⟩ ?_ | apply And.intro))
set_option maxRecDepth 100000 in
set_option maxHeartbeats 1000000 in
theorem do_u2_ac (h : Hst) (wd : Int × Int) (len wt si cy kd n : Int) (t : Bool) (i : Int) (hO : HoOk h) (hc : h.cable ≤ 100) (ho0 : HgOk h ⟨len, wt, si, cy, false⟩ i) (hi : i ≤ 100) (hk : kd = 5) (hn : n = 0) (c1 : ¬ 0 < wt) :
    AC Tryd.prog 12 [.ptr 48 0, spD (kd, n)] [(48, wiC h wd ⟨len, wt, si, cy, false⟩ t)] [(48, some (wiC h wd (doK h wd ⟨len, wt, si, cy, false⟩ t (kd, n)) (doT h wd ⟨len, wt, si, cy, false⟩ t (kd, n))))] (dB (doB h wd ⟨len, wt, si, cy, false⟩ t (kd, n))) := by
  subst hk
  subst hn
  have q1 : 0 ≤ len := ho0.l1
  have q2 : len ≤ h.cable := ho0.l2
  have q3 : 0 ≤ wt := ho0.w1
  have q4 : wt ≤ 100000 := ho0.w2
  have q5 : 0 ≤ si := ho0.s1
  have q6 : si ≤ i := ho0.s2
  have q7 : 0 ≤ cy := ho0.c1
  have q8 : cy ≤ i := ho0.c2
  have e : stepS h wd ⟨len, wt, si, cy, false⟩ t (5, 0) = none := by
    unfold stepS; simp [c1]
  obtain ⟨z1, z2, z3⟩ := do_none e
  rw [z1, z2, z3]
  refine kpsling_winch_do.ac (n0 := 56) (by simp) ⟨.ptr _ _ (by omega), in_agg2 _ _ _, trivial⟩ ⟨⟨by omega, wiC_in _ _ _ _ _⟩, trivial⟩ rfl ?_
  unfold cpsling_winch_do wiC spD
  (have hg : (987654321 : Nat) - 987654321 = 0 := rfl; have hr := hg; repeat' (first | apply aw_seq | ((first | apply aw_skip | apply aw_exit); try simp only [thenQ, blockQ, if_true, if_false, Nat.reduceEqDiff, reduceCtorEq]) | apply aw_ret | apply aw_block | apply aw_condT rfl | apply aw_condF rfl | (refine aw_cond rfl (fun hg => ?_) (fun hg => ?_) <;> (try (have hq := hg; simp only [Bool.not_eq_true', Bool.not_eq_false', Bool.and_eq_true, Bool.and_eq_false_iff, Bool.or_eq_true, Bool.or_eq_false_iff, decide_eq_true_eq, decide_eq_false_iff_not, bne_iff_ne, beq_iff_eq, beq_eq_false_iff_ne, bne_eq_false_iff_eq, ne_eq, Int.not_lt, Int.not_le, Decidable.not_not] at hq)) <;> (try (have hr := hg; simp only [decide_eq_true_eq, decide_eq_false_iff_not] at hr)) <;> (try (exfalso; omega))) | ((first | refine aw_region ?_ | refine ago_if (by omega) ?_ | skip); simp (disch := first | exact okY | omega) only [ZU, dI, dB, Nat.reduceAdd, Nat.reduceMul, AOpRun, aexec, D.isBot, Nat.reduceBEq, ↓eget_h, or_self, ↓reduceIte, D.cells, run1, isSh, abin, fits, Nat.reduceLeDiff, List.all, D.leaf, splice, List.take, List.drop, ↓hget_h, Int.reduceBEq, bne_self_eq_false, ARun_some, AG_ft, AG_tt, hr, decide_false, blockQ])))
  all_goals (refine end_q [] [(48, 48)] ?_ ?_ <;> repeat' (first | exact trivial | exact vr_val _ | exact vr_list _ | refine And.intro ⟨_, rfl, _, rfl, by decide, ?_⟩ ?_ | apply And.intro))
set_option maxRecDepth 100000 in
set_option maxHeartbeats 1000000 in
theorem do_c_ac (h : Hst) (wd : Int × Int) (len wt si cy kd n : Int) (t : Bool) (i : Int) (hO : HoOk h) (hc : h.cable ≤ 100) (ho0 : HgOk h ⟨len, wt, si, cy, false⟩ i) (hi : i ≤ 100) (hk : kd = 6) (hn : n = 0) :
    AC Tryd.prog 12 [.ptr 48 0, spD (kd, n)] [(48, wiC h wd ⟨len, wt, si, cy, false⟩ t)] [(48, some (wiC h wd (doK h wd ⟨len, wt, si, cy, false⟩ t (kd, n)) (doT h wd ⟨len, wt, si, cy, false⟩ t (kd, n))))] (dB (doB h wd ⟨len, wt, si, cy, false⟩ t (kd, n))) := by
  subst hk
  subst hn
  have q1 : 0 ≤ len := ho0.l1
  have q2 : len ≤ h.cable := ho0.l2
  have q3 : 0 ≤ wt := ho0.w1
  have q4 : wt ≤ 100000 := ho0.w2
  have q5 : 0 ≤ si := ho0.s1
  have q6 : si ≤ i := ho0.s2
  have q7 : 0 ≤ cy := ho0.c1
  have q8 : cy ≤ i := ho0.c2
  have e : stepS h wd ⟨len, wt, si, cy, false⟩ t (6, 0) = some (⟨0, 0, si + 1, cy, true⟩, t) := by
    unfold stepS; simp
  obtain ⟨z1, z2, z3⟩ := do_some e
  rw [z1, z2, z3]
  refine kpsling_winch_do.ac (n0 := 56) (by simp) ⟨.ptr _ _ (by omega), in_agg2 _ _ _, trivial⟩ ⟨⟨by omega, wiC_in _ _ _ _ _⟩, trivial⟩ rfl ?_
  unfold cpsling_winch_do wiC spD
  (repeat' (first | apply aw_seq | ((first | apply aw_skip | apply aw_exit); try simp only [thenQ, blockQ, if_true, if_false, Nat.reduceEqDiff, reduceCtorEq]) | apply aw_ret | apply aw_block | apply aw_condT rfl | apply aw_condF rfl | ((first | refine aw_region ?_ | refine ago_if (by omega) ?_ | skip); simp (disch := first | exact okY | omega) only [ZU, dI, dB, Nat.reduceAdd, Nat.reduceMul, AOpRun, aexec, D.isBot, Nat.reduceBEq, ↓eget_h, or_self, ↓reduceIte, D.cells, run1, isSh, abin, fits, Nat.reduceLeDiff, List.all, D.leaf, splice, List.take, List.drop, ↓hget_h, Int.reduceBEq, bne_self_eq_false, ARun_some, AG_ft, blockQ])))
  all_goals (refine end_q [] [(48, 48)] ?_ ?_ <;> repeat' (first | exact trivial | exact vr_val _ | exact vr_list _ | refine And.intro ⟨_, rfl, _, rfl, by decide, ?_⟩ ?_ | apply And.intro))
set_option maxRecDepth 100000 in
set_option maxHeartbeats 1000000 in
theorem do_z_ac (h : Hst) (wd : Int × Int) (len wt si cy kd n : Int) (t : Bool) (i : Int) (hO : HoOk h) (hc : h.cable ≤ 100) (ho0 : HgOk h ⟨len, wt, si, cy, false⟩ i) (hi : i ≤ 100) (k1 : ¬ kd = 1) (k2 : ¬ kd = 2) (k4 : ¬ kd = 4) (k3 : ¬ kd = 3) (k5 : ¬ kd = 5) (k6 : ¬ kd = 6) (hn : n = 0) :
    AC Tryd.prog 12 [.ptr 48 0, spD (kd, n)] [(48, wiC h wd ⟨len, wt, si, cy, false⟩ t)] [(48, some (wiC h wd (doK h wd ⟨len, wt, si, cy, false⟩ t (kd, n)) (doT h wd ⟨len, wt, si, cy, false⟩ t (kd, n))))] (dB (doB h wd ⟨len, wt, si, cy, false⟩ t (kd, n))) := by
  subst hn
  have q1 : 0 ≤ len := ho0.l1
  have q2 : len ≤ h.cable := ho0.l2
  have q3 : 0 ≤ wt := ho0.w1
  have q4 : wt ≤ 100000 := ho0.w2
  have q5 : 0 ≤ si := ho0.s1
  have q6 : si ≤ i := ho0.s2
  have q7 : 0 ≤ cy := ho0.c1
  have q8 : cy ≤ i := ho0.c2
  have e : stepS h wd ⟨len, wt, si, cy, false⟩ t (kd, 0) = none := by
    unfold stepS; simp [k1, k2, k3, k4, k5, k6]
  obtain ⟨z1, z2, z3⟩ := do_none e
  rw [z1, z2, z3]
  refine kpsling_winch_do.ac (n0 := 56) (by simp) ⟨.ptr _ _ (by omega), in_agg2 _ _ _, trivial⟩ ⟨⟨by omega, wiC_in _ _ _ _ _⟩, trivial⟩ rfl ?_
  unfold cpsling_winch_do wiC spD
  (have hg : (987654321 : Nat) - 987654321 = 0 := rfl; have hr := hg; repeat' (first | apply aw_seq | ((first | apply aw_skip | apply aw_exit); try simp only [thenQ, blockQ, if_true, if_false, Nat.reduceEqDiff, reduceCtorEq]) | apply aw_ret | apply aw_block | apply aw_condT rfl | apply aw_condF rfl | (refine aw_cond rfl (fun hg => ?_) (fun hg => ?_) <;> (try (have hq := hg; simp only [Bool.not_eq_true', Bool.not_eq_false', Bool.and_eq_true, Bool.and_eq_false_iff, Bool.or_eq_true, Bool.or_eq_false_iff, decide_eq_true_eq, decide_eq_false_iff_not, bne_iff_ne, beq_iff_eq, beq_eq_false_iff_ne, bne_eq_false_iff_eq, ne_eq, Int.not_lt, Int.not_le, Decidable.not_not] at hq)) <;> (try (have hr := hg; simp only [decide_eq_true_eq, decide_eq_false_iff_not] at hr)) <;> (try (exfalso; omega))) | (refine ag_bool (fun hg => ?_) (fun hg => ?_) <;> (try (have hq := hg; simp only [Bool.not_eq_true', Bool.not_eq_false', Bool.and_eq_true, Bool.and_eq_false_iff, Bool.or_eq_true, Bool.or_eq_false_iff, decide_eq_true_eq, decide_eq_false_iff_not, bne_iff_ne, beq_iff_eq, beq_eq_false_iff_ne, bne_eq_false_iff_eq, ne_eq, Int.not_lt, Int.not_le, Decidable.not_not] at hq)) <;> (try (have hr := hg; simp only [decide_eq_true_eq, decide_eq_false_iff_not] at hr)) <;> (try (exfalso; omega)) <;> simp (disch := first | exact okY | omega) only [ZU, hg, AG_ft, Nat.reduceAdd, Nat.reduceBEq, ARun_some, ↓eget_h, AOpRun, aexec, ↓reduceIte]) | ((first | refine aw_region ?_ | refine ago_if (by omega) ?_ | skip); simp (disch := first | exact okY | omega) only [ZU, dI, dB, Nat.reduceAdd, Nat.reduceMul, AOpRun, aexec, D.isBot, Nat.reduceBEq, ↓eget_h, or_self, ↓reduceIte, D.cells, run1, isSh, abin, fits, Nat.reduceLeDiff, List.all, D.leaf, splice, List.take, List.drop, ↓hget_h, hg, bne_self_eq_false, ARun_some, blockQ])))
  all_goals (refine end_q [] [(48, 48)] ?_ ?_ <;> repeat' (first | exact trivial | exact vr_val _ | exact vr_list _ | refine And.intro ⟨_, rfl, _, rfl, by decide, ?_⟩ ?_ | apply And.intro))
theorem do_ac (h : Hst) (wd : Int × Int) (k : Hng) (t : Bool) (x : Int × Int) (i : Int) (hO : HoOk h) (hc : h.cable ≤ 100) (ho0 : HgOk h k i) (hi : i ≤ 100) :
    AC Tryd.prog 12 [.ptr 48 0, spD x] [(48, wiC h wd k t)] [(48, some (wiC h wd (doK h wd k t x) (doT h wd k t x)))] (dB (doB h wd k t x)) := by
  obtain ⟨len, wt, si, cy, cut⟩ := k
  obtain ⟨kd, n⟩ := x
  cases cut with
  | true => exact do_cut_ac h wd len wt si cy kd n t i hO hc ho0 hi
  | false =>
  by_cases k1 : kd = 1
  · cases c1 : wI n 1 h.cable with
    | false => exact do_o1f_ac h wd len wt si cy kd n t i hO hc ho0 hi k1 c1
    | true =>
      by_cases ho : wI (len + n) 0 h.cable = true ∧ caB h wd (len + n, len + n) wt = true
      · exact do_o1o_ac h wd len wt si cy kd n t i hO hc ho0 hi k1 c1 ho
      · exact do_o1e_ac h wd len wt si cy kd n t i hO hc ho0 hi k1 c1 ho
  by_cases k2 : kd = 2
  · cases c1 : wI n 1 h.cable with
    | false => exact do_o2f_ac h wd len wt si cy kd n t i hO hc ho0 hi k2 c1
    | true =>
      by_cases ho : wI (len + -n) 0 h.cable = true ∧ caB h wd (len + -n, len + -n) wt = true
      · exact do_o2o_ac h wd len wt si cy kd n t i hO hc ho0 hi k2 c1 ho
      · exact do_o2e_ac h wd len wt si cy kd n t i hO hc ho0 hi k2 c1 ho
  by_cases k4 : kd = 4
  · by_cases c1 : 0 < wt
    · exact do_h1_ac h wd len wt si cy kd n t i hO hc ho0 hi k4 c1
    have c1' : wt ≤ 0 := by omega
    by_cases c2 : len = 0
    · exact do_h2_ac h wd len wt si cy kd n t i hO hc ho0 hi k4 c1' c2
    cases c3 : t with
    | false => exact do_h3_ac h wd len wt si cy kd n false i hO hc ho0 hi k4 c1' c2 rfl
    | true =>
    by_cases c4 : h.charge < si + 1
    · exact do_h4_ac h wd len wt si cy kd n true i hO hc ho0 hi k4 c1' c2 rfl c4
    cases c5 : wI n 1 100000 with
    | false => exact do_h5_ac h wd len wt si cy kd n true i hO hc ho0 hi k4 c1' c2 rfl (by omega) c5
    | true =>
    cases c6 : caB h wd (len, len) n with
    | false => exact do_h6_ac h wd len wt si cy kd n true i hO hc ho0 hi k4 c1' c2 rfl (by omega) c5 c6
    | true => exact do_h7_ac h wd len wt si cy kd n true i hO hc ho0 hi k4 c1' c2 rfl (by omega) c5 c6
  by_cases hn : n = 0
  case neg => exact do_n_ac h wd len wt si cy kd n t i hO hc ho0 hi k1 k2 k4 hn
  by_cases k3 : kd = 3
  · by_cases c1 : 0 < len
    · exact do_t1_ac h wd len wt si cy kd n t i hO hc ho0 hi k3 hn c1
    · exact do_t2_ac h wd len wt si cy kd n t i hO hc ho0 hi k3 hn c1
  by_cases k5 : kd = 5
  · by_cases c1 : 0 < wt
    · exact do_u1_ac h wd len wt si cy kd n t i hO hc ho0 hi k5 hn c1
    · exact do_u2_ac h wd len wt si cy kd n t i hO hc ho0 hi k5 hn c1
  by_cases k6 : kd = 6
  · exact do_c_ac h wd len wt si cy kd n t i hO hc ho0 hi k6 hn
  · exact do_z_ac h wd len wt si cy kd n t i hO hc ho0 hi k1 k2 k4 k3 k5 k6 hn
end Go.Proofs.YtgibbaadjbohdaaDoor
/- All steps of a hoist, both sides. No conditions. -/
namespace Go.Proofs.YtgibbaadjbohdaaDoor
open Go.RowKit Lift

def runH (h : Hst) (wd : Int × Int) (l : Bx) : Nat → Option (Hng × Bool)
  | 0 => some (hng0, false)
  | i + 1 => match runH h wd l i with
    | none => none
    | some y => stepS h wd y.1 y.2 (lo l i, hi l i)
def hgAt (h : Hst) (wd : Int × Int) (l : Bx) (i : Nat) : Hng := ((runH h wd l i).getD (hng0, false)).1
def tgAt (h : Hst) (wd : Int × Int) (l : Bx) (i : Nat) : Bool := ((runH h wd l i).getD (hng0, false)).2
theorem runH_at {h : Hst} {wd : Int × Int} {l : Bx} {i : Nat} (e : (runH h wd l i).isSome = true) : runH h wd l i = some (hgAt h wd l i, tgAt h wd l i) := by
  unfold hgAt tgAt
  cases hr : runH h wd l i with
  | none => rw [hr] at e; simp at e
  | some y => rfl
theorem runH_next {h : Hst} {wd : Int × Int} {l : Bx} {i : Nat} (e : (runH h wd l i).isSome = true) : runH h wd l (i + 1) = stepS h wd (hgAt h wd l i) (tgAt h wd l i) (lo l i, hi l i) := by
  show (match runH h wd l i with | none => none | some y => stepS h wd y.1 y.2 (lo l i, hi l i)) = _
  rw [runH_at e]
theorem runH_ok {h : Hst} {wd : Int × Int} {l : Bx} (hc : 1 ≤ h.cable) : ∀ {i : Nat} {y : Hng × Bool}, runH h wd l i = some y → HgOk h y.1 i
  | 0, y, e => by
    have : y = (hng0, false) := (Option.some.inj e).symm
    subst this
    exact hng0_ok hc
  | i + 1, y, e => by
    cases hr : runH h wd l i with
    | none =>
      have : runH h wd l (i + 1) = none := by show (match runH h wd l i with | none => none | some y => stepS h wd y.1 y.2 (lo l i, hi l i)) = _; rw [hr]
      rw [this] at e; cases e
    | some z =>
      have h1 : runH h wd l (i + 1) = stepS h wd z.1 z.2 (lo l i, hi l i) := by show (match runH h wd l i with | none => none | some y => stepS h wd y.1 y.2 (lo l i, hi l i)) = _; rw [hr]
      rw [h1] at e
      have := stepS_ok (k' := y.1) (t' := y.2) hc (runH_ok hc hr) e
      simpa using this
theorem hgAt_ok {h : Hst} {wd : Int × Int} {l : Bx} (hc : 1 ≤ h.cable) {i : Nat} (e : (runH h wd l i).isSome = true) : HgOk h (hgAt h wd l i) i := runH_ok hc (runH_at e)
theorem runH_less {h : Hst} {wd : Int × Int} {l : Bx} : ∀ {i j : Nat}, i ≤ j → (runH h wd l j).isSome = true → (runH h wd l i).isSome = true
  | i, 0, hij, e => by
    obtain rfl : i = 0 := by omega
    exact e
  | i, j + 1, hij, e => by
    rcases (by omega : i = j + 1 ∨ i ≤ j) with rfl | hij
    · exact e
    · refine runH_less hij ?_
      cases hr : runH h wd l j with
      | none =>
        have : runH h wd l (j + 1) = none := by show (match runH h wd l j with | none => none | some y => stepS h wd y.1 y.2 (lo l j, hi l j)) = _; rw [hr]
        rw [this] at e; simp at e
      | some z => rfl
def hauI (h : Hst) (wd : Int × Int) (l : Bx) : Int := ixR (fun i => (runH h wd l (i + 1)).isNone) l.length
def hauE (h : Hst) (wd : Int × Int) (l : Bx) : Int := if wiE h wd = 0 then (if l.length > 100 then 2 else if liesB h.ys wd = true then (if hauI h wd l < 0 then 0 else 72) else 1) else wiE h wd
def hauN (h : Hst) (wd : Int × Int) (l : Bx) : Int := if hauE h wd l = 72 then hauI h wd l else 0
def hauK (h : Hst) (wd : Int × Int) (l : Bx) : Hng := if hauE h wd l = 0 then hgAt h wd l l.length else hng0
theorem wiE_or (h : Hst) (wd : Int × Int) : wiE h wd = 0 ∨ wiE h wd = 10 ∨ wiE h wd = 71 := by
  have e : hoE h = 0 ∨ hoE h = 71 := by unfold hoE; split <;> simp
  unfold wiE
  by_cases h1 : hoE h = 0
  · rw [if_pos h1]
    by_cases h2 : okS wd = true
    · exact .inl (if_pos h2)
    · exact .inr (.inl (if_neg h2))
  · rw [if_neg h1]; omega
set_option maxRecDepth 100000 in
set_option maxHeartbeats 1000000 in
theorem shaul_ac (h : Hst) (wd : Int × Int) (l : Bx) (hS : HSm h) : AC Tryd.prog 5 [hoD h, spD wd, .list (sps l)] [] [] (.tup [.agg (hgC (hauK h wd l)), dI (hauN h wd l), dI (hauE h wd l)]) := by
  refine ksling_Haul.ac (n0 := 0) (by simp) ⟨hoD_in _ _, in_agg2 _ _ _, .list _, trivial⟩ trivial rfl ?_
  unfold csling_Haul hoD hoC spD hgC
  have hno : hauE h wd l ≠ 0 → hauK h wd l = hng0 := fun e => if_neg e
  have hno2 : hauE h wd l ≠ 72 → hauN h wd l = 0 := fun e => if_neg e
  (iterate 2 (try (first | apply aw_seq | ((first | apply aw_skip | apply aw_exit); try simp only [thenQ, blockQ, if_true, if_false, Nat.reduceEqDiff, reduceCtorEq]) | apply aw_ret | apply aw_block | apply aw_condT rfl | apply aw_condF rfl | ((first | refine aw_region ?_ | refine ago_if (by omega) ?_ | skip); simp (disch := first | exact okY | omega) only [ZU, dI, dB, Nat.reduceAdd, Nat.reduceMul, AOpRun, aexec, D.isBot, ↓eget_h, or_self, ↓reduceIte, D.cells, Nat.reduceBEq]))))
  refine aw_wk (s' := ⟨[(2, .list (sps l)), (3, .ptr 0 0), (4, .ptr 8 0), (6, .ptr 16 0), (7, dI 0), (8, dI 0)], [(0, [dI h.cable, .list (ints h.xs), .list (ints h.ys), .list (rows h.vs), dI h.charge]), (8, [dI wd.1, dI wd.2]), (16, [dI 0, dI 0, dI 0, dI 0, dB false])], 32⟩) ?_ ?_
  · refine wk_q [] [(0, 0), (8, 8), (16, 16)] ?_ ?_ <;> repeat' (first | exact trivial | exact vr_val _ | exact vr_list _ | exact vr_ptr _ _ _ rfl | refine And.intro ⟨_, rfl, .inl ⟨_, rfl, by decide, ?_⟩⟩ ?_ | apply And.intro)
  by_cases h1 : wiE h wd = 0
  case neg =>
    have e1 : hauE h wd l = wiE h wd := if_neg h1
    have h72 : hauE h wd l ≠ 72 := by have := wiE_or h wd; omega
    rw [hno (by omega), hno2 h72, e1]
    unfold hng0
    (have hg : (987654321 : Nat) - 987654321 = 0 := rfl; have hr := hg; repeat' (first | apply aw_seq | ((first | apply aw_skip | apply aw_exit); try simp only [thenQ, blockQ, if_true, if_false, Nat.reduceEqDiff, reduceCtorEq]) | apply aw_ret | apply aw_block | apply aw_condT rfl | apply aw_condF rfl | (refine aw_cond rfl (fun hg => ?_) (fun hg => ?_) <;> (try (have hq := hg; simp only [Bool.not_eq_true', Bool.not_eq_false', Bool.and_eq_true, Bool.and_eq_false_iff, Bool.or_eq_true, Bool.or_eq_false_iff, decide_eq_true_eq, decide_eq_false_iff_not, bne_iff_ne, beq_iff_eq, beq_eq_false_iff_ne, bne_eq_false_iff_eq, ne_eq, Int.not_lt, Int.not_le, Decidable.not_not] at hq)) <;> (try (have hr := hg; simp only [decide_eq_true_eq, decide_eq_false_iff_not] at hr)) <;> (try (exfalso; omega))) | ((first | refine aw_region ?_ | refine acall0 (newWinchE_ac h wd hS h1) ?_ | refine ago_if (by omega) ?_ | skip); simp (disch := first | exact okY | omega) only [ZU, Nat.reduceAdd, Nat.reduceMul, dI, dB, AOpRun, aexec, Nat.reduceBEq, ↓eget_h, Nat.reduceLeDiff, ↓reduceIte, List.drop, List.take, ↓hget_h, opt1, isSh, abin, hg, fillD, D.isBot, D.cells, List.all, D.leaf, splice, blockQ])))
    all_goals (refine end_q [] [] ?_ ?_ <;> repeat' (first | exact trivial | exact vr_val _ | apply vr_agg | apply vr_tup | apply And.intro))
  have nw := newWinchO_ac h wd hS h1
  unfold wiC hng0 at nw
  by_cases h2 : l.length > 100
  · have e1 : hauE h wd l = 2 := by unfold hauE; rw [if_pos h1, if_pos h2]
    rw [hno (by omega), hno2 (by omega), e1]
    unfold hng0
    (have hg : (987654321 : Nat) - 987654321 = 0 := rfl; have hr := hg; repeat' (first | apply aw_seq | ((first | apply aw_skip | apply aw_exit); try simp only [thenQ, blockQ, if_true, if_false, Nat.reduceEqDiff, reduceCtorEq]) | apply aw_ret | apply aw_block | apply aw_condT rfl | apply aw_condF rfl | (refine aw_cond rfl (fun hg => ?_) (fun hg => ?_) <;> (try (have hq := hg; simp only [Bool.not_eq_true', Bool.not_eq_false', Bool.and_eq_true, Bool.and_eq_false_iff, Bool.or_eq_true, Bool.or_eq_false_iff, decide_eq_true_eq, decide_eq_false_iff_not, bne_iff_ne, beq_iff_eq, beq_eq_false_iff_ne, bne_eq_false_iff_eq, ne_eq, Int.not_lt, Int.not_le, Decidable.not_not] at hq)) <;> (try (have hr := hg; simp only [decide_eq_true_eq, decide_eq_false_iff_not] at hr)) <;> (try (exfalso; omega))) | ((first | refine aw_region ?_ | refine acallB (nw) (by repeat' (first | exact trivial | exact rfl | refine And.intro ?_ ?_)) (by kernel_rfl) (by kernel_rfl) (by kernel_rfl) ?_ | refine ago_if (by omega) ?_ | skip); simp (disch := first | exact okY | omega) only [ZU, Nat.reduceAdd, Nat.reduceMul, dI, dB, AOpRun, aexec, Nat.reduceBEq, ↓eget_h, Nat.reduceLeDiff, ↓reduceIte, List.drop, List.take, ↓hget_h, opt1, isSh, abin, bne_self_eq_false, sps_len, hr, fillD, D.isBot, D.cells, List.all, D.leaf, splice, blockQ])))
    all_goals (refine end_q [] [] ?_ ?_ <;> repeat' (first | exact trivial | exact vr_val _ | apply vr_agg | apply vr_tup | apply And.intro))
  cases h3 : liesB h.ys wd with
  | false =>
    have e1 : hauE h wd l = 1 := by unfold hauE; rw [if_pos h1, if_neg h2, h3]; rfl
    rw [hno (by omega), hno2 (by omega), e1]
    unfold hng0
    (have hg : (987654321 : Nat) - 987654321 = 0 := rfl; have hr := hg; repeat' (first | apply aw_seq | ((first | apply aw_skip | apply aw_exit); try simp only [thenQ, blockQ, if_true, if_false, Nat.reduceEqDiff, reduceCtorEq]) | apply aw_ret | apply aw_block | apply aw_condT rfl | apply aw_condF rfl | (refine aw_cond rfl (fun hg => ?_) (fun hg => ?_) <;> (try (have hq := hg; simp only [Bool.not_eq_true', Bool.not_eq_false', Bool.and_eq_true, Bool.and_eq_false_iff, Bool.or_eq_true, Bool.or_eq_false_iff, decide_eq_true_eq, decide_eq_false_iff_not, bne_iff_ne, beq_iff_eq, beq_eq_false_iff_ne, bne_eq_false_iff_eq, ne_eq, Int.not_lt, Int.not_le, Decidable.not_not] at hq)) <;> (try (have hr := hg; simp only [decide_eq_true_eq, decide_eq_false_iff_not] at hr)) <;> (try (exfalso; omega))) | ((first | refine aw_region ?_ | refine acallB (nw) (by repeat' (first | exact trivial | exact rfl | refine And.intro ?_ ?_)) (by kernel_rfl) (by kernel_rfl) (by kernel_rfl) ?_ | refine ago_if (by omega) ?_ | skip); simp (disch := first | exact okY | omega) only [ZU, Nat.reduceAdd, Nat.reduceMul, dI, dB, AOpRun, aexec, Nat.reduceBEq, ↓eget_h, Nat.reduceLeDiff, ↓reduceIte, List.drop, List.take, ↓hget_h, h3, opt1, isSh, abin, bne_self_eq_false, sps_len, hr, decide_false, fillD, D.isBot, D.cells, List.all, D.leaf, splice, blockQ])))
    all_goals (refine end_q [] [] ?_ ?_ <;> repeat' (first | exact trivial | exact vr_val _ | apply vr_agg | apply vr_tup | apply And.intro))
  | true =>
  have e0 := wi_wnd h1
  rw [h3] at e0
  have WO := wndE_ok (h := h) (wd := wd) e0
  have hc1 := WO.o.c1
  have hc2 := WO.o.c2
  have e1 : hauE h wd l = if hauI h wd l < 0 then 0 else 72 := by unfold hauE; rw [if_pos h1, if_neg h2, h3]; rfl
  (have hg : (987654321 : Nat) - 987654321 = 0 := rfl; have hr := hg; repeat' (first | apply aw_seq | ((first | apply aw_skip | apply aw_exit); try simp only [thenQ, blockQ, if_true, if_false, Nat.reduceEqDiff, reduceCtorEq]) | apply aw_ret | apply aw_block | apply aw_condT rfl | apply aw_condF rfl | (refine aw_cond rfl (fun hg => ?_) (fun hg => ?_) <;> (try (have hq := hg; simp only [Bool.not_eq_true', Bool.not_eq_false', Bool.and_eq_true, Bool.and_eq_false_iff, Bool.or_eq_true, Bool.or_eq_false_iff, decide_eq_true_eq, decide_eq_false_iff_not, bne_iff_ne, beq_iff_eq, beq_eq_false_iff_ne, bne_eq_false_iff_eq, ne_eq, Int.not_lt, Int.not_le, Decidable.not_not] at hq)) <;> (try (have hr := hg; simp only [decide_eq_true_eq, decide_eq_false_iff_not] at hr)) <;> (try (exfalso; omega))) | ((first | refine aw_region ?_ | refine acallB (nw) (by repeat' (first | exact trivial | exact rfl | refine And.intro ?_ ?_)) (by kernel_rfl) (by kernel_rfl) (by kernel_rfl) ?_ | refine ago_if (by omega) ?_ | skip); simp (disch := first | exact okY | omega) only [ZU, Nat.reduceAdd, Nat.reduceMul, dI, dB, AOpRun, aexec, Nat.reduceBEq, ↓eget_h, Nat.reduceLeDiff, ↓reduceIte, List.drop, List.take, ↓hget_h, h3, opt1, isSh, abin, bne_self_eq_false, sps_len, hr, decide_false])))
  refine aw_loop (fun i : Nat => ⟨[(6, .ptr 16 0), (9, .ptr 48 0), (34, .list (sps l)), (35, dI l.length), (36, dI i)], [(16, [dI 0, dI 0, dI 0, dI 0, dB false]), (48, [dI h.cable, .list (ints h.xs), .list (ints h.ys), .list (rows h.vs), dI h.charge, dI wd.1, dI wd.2, dI (hgAt h wd l i).len, dI (hgAt h wd l i).wt, dI (hgAt h wd l i).since, dI (hgAt h wd l i).cyc, dB (hgAt h wd l i).cut, dB (tgAt h wd l i)])], 400⟩) (fun i => i ≤ l.length ∧ (runH h wd l i).isSome = true) (fun i => l.length - i) ⟨0, ⟨by omega, rfl⟩, ?_⟩ ?_
  · refine wk_q [] [(16, 16), (48, 48)] ?_ ?_ <;> repeat' (first | exact trivial | exact vr_val _ | exact vr_list _ | exact vr_ptr _ _ _ rfl | refine And.intro ⟨_, rfl, .inl ⟨_, rfl, by decide, ?_⟩⟩ ?_ | apply And.intro)
  rintro i ⟨hle, hr⟩
  by_cases hi2 : i < l.length
  · have g1 := sps_gd l i hi2
    have hd := do_ac h wd (hgAt h wd l i) (tgAt h wd l i) (lo l i, hi l i) i WO.o hc2 (hgAt_ok hc1 hr) (by omega)
    have hn := runH_next hr
    cases hs : stepS h wd (hgAt h wd l i) (tgAt h wd l i) (lo l i, hi l i) with
    | none =>
      obtain ⟨z1, z2, z3⟩ := do_none hs
      rw [z1, z2, z3] at hd
      unfold wiC at hd
      have ex : hauI h wd l = i := ixR_some hi2 (fun j hj => by
        have := runH_less (h := h) (wd := wd) (l := l) (i := j + 1) (j := i) (by omega) hr
        cases hq : runH h wd l (j + 1) with
        | none => rw [hq] at this; simp at this
        | some _ => rfl) (by rw [hn, hs]; rfl)
      have e2 : hauE h wd l = 72 := by rw [e1, ex, if_neg (by omega)]
      have e3 : hauN h wd l = i := by unfold hauN; rw [if_pos e2, ex]
      rw [hno (by omega), e3, e2]
      unfold hng0
      (have hg : (987654321 : Nat) - 987654321 = 0 := rfl; have hr := hg; repeat' (first | apply aw_seq | ((first | apply aw_skip | apply aw_exit); try simp only [thenQ, blockQ, if_true, if_false, Nat.reduceEqDiff, reduceCtorEq]) | apply aw_ret | apply aw_block | apply aw_condT rfl | apply aw_condF rfl | (refine aw_cond rfl (fun hg => ?_) (fun hg => ?_) <;> (try (have hq := hg; simp only [Bool.not_eq_true', Bool.not_eq_false', Bool.and_eq_true, Bool.and_eq_false_iff, Bool.or_eq_true, Bool.or_eq_false_iff, decide_eq_true_eq, decide_eq_false_iff_not, bne_iff_ne, beq_iff_eq, beq_eq_false_iff_ne, bne_eq_false_iff_eq, ne_eq, Int.not_lt, Int.not_le, Decidable.not_not] at hq)) <;> (try (have hr := hg; simp only [decide_eq_true_eq, decide_eq_false_iff_not] at hr)) <;> (try (exfalso; omega))) | ((first | refine aw_region ?_ | refine acallB (hd) (by repeat' (first | exact trivial | exact rfl | refine And.intro ?_ ?_)) (by kernel_rfl) (by kernel_rfl) (by kernel_rfl) ?_ | refine ago_if (by omega) ?_ | skip); simp (disch := first | exact okY | omega) only [ZU, dI, dB, Nat.reduceMul, Nat.reduceAdd, AOpRun, aexec, Nat.reduceBEq, ↓eget_h, isSh, ↓reduceIte, abin, hr, sps_all, opt1, g1, Nat.reduceLeDiff, List.take, ↓hget_h, D.isBot, D.cells, List.all, D.leaf, splice, List.drop, fillD, blockQ])))
      all_goals (refine end_q [] [] ?_ ?_ <;> repeat' (first | exact trivial | exact vr_val _ | apply vr_agg | apply vr_tup | apply And.intro))
    | some y =>
      obtain ⟨z1, z2, z3⟩ := do_some (k' := y.1) (t' := y.2) hs
      rw [z1, z2, z3] at hd
      unfold wiC at hd
      have hr2 : (runH h wd l (i + 1)).isSome = true := by rw [hn, hs]; rfl
      have y1 : hgAt h wd l (i + 1) = y.1 := by unfold hgAt; rw [hn, hs]; rfl
      have y2 : tgAt h wd l (i + 1) = y.2 := by unfold tgAt; rw [hn, hs]; rfl
      rw [← y1, ← y2] at hd
      (have hg : (987654321 : Nat) - 987654321 = 0 := rfl; have hr := hg; repeat' (first | apply aw_seq | ((first | apply aw_skip | apply aw_exit); try simp only [thenQ, blockQ, if_true, if_false, Nat.reduceEqDiff, reduceCtorEq]) | apply aw_ret | apply aw_block | apply aw_condT rfl | apply aw_condF rfl | (refine aw_cond rfl (fun hg => ?_) (fun hg => ?_) <;> (try (have hq := hg; simp only [Bool.not_eq_true', Bool.not_eq_false', Bool.and_eq_true, Bool.and_eq_false_iff, Bool.or_eq_true, Bool.or_eq_false_iff, decide_eq_true_eq, decide_eq_false_iff_not, bne_iff_ne, beq_iff_eq, beq_eq_false_iff_ne, bne_eq_false_iff_eq, ne_eq, Int.not_lt, Int.not_le, Decidable.not_not] at hq)) <;> (try (have hr := hg; simp only [decide_eq_true_eq, decide_eq_false_iff_not] at hr)) <;> (try (exfalso; omega))) | ((first | refine aw_region ?_ | refine acallB (hd) (by repeat' (first | exact trivial | exact rfl | refine And.intro ?_ ?_)) (by kernel_rfl) (by kernel_rfl) (by kernel_rfl) ?_ | refine ago_if (by omega) ?_ | skip); simp (disch := first | exact okY | omega) only [ZU, dI, dB, Nat.reduceMul, Nat.reduceAdd, AOpRun, aexec, Nat.reduceBEq, ↓eget_h, isSh, ↓reduceIte, abin, hr, sps_all, opt1, g1, Nat.reduceLeDiff, List.take, ↓hget_h, D.isBot, D.cells, List.all, D.leaf, splice, List.drop, fits])))
      exact ⟨i + 1, ⟨by omega, hr2⟩, by omega, by refine wk_q [] [(16, 16), (48, 48)] ?_ ?_ <;> repeat' (first | exact trivial | exact vr_val _ | exact vr_list _ | exact vr_ptr _ _ _ rfl | refine And.intro ⟨_, rfl, .inl ⟨_, rfl, by decide, ?_⟩⟩ ?_ | apply And.intro)⟩
  · obtain rfl : i = l.length := by omega
    have ex : hauI h wd l = -1 := ixR_none fun j hj => by
      have := runH_less (h := h) (wd := wd) (l := l) (i := j + 1) (j := l.length) (by omega) hr
      cases hq : runH h wd l (j + 1) with
      | none => rw [hq] at this; simp at this
      | some _ => rfl
    have e2 : hauE h wd l = 0 := by rw [e1, ex]; rfl
    have e3 : hauK h wd l = hgAt h wd l l.length := if_pos e2
    rw [hno2 (by omega), e3, e2]
    (have hg : (987654321 : Nat) - 987654321 = 0 := rfl; have hr := hg; repeat' (first | apply aw_seq | ((first | apply aw_skip | apply aw_exit); try simp only [thenQ, blockQ, if_true, if_false, Nat.reduceEqDiff, reduceCtorEq]) | apply aw_ret | apply aw_block | apply aw_condT rfl | apply aw_condF rfl | (refine aw_cond rfl (fun hg => ?_) (fun hg => ?_) <;> (try (have hq := hg; simp only [Bool.not_eq_true', Bool.not_eq_false', Bool.and_eq_true, Bool.and_eq_false_iff, Bool.or_eq_true, Bool.or_eq_false_iff, decide_eq_true_eq, decide_eq_false_iff_not, bne_iff_ne, beq_iff_eq, beq_eq_false_iff_ne, bne_eq_false_iff_eq, ne_eq, Int.not_lt, Int.not_le, Decidable.not_not] at hq)) <;> (try (have hr := hg; simp only [decide_eq_true_eq, decide_eq_false_iff_not] at hr)) <;> (try (exfalso; omega))) | ((first | refine aw_region ?_ | refine ago_if (by omega) ?_ | skip); simp (disch := first | exact okY | omega) only [ZU, dI, dB, Nat.reduceMul, Nat.reduceAdd, AOpRun, aexec, Nat.reduceBEq, ↓eget_h, isSh, ↓reduceIte, abin, hr, decide_false, ↓hget_h, Nat.reduceLeDiff, List.drop, List.take, D.isBot, D.cells, List.all, D.leaf, splice])))
    all_goals (refine end_q [] [] ?_ ?_ <;> repeat' (first | exact trivial | exact vr_val _ | apply vr_agg | apply vr_tup | apply And.intro))
end Go.Proofs.YtgibbaadjbohdaaDoor
/- What holds behind right steps of a hoist. In numbers; no conditions. -/
namespace Go.Proofs.YtgibbaadjbohdaaDoor
open Go.RowKit Lift

def tchI (l : Bx) : Nat → Int
  | 0 => -1
  | i + 1 => if lo l i = 3 then i else tchI l i
def unhN (l : Bx) : Nat → Int
  | 0 => 0
  | i + 1 => if lo l i = 5 then unhN l i + 1 else unhN l i
structure StepIs (h : Hst) (wd : Int × Int) (k : Hng) (t : Bool) (x : Int × Int) (k' : Hng) (t' : Bool) : Prop where
  cut : k.cut = false
  cyc : k'.cyc = if x.1 = 5 then k.cyc + 1 else k.cyc
  tch : x.1 = 3 → k'.since = 0 ∧ t' = true
  no : x.1 ≠ 3 → k'.since = k.since + 1 ∧ t' = t
  hook : x.1 = 4 → t = true ∧ k.since + 1 ≤ h.charge
  ct : x.1 = 6 → k'.cut = true
  be : 0 < k'.wt → caB h wd (k'.len, k'.len) k'.wt = true ∨ (k'.len = k.len ∧ k'.wt = k.wt)
structure RunIs (h : Hst) (wd : Int × Int) (l : Bx) (i : Nat) : Prop where
  ok : HgOk h (hgAt h wd l i) i
  cyc : (hgAt h wd l i).cyc = unhN l i
  tch : tgAt h wd l i = decide (0 ≤ tchI l i)
  since : (hgAt h wd l i).since = if 0 ≤ tchI l i then i - 1 - tchI l i else i
  be : 0 < (hgAt h wd l i).wt → beB h wd (hgAt h wd l i).len (hgAt h wd l i).wt = true
theorem hauI_all {h : Hst} {wd : Int × Int} {l : Bx} (e : hauI h wd l < 0) : (runH h wd l l.length).isSome = true := by
  rcases ixR_cases (fun i => (runH h wd l (i + 1)).isNone) l.length with ⟨_, hv⟩ | ⟨k, _, e2, _⟩
  · match hl : l.length with
    | 0 => rfl
    | n + 1 =>
      have := hv n (by omega)
      cases hq : runH h wd l (n + 1) with
      | none => rw [hq] at this; simp at this
      | some _ => rfl
  · have e3 : hauI h wd l = k := e2
    omega
theorem hauE_zero {h : Hst} {wd : Int × Int} {l : Bx} (e : hauE h wd l = 0) : wiE h wd = 0 ∧ WdOk h wd ∧ l.length ≤ 100 ∧ (runH h wd l l.length).isSome = true := by
  by_cases h1 : wiE h wd = 0
  · have e1 : hauE h wd l = if l.length > 100 then 2 else if liesB h.ys wd = true then (if hauI h wd l < 0 then 0 else 72) else 1 := if_pos h1
    rw [e1] at e
    by_cases h2 : l.length > 100
    · rw [if_pos h2] at e; omega
    · rw [if_neg h2] at e
      by_cases h3 : liesB h.ys wd = true
      · rw [if_pos h3] at e
        by_cases h4 : hauI h wd l < 0
        · refine ⟨h1, wndE_ok ?_, by omega, hauI_all h4⟩
          rw [wi_wnd h1, if_pos h3]
        · rw [if_neg h4] at e; omega
      · rw [if_neg h3] at e; omega
  · exact absurd ((if_neg h1).symm.trans e) h1
end Go.Proofs.YtgibbaadjbohdaaDoor
/- The cycles of a hoist, in numbers. No conditions. -/
namespace Go.Proofs.YtgibbaadjbohdaaDoor
open Go.RowKit Lift

def cntU (l : Bx) : Nat → Int
  | 0 => 0
  | i + 1 => cntU l i + (if lo l i = 5 then 1 else 0)
theorem stepS_cyc {h : Hst} {wd : Int × Int} {k : Hng} {t : Bool} {x : Int × Int} {y : Hng × Bool} (e : stepS h wd k t x = some y) : y.1.cyc = k.cyc + (if x.1 = 5 then 1 else 0) := by
  unfold stepS outS at e
  by_cases h0 : k.cut = true
  · rw [if_pos h0] at e; cases e
  rw [if_neg h0] at e
  by_cases h1 : x.1 = 1
  · rw [if_pos h1] at e
    rw [if_neg (by omega)]
    repeat' split at e
    all_goals first | (cases e; done) | (cases e; simp)
  rw [if_neg h1] at e
  by_cases h2 : x.1 = 2
  · rw [if_pos h2] at e
    rw [if_neg (by omega)]
    repeat' split at e
    all_goals first | (cases e; done) | (cases e; simp)
  rw [if_neg h2] at e
  by_cases h4 : x.1 = 4
  · rw [if_pos h4] at e
    rw [if_neg (by omega)]
    repeat' split at e
    all_goals first | (cases e; done) | (cases e; simp)
  rw [if_neg h4] at e
  by_cases hz : x.2 ≠ 0
  · rw [if_pos hz] at e; cases e
  rw [if_neg hz] at e
  by_cases h3 : x.1 = 3 ∧ 0 < k.len
  · rw [if_pos h3] at e
    rw [if_neg (by omega)]
    cases e; simp
  rw [if_neg h3] at e
  by_cases h5 : x.1 = 5 ∧ 0 < k.wt
  · rw [if_pos h5] at e
    rw [if_pos h5.1]
    cases e; simp
  rw [if_neg h5] at e
  by_cases h6 : x.1 = 6
  · rw [if_pos h6] at e
    rw [if_neg (by omega)]
    cases e; simp
  rw [if_neg h6] at e; cases e
theorem runH_cyc {h : Hst} {wd : Int × Int} {l : Bx} : ∀ {i : Nat}, (runH h wd l i).isSome = true → (hgAt h wd l i).cyc = cntU l i
  | 0, _ => rfl
  | i + 1, e => by
    have e0 := runH_less (i := i) (j := i + 1) (by omega) e
    have ih := runH_cyc e0
    have hn := runH_next e0
    rw [runH_at e] at hn
    have := stepS_cyc hn.symm
    rw [this, ih]; rfl
theorem hau_cyc {h : Hst} {wd : Int × Int} {l : Bx} (e : hauE h wd l = 0) : (hauK h wd l).cyc = cntU l l.length := by
  unfold hauK
  rw [if_pos e]
  exact runH_cyc (hauE_zero e).2.2.2
theorem cntU_bd (l : Bx) : ∀ i, 0 ≤ cntU l i ∧ cntU l i ≤ i
  | 0 => by simp [cntU]
  | i + 1 => by
    have := cntU_bd l i
    unfold cntU
    split <;> omega
end Go.Proofs.YtgibbaadjbohdaaDoor
/- The functions' bodies, translated. Written by a program; no conditions. -/
namespace Go.Proofs.YtgibbaadjbohdaaDoor
open Go.RowKit Lift

def cparts_Left : ACode :=
 (.seq
 (.region false [oo 3 (.box (.tmp 0)),
 oo 6 (.mv (kI 0)),
 oo 7 (.mv (kI 0)),
 oo 8 (.mv (kI 0))] [])
 (.seq
 (.region false [oo 12 (.loadN 4 (.tmp 3)),
 oo 13 (.mv (.tmp 1)),
 oo 14 (.call (.func 13) [(.tmp 12), (.tmp 13)]),
 oo 11 (.mv (.tmp 14)),
 oo 15 (.ext (.tmp 11) 0),
 oo 16 (.ext (.tmp 11) 1),
 oo 17 (.ext (.tmp 11) 2),
 oo 9 (.mv (.tmp 15)),
 oo 10 (.mv (.tmp 16)),
 oo 8 (.mv (.tmp 17))] [12,13,14,11,15,16,17,10])
 (.seq
 (.seq
 (.region false [oo 18 (.mv (.tmp 8)),
 oo 19 (.bin .neq (.tmp 18) (kI 0))] [18])
 (.cond (.tmp 19)
 (.seq
 (.region false [oo 20 (.mv (.tmp 8)),
 oo 6 (.mv (kI 0)),
 oo 7 (.mv (kI 0)),
 oo 8 (.mv (.tmp 20))] [20])
 .ret)
 .skip))
 (.seq
 (.seq
 (.region false [oo 21 (.mv (.tmp 9)),
 oo 22 (.mv (.tmp 2)),
 oo 23 (.call (.func 17) [(.tmp 21), (.tmp 22)]),
 oo 24 (.un .not (.tmp 23))] [21,22,23])
 (.cond (.tmp 24)
 (.seq
 (.region false [oo 6 (.mv (kI 0)),
 oo 7 (.mv (kI 0)),
 oo 8 (.mv (kI 1))] [])
 .ret)
 .skip))
 (.seq
 (.region false [oo 26 (.mv (.tmp 9)),
 oo 27 (.mv (.tmp 9)),
 oo 28 (.nilc (.tmp 27)),
 oo 29 (.fad 4 (.tmp 28)),
 oo 30 (.load1 (.tmp 29)),
 oo 31 (.mv (.tmp 2)),
 oo 32 (.iadS 1 (.tmp 30) (.tmp 31)),
 oo 33 (.load1 (.tmp 32)),
 oo 34 (.call (.func 18) [(.tmp 26), (.tmp 33)]),
 oo 25 (.mv (.tmp 34)),
 oo 35 (.ext (.tmp 25) 0),
 oo 36 (.ext (.tmp 25) 1),
 oo 6 (.mv (.tmp 35)),
 oo 7 (.mv (.tmp 36))] [26,27,28,29,30,31,32,33,34,25,35,36])
 (.seq
 (.region false [oo 37 (.mv (.tmp 6)),
 oo 38 (.mnx true [(.tmp 37), (kI 0)]),
 oo 39 (.mv (.tmp 7)),
 oo 40 (.mnx true [(.tmp 39), (kI 0)]),
 oo 6 (.mv (.tmp 38)),
 oo 7 (.mv (.tmp 40)),
 oo 8 (.mv (kI 0))] [37,38,39,40])
 .ret))))))
set_option maxRecDepth 100000 in
theorem kparts_Left : IsCode Tryd.prog 9 41 cparts_Left [.tmp 6, .tmp 7, .tmp 8] :=
 ⟨Tryd.f9, _, [24,19,0,3,1,8,9,2,6,7], Tryd.func9, rfl, by decide, rfl, by kernel_rfl, by kernel_rfl⟩
end Go.Proofs.YtgibbaadjbohdaaDoor
/- parts: Left (views last; symbolic names). No conditions. -/
namespace Go.Proofs.YtgibbaadjbohdaaDoor
open Go Go.RowKit Lift

theorem acallSP {P : Program} {dr : Bool} {b : Nat} {Q : St → Prop} {dst : Option Nat} {anc : List Nat} {l : List AOper} {k : Nat} {s : St} {log : Lg} {f : FuncId} {S : Hg} {top i : Nat} {p : Prt} {tl : Hp} {d : D} (hN : HgN S top) (hp : S.pts[i]? = some p) (hA : AC P f [hgV S, ptV p] [] [] d) (hF : Flat d) (hs : s.hp = HF S tl)
    (hl : okLog dr log anc (vN S) [] = true) (h : ARun P dr b Q l (k + 1) (s.app dst d []) ((k, vN S, []) :: log)) : ACallK P dr b Q (.fn f [] []) [.ptr 1104 0, .ptr (pN i) 0] dst anc l k s log := by
  refine acall hA (vN S) ?_ (.inr hF) ?_ hl h
  · rw [hs]
    obtain ⟨v1, v2, v3⟩ := vN_at (idx_lt hp)
    exact ⟨hg_vw hN tl, vw_obj v1 (get_pN hN tl hp) ⟨.refl _, .refl _, .refl _, .refl _, .refl _, .refl _, vec_ints p.since v2 (get_sN hN tl hp) rfl, vec_bools p.chk v3 (get_cN hN tl hp) rfl, trivial⟩ rfl, trivial⟩
  · rw [hs]; exact hg_live hN tl
def lhE (r : Reg) (l : List W4) (n : Int) : Int := if oE r l = 0 then (if partB (opS r l l.length) n = true then 0 else 1) else oE r l
def lhH (r : Reg) (l : List W4) (n : Int) : Int := if lhE r l n = 0 then (if 0 > lfH (opS r l l.length) (prtAt (opS r l l.length) n.toNat) then 0 else lfH (opS r l l.length) (prtAt (opS r l l.length) n.toNat)) else 0
def lhC (r : Reg) (l : List W4) (n : Int) : Int := if lhE r l n = 0 then (if 0 > lfC (opS r l l.length) (prtAt (opS r l l.length) n.toNat) then 0 else lfC (opS r l l.length) (prtAt (opS r l l.length) n.toNat)) else 0
theorem flatT2 (a b : Value) : Flat (.tup [.val a, .val b]) := .tup _ (by intro d hd; simp at hd; rcases hd with rfl | rfl <;> exact .val _)
set_option maxRecDepth 100000 in
set_option maxHeartbeats 8000000 in
theorem pLeft_ac (r : Reg) (l : List W4) (n : Int) (hl : l.length ≤ 100000) : AC Tryd.prog 9 [regD r, .list (wkL l), dI n] [] [] (.tup [dI (lhH r l n), dI (lhC r l n), dI (lhE r l n)]) := by
  refine kparts_Left.ac (n0 := 0) (by simp) ⟨in_regD _ _, .list _, .val _, trivial⟩ trivial rfl ?_
  unfold cparts_Left
  unfold regD regC
  (iterate 3 (try (first | apply aw_seq | ((first | apply aw_skip | apply aw_exit); with_reducible repeat' (first | refine thenQ_n ?_ | refine blockQ_n ?_ | refine thenQ_e ?_ | refine blockQ_t ?_ | refine blockQ_f (by decide) ?_)) | apply aw_ret | apply aw_block | apply aw_condT rfl | apply aw_condF rfl | ((first | refine aw_hide fun K hK => aw_region ?_ | refine ago_if (by omega) ?_ | skip); simp (disch := first | omega | (simp [okLog] <;> omega)) only [ZU, Nat.reduceAdd, Nat.reduceMul, dI, AOpRun, aexec, D.isBot, ↓eget_h, or_self, ↓reduceIte, D.cells, Nat.reduceBEq]) | (subst hK; with_reducible repeat' (first | refine thenQ_n ?_ | refine blockQ_n ?_ | refine thenQ_e ?_ | refine blockQ_t ?_ | refine blockQ_f (by decide) ?_)))))
  refine aw_seq ?_
  refine aw_region_inline [⟨some 12, .loadN 4 (.tmp 3), none, []⟩, ⟨some 13, .mv (.tmp 1), none, []⟩] [⟨some 11, .mv (.tmp 14), none, []⟩, ⟨some 15, .ext (.tmp 11) 0, none, []⟩, ⟨some 16, .ext (.tmp 11) 1, none, []⟩, ⟨some 17, .ext (.tmp 11) 2, none, []⟩, ⟨some 9, .mv (.tmp 15), none, []⟩, ⟨some 10, .mv (.tmp 16), none, []⟩, ⟨some 8, .mv (.tmp 17), none, []⟩] ?_
  simp (disch := first | omega | (simp [okLog] <;> omega)) only [ZU, Nat.reduceAdd, dI, Nat.reduceMul, AOpRun, aexec, Nat.reduceBEq, ↓eget_h, Nat.reduceLeDiff, ↓reduceIte, List.drop, List.take]
  refine inlK [] [(2, .val (.int .i64 n))] _ kparts_open rfl rfl (by simp) (fun _ h => h) ⟨.inr ⟨rfl, .val _⟩, trivial⟩ ?_
  refine aw_wk (s' := ⟨envOf 0 [regD r, .list (wkL l)], [], 300⟩) (wk_env ⟨rfl, rfl, trivial⟩ (fun g c h => by cases h) (by simp only; omega)) ?_
  refine aw_post (open_in r l hl) ?_
  rintro e s' ⟨he, ⟨z, hv, hw⟩ | ⟨z, hw⟩⟩
  case inr =>
    refine ⟨_, hw, inlQ _ he rfl (by unfold opF opZ; simp only [List.length]; omega) ?_⟩
    unfold opF
    have e0 : lhE r l n = oE r l := by unfold lhE; rw [if_neg z]
    have e1 : lhH r l n = 0 := by unfold lhH; rw [e0, if_neg z]
    have e2 : lhC r l n = 0 := by unfold lhC; rw [e0, if_neg z]
    rw [e0, e1, e2]
    have qE : (oE r l != 0) = true := by simpa using z
    generalize oE r l = E at *
    generalize oAt r l = A at *
    have hZ : 1000000 ≤ opZ l := by unfold opZ; omega
    generalize opZ l = Z at *
    simp (disch := first | omega | (simp [okLog] <;> omega)) only [ZU, Nat.reduceAdd, Nat.reduceMul, dI, Nat.reduceBEq, eget_n, ↓eget_h, AOpRun, aexec, opt1]
    (repeat' (first | (with_reducible first | refine thenQ_n ?_ | refine blockQ_n ?_ | refine thenQ_e ?_ | refine blockQ_t ?_ | refine blockQ_f (by decide) ?_) | apply aw_seq | apply aw_skip | apply aw_exit | apply aw_ret | apply aw_block | apply aw_condT rfl | apply aw_condF rfl | ((first | refine aw_hide fun K hK => aw_region ?_ | skip); simp (disch := first | omega | (simp [okLog] <;> omega)) only [ZU, Nat.reduceAdd, Nat.reduceMul, AOpRun, aexec, Nat.reduceBEq, ↓eget_h, isSh, ↓reduceIte, abin, qE]) | subst hK))
    all_goals (refine end_q [] [] ?_ ?_ <;> repeat' (first | exact trivial | exact vr_val _ | apply vr_tup | apply And.intro))
  have hR := valid_ok hv
  obtain ⟨hS, hN, -⟩ := opS_ok hR l l.length
  refine ⟨_, hw, inlQ _ he rfl (by unfold opG opZ; simp only [List.length]; omega) ?_⟩
  unfold opG
  have e0 : lhE r l n = if partB (opS r l l.length) n = true then 0 else 1 := by unfold lhE; rw [if_pos z]
  have e1 : lhH r l n = if lhE r l n = 0 then (if 0 > lfH (opS r l l.length) (prtAt (opS r l l.length) n.toNat) then 0 else lfH (opS r l l.length) (prtAt (opS r l l.length) n.toNat)) else 0 := rfl
  have e2 : lhC r l n = if lhE r l n = 0 then (if 0 > lfC (opS r l l.length) (prtAt (opS r l l.length) n.toNat) then 0 else lfC (opS r l l.length) (prtAt (opS r l l.length) n.toNat)) else 0 := rfl
  rw [e1, e2, e0]
  clear e0 e1 e2
  generalize opS r l l.length = S at *
  have hZ : 1000000 + 1000000 * l.length ≤ opZ l := by unfold opZ; omega
  generalize opZ l = Z at *
  have hN := hN.up hZ
  have hnp := hS.np
  have c1 := part_ac S n
  cases b1 : partB S n
  case false =>
    rw [b1] at c1
    simp only [Bool.false_eq_true, if_false, if_neg (show ¬ (1 : Int) = 0 by decide)]
    simp (disch := first | omega | (simp [okLog] <;> omega)) only [ZU, Nat.reduceAdd, Nat.reduceMul, ↓eget_h, dI, Nat.reduceBEq, AOpRun, aexec, opt1]
    (repeat' (first | (with_reducible first | refine thenQ_n ?_ | refine blockQ_n ?_ | refine thenQ_e ?_ | refine blockQ_t ?_ | refine blockQ_f (by decide) ?_) | apply aw_seq | apply aw_skip | apply aw_exit | apply aw_ret | apply aw_block | apply aw_condT rfl | apply aw_condF rfl | ((first | refine aw_hide fun K hK => aw_region ?_ | refine acallS hN c1 (.val _) rfl (by kernel_rfl) ?_ | skip); simp (disch := first | omega | (simp [okLog] <;> omega)) only [ZU, Nat.reduceAdd, Nat.reduceMul, AOpRun, aexec, Nat.reduceBEq, ↓eget_h, isSh, ↓reduceIte, abin, bne_self_eq_false, dB]) | subst hK))
    all_goals (refine end_q [] [] ?_ ?_ <;> repeat' (first | exact trivial | exact vr_val _ | apply vr_tup | apply And.intro))
  rw [b1] at c1
  obtain ⟨n0, n1⟩ := partB_t hS.np b1
  obtain ⟨p, hp⟩ := nthI n1
  have ep : prtAt S n.toNat = p := by unfold prtAt; rw [hp]; rfl
  simp only [if_true, ep]
  have c2 := left_ac S p hS.is (by have := hS.os; omega) (hS.at hp)
  generalize lfH S p = A at *
  generalize lfC S p = B at *
  have gc := hg_cells S []
  unfold dI at gc
  have gv := get_pv hN []
  have gn := pvC_nth n1
  have nl : n < (S.pts.length : Int) := by omega
  simp (disch := first | omega | (simp [okLog] <;> omega)) only [ZU, Nat.reduceAdd, Nat.reduceMul, ↓eget_h, dI, Nat.reduceBEq, AOpRun, aexec, opt1]
  (repeat' (first | (with_reducible first | refine thenQ_n ?_ | refine blockQ_n ?_ | refine thenQ_e ?_ | refine blockQ_t ?_ | refine blockQ_f (by decide) ?_) | apply aw_seq | apply aw_skip | apply aw_exit | apply aw_ret | apply aw_block | apply aw_condT rfl | apply aw_condF rfl | ((first | refine aw_hide fun K hK => aw_region ?_ | refine acallS hN c1 (.val _) rfl (by kernel_rfl) ?_ | refine acallSP hN hp c2 (flatT2 _ _) rfl (by kernel_rfl) ?_ | skip); simp (disch := first | omega | (simp [okLog] <;> omega)) only [ZU, Nat.reduceAdd, Nat.reduceMul, AOpRun, aexec, Nat.reduceBEq, ↓eget_h, isSh, ↓reduceIte, abin, bne_self_eq_false, dB, run1, gc, Nat.add_zero, n0, nl, Nat.mul_one, gv, gn, dI, opt1, foldI, mx2]) | subst hK))
  all_goals (refine end_q [] [] ?_ ?_ <;> repeat' (first | exact trivial | exact vr_val _ | apply vr_tup | apply And.intro))
end Go.Proofs.YtgibbaadjbohdaaDoor
/- The functions' bodies, translated. Written by a program; no conditions. -/
namespace Go.Proofs.YtgibbaadjbohdaaDoor
open Go.RowKit Lift

def ctop_measures : ACode :=
 (.seq
 (.region false [oo 0 (.mv (.const (.bool false)))] [])
 (.seq
 (.region false [oo 4 (.buildSl 1 3 [(.val (.int .i64 0)), (.val (.int .i64 0)), (.val (.int .i64 0))] [(0,1, (kI 0)), (1,1, (kI 10)), (2,1, (kI 20))]),
 oo 5 (.buildSl 1 2 [(.val (.int .i64 0)), (.val (.int .i64 0))] [(0,1, (kI 0)), (1,1, (kI 5))]),
 oo 6 (.buildSl 1 2 [(.val (.int .i64 0)), (.val (.int .i64 0))] [(0,1, (kI 0)), (1,1, (kI 10))]),
 oo 7 (.buildSl 1 2 [(.val (.int .i64 0)), (.val (.int .i64 0))] [(0,1, (kI 20)), (1,1, (kI 30))]),
 oo 8 (.buildSl 1 2 [(.val (.int .i64 0)), (.val (.int .i64 0))] [(0,1, (kI 10)), (1,1, (kI 50))]),
 oo 9 (.buildSl 1 3 [(.val (.slice none 0 0)), (.val (.slice none 0 0)), (.val (.slice none 0 0))] [(0,1, (.tmp 6)), (1,1, (.tmp 7)), (2,1, (.tmp 8))]),
 oo 10 (.build [(.val (.slice none 0 0)), (.val (.slice none 0 0)), (.val (.slice none 0 0))] [(0,1, (.tmp 4)), (1,1, (.tmp 5)), (2,1, (.tmp 9))]),
 oo 1 (.mem [(.val (.slice none 0 0)), (.val (.slice none 0 0)), (.val (.slice none 0 0))]),
 on (.store 3 (.tmp 1) (.tmp 10))] [4,5,6,7,8,9,10])
 (.seq
 (.region false [oo 12 (.loadN 3 (.tmp 1)),
 oo 13 (.build [(.val (.int .i64 0)), (.val (.int .i64 0))] [(0,1, (kI 5)), (1,1, (kI 15))]),
 oo 14 (.build [(.val (.int .i64 0)), (.val (.int .i64 0))] [(1,1, (kI 5))]),
 oo 15 (.call (.func 10) [(.tmp 12), (.tmp 13), (.tmp 14)]),
 oo 11 (.mv (.tmp 15)),
 oo 16 (.ext (.tmp 11) 0),
 oo 17 (.ext (.tmp 11) 1),
 oo 2 (.mem [(.val (.int .i64 0)), (.val (.int .i64 0))]),
 on (.store 2 (.tmp 2) (.tmp 16)),
 oo 3 (.mv (.tmp 17))] [12,13,14,15,11,16,17])
 (.seq
 (.region false [oo 18 (.mv (.tmp 3)),
 oo 19 (.bin .eql (.tmp 18) (kI 0)),
 oo 20 (.mv (.tmp 19)),
 og 21 20 true (.loadN 2 (.tmp 2)) [],
 og 22 20 true (.build [(.val (.int .i64 0)), (.val (.int .i64 0))] [(0,1, (kI 10)), (1,1, (kI 40))]) [],
 og 23 20 true (.eqa false [false, false] (.tmp 21) (.tmp 22)) [],
 oo 24 (.pick (.tmp 20) (.tmp 23) (.const (.bool false))),
 oo 0 (.mv (.tmp 24))] [18,19,20,21,22,23,24])
 .ret))))
set_option maxRecDepth 100000 in
theorem ktop_measures : IsCode Tryd.prog 4 25 ctop_measures [.tmp 0] :=
 ⟨Tryd.f4, _, [1,3,2,0], Tryd.func4, rfl, by decide, rfl, by kernel_rfl, by kernel_rfl⟩
end Go.Proofs.YtgibbaadjbohdaaDoor
/- The tops' look at a table. No conditions. -/
namespace Go.Proofs.YtgibbaadjbohdaaDoor
open Go.RowKit Lift

theorem top_bound : boundR [0, 10, 20] [0, 5] [[0, 10], [20, 30], [10, 50]] (5, 15) (0, 5) = ((10, 40), 0) := by decide +kernel
set_option maxRecDepth 100000 in
set_option maxHeartbeats 4000000 in
theorem measures_ac : AC Tryd.prog 4 [] [] [] (dB true) := by
  refine ktop_measures.ac (n0 := 0) (by simp) trivial trivial rfl ?_
  unfold ctop_measures
  have bd := bound_ac (xs := [0, 10, 20]) (ys := [0, 5]) (vs := [[0, 10], [20, 30], [10, 50]]) (5, 15) (0, 5) ⟨by decide, by decide, by decide, by intro r hr; simp at hr; rcases hr with rfl | rfl | rfl <;> decide⟩
  rw [top_bound] at bd
  unfold spD dI at bd
  refine aw_seq (aw_region ?_)
  simp (disch := first | exact okY | omega) only [ZU, dB, Nat.reduceMul, AOpRun, aexec]
  refine aw_seq (aw_region ?_)
  simp (disch := first | exact okY | omega) only [ZU, Nat.reduceAdd, Nat.reduceMul, AOpRun, aexec, ↓reduceIte, fillD, D.isBot, D.cells, ne_eq, not_true_eq_false, Nat.reduceGT, or_self, splice, List.take, List.drop, Nat.reduceBEq, ↓eget_h, ↓hget_h, Nat.reduceLeDiff, List.all, D.leaf]
  refine aw_wk (s' := ⟨[(1, .ptr 0 0)], [(0, [.list (ints [0, 10, 20]), .list (ints [0, 5]), .vec 40 3 1]), (40, [.list (ints [0, 10]), .list (ints [20, 30]), .list (ints [10, 50])])], 400⟩) ?_ ?_
  · refine wk_q [8, 16, 24, 32, 40] [(0, 64), (40, 48)] ?_ ?_ <;> repeat' (first | exact trivial | exact vr_vec _ _ _ _ rfl | exact vr_ptr _ _ _ rfl | refine vr_fl _ _ _ _ _ (by decide) rfl ?_ ?_ ?_ ?_ | refine And.intro ⟨_, rfl, .inl ⟨_, rfl, by decide, ?_⟩⟩ ?_ | apply And.intro)
    all_goals first | exact ints_one _ | rfl | exact icells_in [_, _] | exact icells_in [_, _, _]
  refine aw_wk (s' := ⟨[(1, .ptr 0 0)], [(0, [.list (ints [0, 10, 20]), .list (ints [0, 5]), .list (rows [[0, 10], [20, 30], [10, 50]])])], 400⟩) ?_ ?_
  · refine wk_q [40] [(0, 0)] ?_ ?_ <;> repeat' (first | exact trivial | exact vr_list _ | exact vr_ptr _ _ _ rfl | refine vr_fl _ _ _ _ _ (by decide) rfl ?_ ?_ ?_ ?_ | refine And.intro ⟨_, rfl, .inl ⟨_, rfl, by decide, ?_⟩⟩ ?_ | apply And.intro)
    all_goals first | exact rows_one [[0, 10], [20, 30], [10, 50]] | rfl | exact rcells_in [[0, 10], [20, 30], [10, 50]]
  unfold tabD at bd
  (repeat' (first | (with_reducible first | refine thenQ_n ?_ | refine blockQ_n ?_ | refine thenQ_e ?_ | refine blockQ_t ?_ | refine blockQ_f (by decide) ?_) | apply aw_seq | apply aw_skip | apply aw_exit | apply aw_ret | apply aw_block | apply aw_condT rfl | apply aw_condF rfl | ((first | refine aw_hide fun K hK => aw_region ?_ | refine acall0 (bd) ?_ | refine ago_if (by omega) ?_ | skip); simp (disch := first | exact okY | omega) only [ZU, Nat.reduceAdd, Nat.reduceMul, AOpRun, aexec, ↓eget_h, Nat.reduceLeDiff, ↓reduceIte, List.drop, List.take, Nat.reduceBEq, fillD, D.isBot, D.cells, ne_eq, not_true_eq_false, Nat.reduceGT, or_self, splice, opt1, ↓hget_h, List.all, D.leaf, isSh, abin, ARun_some, AG_tt, D.isAgg, isB, eqCells, scalarEq]) | subst hK))
  all_goals (refine end_q [] [] ?_ ?_ <;> repeat' (first | exact trivial | exact vr_val _))
end Go.Proofs.YtgibbaadjbohdaaDoor
