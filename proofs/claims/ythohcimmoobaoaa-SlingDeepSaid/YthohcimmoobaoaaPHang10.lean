/- Texts of the laws, shared part 10. No conditions. -/
import Derived.Test.YthohcimmoobaoaaPHang09
/- A step of a hoist: the program's. No conditions. -/
set_option linter.unusedSimpArgs false
set_option linter.unusedVariables false
namespace Go.Proofs.Ythohcimmoobaoaa
open Go.RowKit Lift

theorem do_none {h : Hst} {wd : Int × Int} {k : Hng} {t : Bool} {x : Int × Int} (e : stepS h wd k t x = none) : doK h wd k t x = ⟨k.len, k.wt, k.since + 1, k.cyc, k.cut⟩ ∧ doT h wd k t x = t ∧ doB h wd k t x = false := by
  unfold doK doT doB; rw [e]; exact ⟨rfl, rfl, rfl⟩
theorem do_some {h : Hst} {wd : Int × Int} {k k' : Hng} {t t' : Bool} {x : Int × Int} (e : stepS h wd k t x = some (k', t')) : doK h wd k t x = k' ∧ doT h wd k t x = t' ∧ doB h wd k t x = true := by
  unfold doK doT doB; rw [e]; exact ⟨rfl, rfl, rfl⟩
set_option maxRecDepth 100000 in
set_option maxHeartbeats 1000000 in
theorem do_cut_ac (h : Hst) (wd : Int × Int) (len wt si cy kd n : Int) (t : Bool) (i : Int) (hO : HoOk h) (hc : h.cable ≤ 100) (ho0 : HgOk h ⟨len, wt, si, cy, true⟩ i) (hi : i ≤ 100)  :
    AC Try.prog 74 [.ptr 48 0, spD (kd, n)] [(48, wiC h wd ⟨len, wt, si, cy, true⟩ t)] [(48, some (wiC h wd (doK h wd ⟨len, wt, si, cy, true⟩ t (kd, n)) (doT h wd ⟨len, wt, si, cy, true⟩ t (kd, n))))] (dB (doB h wd ⟨len, wt, si, cy, true⟩ t (kd, n))) := by
  have q1 : 0 ≤ len := ho0.l1
  have q2 : len ≤ h.cable := ho0.l2
  have q3 : 0 ≤ wt := ho0.w1
  have q4 : wt ≤ 100000 := ho0.w2
  have q5 : 0 ≤ si := ho0.s1
  have q6 : si ≤ i := ho0.s2
  have q7 : 0 ≤ cy := ho0.c1
  have q8 : cy ≤ i := ho0.c2
  have e : stepS h wd ⟨len, wt, si, cy, true⟩ t (kd, n) = none := by
    unfold stepS; simp
  obtain ⟨z1, z2, z3⟩ := do_none e
  rw [z1, z2, z3]
  refine kpsling_winch_do.ac (n0 := 56) (by simp) ⟨.ptr _ _ (by omega), in_agg2 _ _ _, trivial⟩ ⟨⟨by omega, wiC_in _ _ _ _ _⟩, trivial⟩ rfl ?_
  unfold cpsling_winch_do wiC spD
  (have hg : (987654321 : Nat) - 987654321 = 0 := rfl; have hr := hg; repeat' (first | refine aw_seq ?_ | (refine aw_skip ?_; try simp only [thenQ, blockQ, if_true, if_false, Nat.reduceEqDiff, reduceCtorEq]) | (refine aw_exit ?_; try simp only [thenQ, blockQ, if_true, if_false, Nat.reduceEqDiff, reduceCtorEq]) | refine aw_ret ?_ | refine aw_block ?_ | refine aw_condT rfl ?_ | refine aw_condF rfl ?_ | (refine aw_cond rfl (fun hg => ?_) (fun hg => ?_) <;> (try (have hq := hg; simp only [Bool.not_eq_true', Bool.not_eq_false', Bool.and_eq_true, Bool.and_eq_false_iff, Bool.or_eq_true, Bool.or_eq_false_iff, decide_eq_true_eq, decide_eq_false_iff_not, bne_iff_ne, beq_iff_eq, beq_eq_false_iff_ne, bne_eq_false_iff_eq, ne_eq, Int.not_lt, Int.not_le, Decidable.not_not] at hq)) <;> (try (have hr := hg; simp only [decide_eq_true_eq, decide_eq_false_iff_not] at hr)) <;> (try (exfalso; omega))) | ((first | refine aw_region ?_ | refine ago_if (by omega) ?_ | skip); simp (config := {maxSteps := 10000000}) (disch := first | exact okYes (by kernel_rfl) | omega) only [thenQ, List.map, dI, dB, List.length, Nat.zero_add, Nat.reduceAdd, Nat.reduceMul, envOf, ARun_none, AOpRun, aexec, D.isBot, FSt.ev, St.F, eget_c, Nat.reduceBEq, ↓eget_h, cond_false, Bool.false_eq_true, Option.isSome, hget_c, hget_n, or_self, ↓reduceIte, D.cells, AGo_ok, St.app, putO, eput_c, eput_n, hups, hput_c, hput_n, ARun_nil, dropE_c, inL_n, dropE_n, Option.map, run1, beq_self_eq_true, cond_true, List.getElem?_cons_succ, List.getElem?_cons_zero, isSh, abin, fits, Nat.reduceLeDiff, List.all, D.leaf, Bool.and_true, and_self, splice, List.take, List.cons_append, List.nil_append, List.drop, inL_c, blockQ])))
  all_goals (refine end_to [] [(48, 48)] (by first | exact .inl rfl | exact .inr rfl) rfl (by kernel_rfl) (by kernel_rfl) (by kernel_rfl) ?_ ?_ <;> repeat' (first | exact trivial | exact vr_val _ | exact vr_list _ | exact vr_at _ | exact vr_nil | exact vr_cap0 | exact vr_vec _ _ _ _ rfl | exact vr_own _ _ _ _ _ rfl | exact vr_ptr _ _ _ rfl | exact vr_nilv _ _ _ rfl | exact vr_bot _ | exact vr_cap0v _ _ _ rfl | exact vr_cap0l | apply vr_agg | apply vr_tup | apply vr_fn | refine vr_yld _ _ _ rfl ?_ | exact Ren.bot _ | exact Ren.val _ | exact Ren.list _ | exact Ren.at_ _ | exact Ren.ptr _ _ _ rfl | refine Ren.yld _ _ _ _ _ rfl rfl (RenL.get ?_).2 (fun _ _ _ h => h) | refine vr_fl _ _ _ _ _ (by decide) rfl ?_ ?_ ?_ ?_ | refine And.intro ⟨_, rfl, .inl ⟨_, rfl, by decide, ?_⟩⟩ ?_ | refine And.intro ⟨_, rfl, _, rfl, by decide, ?_⟩ ?_ | refine And.intro ⟨_, rfl, .inr ⟨rfl, rfl, of_decide_eq_true (by kernel_rfl)⟩⟩ ?_ | apply And.intro | refine vr_valq ?_ | refine vr_listq ?_ | exact vrl_flat _ (by first | exact icells_in _ | exact rcells_in _ | exact scells_in _ | exact bcells_in _ | assumption)))
set_option maxRecDepth 100000 in
set_option maxHeartbeats 1000000 in
theorem do_o1f_ac (h : Hst) (wd : Int × Int) (len wt si cy kd n : Int) (t : Bool) (i : Int) (hO : HoOk h) (hc : h.cable ≤ 100) (ho0 : HgOk h ⟨len, wt, si, cy, false⟩ i) (hi : i ≤ 100) (hk : kd = 1) (c1 : wI n 1 h.cable = false) :
    AC Try.prog 74 [.ptr 48 0, spD (kd, n)] [(48, wiC h wd ⟨len, wt, si, cy, false⟩ t)] [(48, some (wiC h wd (doK h wd ⟨len, wt, si, cy, false⟩ t (kd, n)) (doT h wd ⟨len, wt, si, cy, false⟩ t (kd, n))))] (dB (doB h wd ⟨len, wt, si, cy, false⟩ t (kd, n))) := by
  subst hk
  have q1 : 0 ≤ len := ho0.l1
  have q2 : len ≤ h.cable := ho0.l2
  have q3 : 0 ≤ wt := ho0.w1
  have q4 : wt ≤ 100000 := ho0.w2
  have q5 : 0 ≤ si := ho0.s1
  have q6 : si ≤ i := ho0.s2
  have q7 : 0 ≤ cy := ho0.c1
  have q8 : cy ≤ i := ho0.c2
  have e : stepS h wd ⟨len, wt, si, cy, false⟩ t (1, n) = none := by
    unfold stepS; simp [c1]
  obtain ⟨z1, z2, z3⟩ := do_none e
  rw [z1, z2, z3]
  refine kpsling_winch_do.ac (n0 := 56) (by simp) ⟨.ptr _ _ (by omega), in_agg2 _ _ _, trivial⟩ ⟨⟨by omega, wiC_in _ _ _ _ _⟩, trivial⟩ rfl ?_
  unfold cpsling_winch_do wiC spD
  (have hg : (987654321 : Nat) - 987654321 = 0 := rfl; have hr := hg; repeat' (first | refine aw_seq ?_ | (refine aw_skip ?_; try simp only [thenQ, blockQ, if_true, if_false, Nat.reduceEqDiff, reduceCtorEq]) | (refine aw_exit ?_; try simp only [thenQ, blockQ, if_true, if_false, Nat.reduceEqDiff, reduceCtorEq]) | refine aw_ret ?_ | refine aw_block ?_ | refine aw_condT rfl ?_ | refine aw_condF rfl ?_ | (refine aw_cond rfl (fun hg => ?_) (fun hg => ?_) <;> (try (have hq := hg; simp only [Bool.not_eq_true', Bool.not_eq_false', Bool.and_eq_true, Bool.and_eq_false_iff, Bool.or_eq_true, Bool.or_eq_false_iff, decide_eq_true_eq, decide_eq_false_iff_not, bne_iff_ne, beq_iff_eq, beq_eq_false_iff_ne, bne_eq_false_iff_eq, ne_eq, Int.not_lt, Int.not_le, Decidable.not_not] at hq)) <;> (try (have hr := hg; simp only [decide_eq_true_eq, decide_eq_false_iff_not] at hr)) <;> (try (exfalso; omega))) | ((first | refine aw_region ?_ | refine acall0 (swithin_ac _ _ _) ?_ | refine ago_if (by omega) ?_ | skip); simp (config := {maxSteps := 10000000}) (disch := first | exact okYes (by kernel_rfl) | omega) only [thenQ, List.map, dI, dB, List.length, Nat.zero_add, Nat.reduceAdd, Nat.reduceMul, envOf, ARun_none, AOpRun, aexec, D.isBot, FSt.ev, St.F, eget_c, Nat.reduceBEq, ↓eget_h, cond_false, Bool.false_eq_true, Option.isSome, hget_c, hget_n, or_self, ↓reduceIte, D.cells, AGo_ok, St.app, putO, eput_c, eput_n, hups, hput_c, hput_n, ARun_nil, dropE_c, inL_n, dropE_n, Option.map, run1, beq_self_eq_true, cond_true, List.getElem?_cons_succ, List.getElem?_cons_zero, isSh, abin, fits, Nat.reduceLeDiff, List.all, D.leaf, Bool.and_true, and_self, splice, List.take, List.cons_append, List.nil_append, List.drop, inL_c, ↓hget_h, c1, ARun_some, AG_ft, blockQ])))
  all_goals (refine end_to [] [(48, 48)] (by first | exact .inl rfl | exact .inr rfl) rfl (by kernel_rfl) (by kernel_rfl) (by kernel_rfl) ?_ ?_ <;> repeat' (first | exact trivial | exact vr_val _ | exact vr_list _ | exact vr_at _ | exact vr_nil | exact vr_cap0 | exact vr_vec _ _ _ _ rfl | exact vr_own _ _ _ _ _ rfl | exact vr_ptr _ _ _ rfl | exact vr_nilv _ _ _ rfl | exact vr_bot _ | exact vr_cap0v _ _ _ rfl | exact vr_cap0l | apply vr_agg | apply vr_tup | apply vr_fn | refine vr_yld _ _ _ rfl ?_ | exact Ren.bot _ | exact Ren.val _ | exact Ren.list _ | exact Ren.at_ _ | exact Ren.ptr _ _ _ rfl | refine Ren.yld _ _ _ _ _ rfl rfl (RenL.get ?_).2 (fun _ _ _ h => h) | refine vr_fl _ _ _ _ _ (by decide) rfl ?_ ?_ ?_ ?_ | refine And.intro ⟨_, rfl, .inl ⟨_, rfl, by decide, ?_⟩⟩ ?_ | refine And.intro ⟨_, rfl, _, rfl, by decide, ?_⟩ ?_ | refine And.intro ⟨_, rfl, .inr ⟨rfl, rfl, of_decide_eq_true (by kernel_rfl)⟩⟩ ?_ | apply And.intro | refine vr_valq ?_ | refine vr_listq ?_ | exact vrl_flat _ (by first | exact icells_in _ | exact rcells_in _ | exact scells_in _ | exact bcells_in _ | assumption)))
set_option maxRecDepth 100000 in
set_option maxHeartbeats 1000000 in
theorem do_o1o_ac (h : Hst) (wd : Int × Int) (len wt si cy kd n : Int) (t : Bool) (i : Int) (hO : HoOk h) (hc : h.cable ≤ 100) (ho0 : HgOk h ⟨len, wt, si, cy, false⟩ i) (hi : i ≤ 100) (hk : kd = 1) (c1 : wI n 1 h.cable = true) (ho : wI (len + n) 0 h.cable = true ∧ caB h wd (len + n, len + n) wt = true) :
    AC Try.prog 74 [.ptr 48 0, spD (kd, n)] [(48, wiC h wd ⟨len, wt, si, cy, false⟩ t)] [(48, some (wiC h wd (doK h wd ⟨len, wt, si, cy, false⟩ t (kd, n)) (doT h wd ⟨len, wt, si, cy, false⟩ t (kd, n))))] (dB (doB h wd ⟨len, wt, si, cy, false⟩ t (kd, n))) := by
  subst hk
  have q1 : 0 ≤ len := ho0.l1
  have q2 : len ≤ h.cable := ho0.l2
  have q3 : 0 ≤ wt := ho0.w1
  have q4 : wt ≤ 100000 := ho0.w2
  have q5 : 0 ≤ si := ho0.s1
  have q6 : si ≤ i := ho0.s2
  have q7 : 0 ≤ cy := ho0.c1
  have q8 : cy ≤ i := ho0.c2
  have e : stepS h wd ⟨len, wt, si, cy, false⟩ t (1, n) = some (⟨len + n, wt, si + 1, cy, false⟩, t) := by
    unfold stepS outS; simp [c1, ho.1, ho.2]
  obtain ⟨z1, z2, z3⟩ := do_some e
  rw [z1, z2, z3]
  have hn := wI_t c1
  have outO := outO_ac h wd ⟨len, wt, si + 1, cy, false⟩ t (n) hO ⟨q1, by simp only; omega⟩ ⟨by omega, by omega⟩ ho
  refine kpsling_winch_do.ac (n0 := 56) (by simp) ⟨.ptr _ _ (by omega), in_agg2 _ _ _, trivial⟩ ⟨⟨by omega, wiC_in _ _ _ _ _⟩, trivial⟩ rfl ?_
  unfold cpsling_winch_do wiC spD
  unfold wiC at outO
  (have hg : (987654321 : Nat) - 987654321 = 0 := rfl; have hr := hg; repeat' (first | refine aw_seq ?_ | (refine aw_skip ?_; try simp only [thenQ, blockQ, if_true, if_false, Nat.reduceEqDiff, reduceCtorEq]) | (refine aw_exit ?_; try simp only [thenQ, blockQ, if_true, if_false, Nat.reduceEqDiff, reduceCtorEq]) | refine aw_ret ?_ | refine aw_block ?_ | refine aw_condT rfl ?_ | refine aw_condF rfl ?_ | (refine aw_cond rfl (fun hg => ?_) (fun hg => ?_) <;> (try (have hq := hg; simp only [Bool.not_eq_true', Bool.not_eq_false', Bool.and_eq_true, Bool.and_eq_false_iff, Bool.or_eq_true, Bool.or_eq_false_iff, decide_eq_true_eq, decide_eq_false_iff_not, bne_iff_ne, beq_iff_eq, beq_eq_false_iff_ne, bne_eq_false_iff_eq, ne_eq, Int.not_lt, Int.not_le, Decidable.not_not] at hq)) <;> (try (have hr := hg; simp only [decide_eq_true_eq, decide_eq_false_iff_not] at hr)) <;> (try (exfalso; omega))) | ((first | refine aw_region ?_ | refine acall0 (swithin_ac _ _ _) ?_ | refine acallB (outO) (by repeat' (first | exact trivial | exact rfl | refine And.intro ?_ ?_)) (by kernel_rfl) (by kernel_rfl) (by kernel_rfl) ?_ | refine ago_if (by omega) ?_ | skip); simp (config := {maxSteps := 10000000}) (disch := first | exact okYes (by kernel_rfl) | omega) only [thenQ, List.map, dI, dB, List.length, Nat.zero_add, Nat.reduceAdd, Nat.reduceMul, envOf, ARun_none, AOpRun, aexec, D.isBot, FSt.ev, St.F, eget_c, Nat.reduceBEq, ↓eget_h, cond_false, Bool.false_eq_true, Option.isSome, hget_c, hget_n, or_self, ↓reduceIte, D.cells, AGo_ok, St.app, putO, eput_c, eput_n, hups, hput_c, hput_n, ARun_nil, dropE_c, inL_n, dropE_n, Option.map, run1, beq_self_eq_true, cond_true, List.getElem?_cons_succ, List.getElem?_cons_zero, isSh, abin, fits, Nat.reduceLeDiff, List.all, D.leaf, Bool.and_true, and_self, splice, List.take, List.cons_append, List.nil_append, List.drop, inL_c, ↓hget_h, c1, ARun_some, AG_tt, List.append_nil, blockQ])))
  all_goals (refine end_to [] [(48, 48)] (by first | exact .inl rfl | exact .inr rfl) rfl (by kernel_rfl) (by kernel_rfl) (by kernel_rfl) ?_ ?_ <;> repeat' (first | exact trivial | exact vr_val _ | exact vr_list _ | exact vr_at _ | exact vr_nil | exact vr_cap0 | exact vr_vec _ _ _ _ rfl | exact vr_own _ _ _ _ _ rfl | exact vr_ptr _ _ _ rfl | exact vr_nilv _ _ _ rfl | exact vr_bot _ | exact vr_cap0v _ _ _ rfl | exact vr_cap0l | apply vr_agg | apply vr_tup | apply vr_fn | refine vr_yld _ _ _ rfl ?_ | exact Ren.bot _ | exact Ren.val _ | exact Ren.list _ | exact Ren.at_ _ | exact Ren.ptr _ _ _ rfl | refine Ren.yld _ _ _ _ _ rfl rfl (RenL.get ?_).2 (fun _ _ _ h => h) | refine vr_fl _ _ _ _ _ (by decide) rfl ?_ ?_ ?_ ?_ | refine And.intro ⟨_, rfl, .inl ⟨_, rfl, by decide, ?_⟩⟩ ?_ | refine And.intro ⟨_, rfl, _, rfl, by decide, ?_⟩ ?_ | refine And.intro ⟨_, rfl, .inr ⟨rfl, rfl, of_decide_eq_true (by kernel_rfl)⟩⟩ ?_ | apply And.intro | refine vr_valq ?_ | refine vr_listq ?_ | exact vrl_flat _ (by first | exact icells_in _ | exact rcells_in _ | exact scells_in _ | exact bcells_in _ | assumption)))
set_option maxRecDepth 100000 in
set_option maxHeartbeats 1000000 in
theorem do_o1e_ac (h : Hst) (wd : Int × Int) (len wt si cy kd n : Int) (t : Bool) (i : Int) (hO : HoOk h) (hc : h.cable ≤ 100) (ho0 : HgOk h ⟨len, wt, si, cy, false⟩ i) (hi : i ≤ 100) (hk : kd = 1) (c1 : wI n 1 h.cable = true) (ho : ¬ (wI (len + n) 0 h.cable = true ∧ caB h wd (len + n, len + n) wt = true)) :
    AC Try.prog 74 [.ptr 48 0, spD (kd, n)] [(48, wiC h wd ⟨len, wt, si, cy, false⟩ t)] [(48, some (wiC h wd (doK h wd ⟨len, wt, si, cy, false⟩ t (kd, n)) (doT h wd ⟨len, wt, si, cy, false⟩ t (kd, n))))] (dB (doB h wd ⟨len, wt, si, cy, false⟩ t (kd, n))) := by
  subst hk
  have q1 : 0 ≤ len := ho0.l1
  have q2 : len ≤ h.cable := ho0.l2
  have q3 : 0 ≤ wt := ho0.w1
  have q4 : wt ≤ 100000 := ho0.w2
  have q5 : 0 ≤ si := ho0.s1
  have q6 : si ≤ i := ho0.s2
  have q7 : 0 ≤ cy := ho0.c1
  have q8 : cy ≤ i := ho0.c2
  have e : stepS h wd ⟨len, wt, si, cy, false⟩ t (1, n) = none := by
    unfold stepS outS; simp [c1]; intro a; exact Bool.eq_false_iff.2 fun b => ho ⟨a, b⟩
  obtain ⟨z1, z2, z3⟩ := do_none e
  rw [z1, z2, z3]
  have hn := wI_t c1
  have outE := outE_ac h wd ⟨len, wt, si + 1, cy, false⟩ t (n) hO ⟨q1, by simp only; omega⟩ ⟨by omega, by omega⟩ ho
  refine kpsling_winch_do.ac (n0 := 56) (by simp) ⟨.ptr _ _ (by omega), in_agg2 _ _ _, trivial⟩ ⟨⟨by omega, wiC_in _ _ _ _ _⟩, trivial⟩ rfl ?_
  unfold cpsling_winch_do wiC spD
  unfold wiC at outE
  (have hg : (987654321 : Nat) - 987654321 = 0 := rfl; have hr := hg; repeat' (first | refine aw_seq ?_ | (refine aw_skip ?_; try simp only [thenQ, blockQ, if_true, if_false, Nat.reduceEqDiff, reduceCtorEq]) | (refine aw_exit ?_; try simp only [thenQ, blockQ, if_true, if_false, Nat.reduceEqDiff, reduceCtorEq]) | refine aw_ret ?_ | refine aw_block ?_ | refine aw_condT rfl ?_ | refine aw_condF rfl ?_ | (refine aw_cond rfl (fun hg => ?_) (fun hg => ?_) <;> (try (have hq := hg; simp only [Bool.not_eq_true', Bool.not_eq_false', Bool.and_eq_true, Bool.and_eq_false_iff, Bool.or_eq_true, Bool.or_eq_false_iff, decide_eq_true_eq, decide_eq_false_iff_not, bne_iff_ne, beq_iff_eq, beq_eq_false_iff_ne, bne_eq_false_iff_eq, ne_eq, Int.not_lt, Int.not_le, Decidable.not_not] at hq)) <;> (try (have hr := hg; simp only [decide_eq_true_eq, decide_eq_false_iff_not] at hr)) <;> (try (exfalso; omega))) | ((first | refine aw_region ?_ | refine acall0 (swithin_ac _ _ _) ?_ | refine acallB (outE) (by repeat' (first | exact trivial | exact rfl | refine And.intro ?_ ?_)) (by kernel_rfl) (by kernel_rfl) (by kernel_rfl) ?_ | refine ago_if (by omega) ?_ | skip); simp (config := {maxSteps := 10000000}) (disch := first | exact okYes (by kernel_rfl) | omega) only [thenQ, List.map, dI, dB, List.length, Nat.zero_add, Nat.reduceAdd, Nat.reduceMul, envOf, ARun_none, AOpRun, aexec, D.isBot, FSt.ev, St.F, eget_c, Nat.reduceBEq, ↓eget_h, cond_false, Bool.false_eq_true, Option.isSome, hget_c, hget_n, or_self, ↓reduceIte, D.cells, AGo_ok, St.app, putO, eput_c, eput_n, hups, hput_c, hput_n, ARun_nil, dropE_c, inL_n, dropE_n, Option.map, run1, beq_self_eq_true, cond_true, List.getElem?_cons_succ, List.getElem?_cons_zero, isSh, abin, fits, Nat.reduceLeDiff, List.all, D.leaf, Bool.and_true, and_self, splice, List.take, List.cons_append, List.nil_append, List.drop, inL_c, ↓hget_h, c1, ARun_some, AG_tt, List.append_nil, blockQ])))
  all_goals (refine end_to [] [(48, 48)] (by first | exact .inl rfl | exact .inr rfl) rfl (by kernel_rfl) (by kernel_rfl) (by kernel_rfl) ?_ ?_ <;> repeat' (first | exact trivial | exact vr_val _ | exact vr_list _ | exact vr_at _ | exact vr_nil | exact vr_cap0 | exact vr_vec _ _ _ _ rfl | exact vr_own _ _ _ _ _ rfl | exact vr_ptr _ _ _ rfl | exact vr_nilv _ _ _ rfl | exact vr_bot _ | exact vr_cap0v _ _ _ rfl | exact vr_cap0l | apply vr_agg | apply vr_tup | apply vr_fn | refine vr_yld _ _ _ rfl ?_ | exact Ren.bot _ | exact Ren.val _ | exact Ren.list _ | exact Ren.at_ _ | exact Ren.ptr _ _ _ rfl | refine Ren.yld _ _ _ _ _ rfl rfl (RenL.get ?_).2 (fun _ _ _ h => h) | refine vr_fl _ _ _ _ _ (by decide) rfl ?_ ?_ ?_ ?_ | refine And.intro ⟨_, rfl, .inl ⟨_, rfl, by decide, ?_⟩⟩ ?_ | refine And.intro ⟨_, rfl, _, rfl, by decide, ?_⟩ ?_ | refine And.intro ⟨_, rfl, .inr ⟨rfl, rfl, of_decide_eq_true (by kernel_rfl)⟩⟩ ?_ | apply And.intro | refine vr_valq ?_ | refine vr_listq ?_ | exact vrl_flat _ (by first | exact icells_in _ | exact rcells_in _ | exact scells_in _ | exact bcells_in _ | assumption)))
set_option maxRecDepth 100000 in
set_option maxHeartbeats 1000000 in
theorem do_o2f_ac (h : Hst) (wd : Int × Int) (len wt si cy kd n : Int) (t : Bool) (i : Int) (hO : HoOk h) (hc : h.cable ≤ 100) (ho0 : HgOk h ⟨len, wt, si, cy, false⟩ i) (hi : i ≤ 100) (hk : kd = 2) (c1 : wI n 1 h.cable = false) :
    AC Try.prog 74 [.ptr 48 0, spD (kd, n)] [(48, wiC h wd ⟨len, wt, si, cy, false⟩ t)] [(48, some (wiC h wd (doK h wd ⟨len, wt, si, cy, false⟩ t (kd, n)) (doT h wd ⟨len, wt, si, cy, false⟩ t (kd, n))))] (dB (doB h wd ⟨len, wt, si, cy, false⟩ t (kd, n))) := by
  subst hk
  have q1 : 0 ≤ len := ho0.l1
  have q2 : len ≤ h.cable := ho0.l2
  have q3 : 0 ≤ wt := ho0.w1
  have q4 : wt ≤ 100000 := ho0.w2
  have q5 : 0 ≤ si := ho0.s1
  have q6 : si ≤ i := ho0.s2
  have q7 : 0 ≤ cy := ho0.c1
  have q8 : cy ≤ i := ho0.c2
  have e : stepS h wd ⟨len, wt, si, cy, false⟩ t (2, n) = none := by
    unfold stepS; simp [c1]
  obtain ⟨z1, z2, z3⟩ := do_none e
  rw [z1, z2, z3]
  refine kpsling_winch_do.ac (n0 := 56) (by simp) ⟨.ptr _ _ (by omega), in_agg2 _ _ _, trivial⟩ ⟨⟨by omega, wiC_in _ _ _ _ _⟩, trivial⟩ rfl ?_
  unfold cpsling_winch_do wiC spD
  (have hg : (987654321 : Nat) - 987654321 = 0 := rfl; have hr := hg; repeat' (first | refine aw_seq ?_ | (refine aw_skip ?_; try simp only [thenQ, blockQ, if_true, if_false, Nat.reduceEqDiff, reduceCtorEq]) | (refine aw_exit ?_; try simp only [thenQ, blockQ, if_true, if_false, Nat.reduceEqDiff, reduceCtorEq]) | refine aw_ret ?_ | refine aw_block ?_ | refine aw_condT rfl ?_ | refine aw_condF rfl ?_ | (refine aw_cond rfl (fun hg => ?_) (fun hg => ?_) <;> (try (have hq := hg; simp only [Bool.not_eq_true', Bool.not_eq_false', Bool.and_eq_true, Bool.and_eq_false_iff, Bool.or_eq_true, Bool.or_eq_false_iff, decide_eq_true_eq, decide_eq_false_iff_not, bne_iff_ne, beq_iff_eq, beq_eq_false_iff_ne, bne_eq_false_iff_eq, ne_eq, Int.not_lt, Int.not_le, Decidable.not_not] at hq)) <;> (try (have hr := hg; simp only [decide_eq_true_eq, decide_eq_false_iff_not] at hr)) <;> (try (exfalso; omega))) | ((first | refine aw_region ?_ | refine acall0 (swithin_ac _ _ _) ?_ | refine ago_if (by omega) ?_ | skip); simp (config := {maxSteps := 10000000}) (disch := first | exact okYes (by kernel_rfl) | omega) only [thenQ, List.map, dI, dB, List.length, Nat.zero_add, Nat.reduceAdd, Nat.reduceMul, envOf, ARun_none, AOpRun, aexec, D.isBot, FSt.ev, St.F, eget_c, Nat.reduceBEq, ↓eget_h, cond_false, Bool.false_eq_true, Option.isSome, hget_c, hget_n, or_self, ↓reduceIte, D.cells, AGo_ok, St.app, putO, eput_c, eput_n, hups, hput_c, hput_n, ARun_nil, dropE_c, inL_n, dropE_n, Option.map, run1, beq_self_eq_true, cond_true, List.getElem?_cons_succ, List.getElem?_cons_zero, isSh, abin, fits, Nat.reduceLeDiff, List.all, D.leaf, Bool.and_true, and_self, splice, List.take, List.cons_append, List.nil_append, List.drop, inL_c, ↓hget_h, Int.reduceBEq, c1, ARun_some, AG_ft, blockQ])))
  all_goals (refine end_to [] [(48, 48)] (by first | exact .inl rfl | exact .inr rfl) rfl (by kernel_rfl) (by kernel_rfl) (by kernel_rfl) ?_ ?_ <;> repeat' (first | exact trivial | exact vr_val _ | exact vr_list _ | exact vr_at _ | exact vr_nil | exact vr_cap0 | exact vr_vec _ _ _ _ rfl | exact vr_own _ _ _ _ _ rfl | exact vr_ptr _ _ _ rfl | exact vr_nilv _ _ _ rfl | exact vr_bot _ | exact vr_cap0v _ _ _ rfl | exact vr_cap0l | apply vr_agg | apply vr_tup | apply vr_fn | refine vr_yld _ _ _ rfl ?_ | exact Ren.bot _ | exact Ren.val _ | exact Ren.list _ | exact Ren.at_ _ | exact Ren.ptr _ _ _ rfl | refine Ren.yld _ _ _ _ _ rfl rfl (RenL.get ?_).2 (fun _ _ _ h => h) | refine vr_fl _ _ _ _ _ (by decide) rfl ?_ ?_ ?_ ?_ | refine And.intro ⟨_, rfl, .inl ⟨_, rfl, by decide, ?_⟩⟩ ?_ | refine And.intro ⟨_, rfl, _, rfl, by decide, ?_⟩ ?_ | refine And.intro ⟨_, rfl, .inr ⟨rfl, rfl, of_decide_eq_true (by kernel_rfl)⟩⟩ ?_ | apply And.intro | refine vr_valq ?_ | refine vr_listq ?_ | exact vrl_flat _ (by first | exact icells_in _ | exact rcells_in _ | exact scells_in _ | exact bcells_in _ | assumption)))
set_option maxRecDepth 100000 in
set_option maxHeartbeats 1000000 in
theorem do_o2o_ac (h : Hst) (wd : Int × Int) (len wt si cy kd n : Int) (t : Bool) (i : Int) (hO : HoOk h) (hc : h.cable ≤ 100) (ho0 : HgOk h ⟨len, wt, si, cy, false⟩ i) (hi : i ≤ 100) (hk : kd = 2) (c1 : wI n 1 h.cable = true) (ho : wI (len + -n) 0 h.cable = true ∧ caB h wd (len + -n, len + -n) wt = true) :
    AC Try.prog 74 [.ptr 48 0, spD (kd, n)] [(48, wiC h wd ⟨len, wt, si, cy, false⟩ t)] [(48, some (wiC h wd (doK h wd ⟨len, wt, si, cy, false⟩ t (kd, n)) (doT h wd ⟨len, wt, si, cy, false⟩ t (kd, n))))] (dB (doB h wd ⟨len, wt, si, cy, false⟩ t (kd, n))) := by
  subst hk
  have q1 : 0 ≤ len := ho0.l1
  have q2 : len ≤ h.cable := ho0.l2
  have q3 : 0 ≤ wt := ho0.w1
  have q4 : wt ≤ 100000 := ho0.w2
  have q5 : 0 ≤ si := ho0.s1
  have q6 : si ≤ i := ho0.s2
  have q7 : 0 ≤ cy := ho0.c1
  have q8 : cy ≤ i := ho0.c2
  have e : stepS h wd ⟨len, wt, si, cy, false⟩ t (2, n) = some (⟨len + -n, wt, si + 1, cy, false⟩, t) := by
    unfold stepS outS; simp [c1, ho.1, ho.2]
  obtain ⟨z1, z2, z3⟩ := do_some e
  rw [z1, z2, z3]
  have hn := wI_t c1
  have outO := outO_ac h wd ⟨len, wt, si + 1, cy, false⟩ t (-n) hO ⟨q1, by simp only; omega⟩ ⟨by omega, by omega⟩ ho
  refine kpsling_winch_do.ac (n0 := 56) (by simp) ⟨.ptr _ _ (by omega), in_agg2 _ _ _, trivial⟩ ⟨⟨by omega, wiC_in _ _ _ _ _⟩, trivial⟩ rfl ?_
  unfold cpsling_winch_do wiC spD
  unfold wiC at outO
  (have hg : (987654321 : Nat) - 987654321 = 0 := rfl; have hr := hg; repeat' (first | refine aw_seq ?_ | (refine aw_skip ?_; try simp only [thenQ, blockQ, if_true, if_false, Nat.reduceEqDiff, reduceCtorEq]) | (refine aw_exit ?_; try simp only [thenQ, blockQ, if_true, if_false, Nat.reduceEqDiff, reduceCtorEq]) | refine aw_ret ?_ | refine aw_block ?_ | refine aw_condT rfl ?_ | refine aw_condF rfl ?_ | (refine aw_cond rfl (fun hg => ?_) (fun hg => ?_) <;> (try (have hq := hg; simp only [Bool.not_eq_true', Bool.not_eq_false', Bool.and_eq_true, Bool.and_eq_false_iff, Bool.or_eq_true, Bool.or_eq_false_iff, decide_eq_true_eq, decide_eq_false_iff_not, bne_iff_ne, beq_iff_eq, beq_eq_false_iff_ne, bne_eq_false_iff_eq, ne_eq, Int.not_lt, Int.not_le, Decidable.not_not] at hq)) <;> (try (have hr := hg; simp only [decide_eq_true_eq, decide_eq_false_iff_not] at hr)) <;> (try (exfalso; omega))) | ((first | refine aw_region ?_ | refine acall0 (swithin_ac _ _ _) ?_ | refine acallB (outO) (by repeat' (first | exact trivial | exact rfl | refine And.intro ?_ ?_)) (by kernel_rfl) (by kernel_rfl) (by kernel_rfl) ?_ | refine ago_if (by omega) ?_ | skip); simp (config := {maxSteps := 10000000}) (disch := first | exact okYes (by kernel_rfl) | omega) only [thenQ, List.map, dI, dB, List.length, Nat.zero_add, Nat.reduceAdd, Nat.reduceMul, envOf, ARun_none, AOpRun, aexec, D.isBot, FSt.ev, St.F, eget_c, Nat.reduceBEq, ↓eget_h, cond_false, Bool.false_eq_true, Option.isSome, hget_c, hget_n, or_self, ↓reduceIte, D.cells, AGo_ok, St.app, putO, eput_c, eput_n, hups, hput_c, hput_n, ARun_nil, dropE_c, inL_n, dropE_n, Option.map, run1, beq_self_eq_true, cond_true, List.getElem?_cons_succ, List.getElem?_cons_zero, isSh, abin, fits, Nat.reduceLeDiff, List.all, D.leaf, Bool.and_true, and_self, splice, List.take, List.cons_append, List.nil_append, List.drop, inL_c, ↓hget_h, Int.reduceBEq, c1, ARun_some, AG_tt, Int.zero_sub, List.append_nil, blockQ])))
  all_goals (refine end_to [] [(48, 48)] (by first | exact .inl rfl | exact .inr rfl) rfl (by kernel_rfl) (by kernel_rfl) (by kernel_rfl) ?_ ?_ <;> repeat' (first | exact trivial | exact vr_val _ | exact vr_list _ | exact vr_at _ | exact vr_nil | exact vr_cap0 | exact vr_vec _ _ _ _ rfl | exact vr_own _ _ _ _ _ rfl | exact vr_ptr _ _ _ rfl | exact vr_nilv _ _ _ rfl | exact vr_bot _ | exact vr_cap0v _ _ _ rfl | exact vr_cap0l | apply vr_agg | apply vr_tup | apply vr_fn | refine vr_yld _ _ _ rfl ?_ | exact Ren.bot _ | exact Ren.val _ | exact Ren.list _ | exact Ren.at_ _ | exact Ren.ptr _ _ _ rfl | refine Ren.yld _ _ _ _ _ rfl rfl (RenL.get ?_).2 (fun _ _ _ h => h) | refine vr_fl _ _ _ _ _ (by decide) rfl ?_ ?_ ?_ ?_ | refine And.intro ⟨_, rfl, .inl ⟨_, rfl, by decide, ?_⟩⟩ ?_ | refine And.intro ⟨_, rfl, _, rfl, by decide, ?_⟩ ?_ | refine And.intro ⟨_, rfl, .inr ⟨rfl, rfl, of_decide_eq_true (by kernel_rfl)⟩⟩ ?_ | apply And.intro | refine vr_valq ?_ | refine vr_listq ?_ | exact vrl_flat _ (by first | exact icells_in _ | exact rcells_in _ | exact scells_in _ | exact bcells_in _ | assumption)))
set_option maxRecDepth 100000 in
set_option maxHeartbeats 1000000 in
theorem do_o2e_ac (h : Hst) (wd : Int × Int) (len wt si cy kd n : Int) (t : Bool) (i : Int) (hO : HoOk h) (hc : h.cable ≤ 100) (ho0 : HgOk h ⟨len, wt, si, cy, false⟩ i) (hi : i ≤ 100) (hk : kd = 2) (c1 : wI n 1 h.cable = true) (ho : ¬ (wI (len + -n) 0 h.cable = true ∧ caB h wd (len + -n, len + -n) wt = true)) :
    AC Try.prog 74 [.ptr 48 0, spD (kd, n)] [(48, wiC h wd ⟨len, wt, si, cy, false⟩ t)] [(48, some (wiC h wd (doK h wd ⟨len, wt, si, cy, false⟩ t (kd, n)) (doT h wd ⟨len, wt, si, cy, false⟩ t (kd, n))))] (dB (doB h wd ⟨len, wt, si, cy, false⟩ t (kd, n))) := by
  subst hk
  have q1 : 0 ≤ len := ho0.l1
  have q2 : len ≤ h.cable := ho0.l2
  have q3 : 0 ≤ wt := ho0.w1
  have q4 : wt ≤ 100000 := ho0.w2
  have q5 : 0 ≤ si := ho0.s1
  have q6 : si ≤ i := ho0.s2
  have q7 : 0 ≤ cy := ho0.c1
  have q8 : cy ≤ i := ho0.c2
  have e : stepS h wd ⟨len, wt, si, cy, false⟩ t (2, n) = none := by
    unfold stepS outS; simp [c1]; intro a; exact Bool.eq_false_iff.2 fun b => ho ⟨a, b⟩
  obtain ⟨z1, z2, z3⟩ := do_none e
  rw [z1, z2, z3]
  have hn := wI_t c1
  have outE := outE_ac h wd ⟨len, wt, si + 1, cy, false⟩ t (-n) hO ⟨q1, by simp only; omega⟩ ⟨by omega, by omega⟩ ho
  refine kpsling_winch_do.ac (n0 := 56) (by simp) ⟨.ptr _ _ (by omega), in_agg2 _ _ _, trivial⟩ ⟨⟨by omega, wiC_in _ _ _ _ _⟩, trivial⟩ rfl ?_
  unfold cpsling_winch_do wiC spD
  unfold wiC at outE
  (have hg : (987654321 : Nat) - 987654321 = 0 := rfl; have hr := hg; repeat' (first | refine aw_seq ?_ | (refine aw_skip ?_; try simp only [thenQ, blockQ, if_true, if_false, Nat.reduceEqDiff, reduceCtorEq]) | (refine aw_exit ?_; try simp only [thenQ, blockQ, if_true, if_false, Nat.reduceEqDiff, reduceCtorEq]) | refine aw_ret ?_ | refine aw_block ?_ | refine aw_condT rfl ?_ | refine aw_condF rfl ?_ | (refine aw_cond rfl (fun hg => ?_) (fun hg => ?_) <;> (try (have hq := hg; simp only [Bool.not_eq_true', Bool.not_eq_false', Bool.and_eq_true, Bool.and_eq_false_iff, Bool.or_eq_true, Bool.or_eq_false_iff, decide_eq_true_eq, decide_eq_false_iff_not, bne_iff_ne, beq_iff_eq, beq_eq_false_iff_ne, bne_eq_false_iff_eq, ne_eq, Int.not_lt, Int.not_le, Decidable.not_not] at hq)) <;> (try (have hr := hg; simp only [decide_eq_true_eq, decide_eq_false_iff_not] at hr)) <;> (try (exfalso; omega))) | ((first | refine aw_region ?_ | refine acall0 (swithin_ac _ _ _) ?_ | refine acallB (outE) (by repeat' (first | exact trivial | exact rfl | refine And.intro ?_ ?_)) (by kernel_rfl) (by kernel_rfl) (by kernel_rfl) ?_ | refine ago_if (by omega) ?_ | skip); simp (config := {maxSteps := 10000000}) (disch := first | exact okYes (by kernel_rfl) | omega) only [thenQ, List.map, dI, dB, List.length, Nat.zero_add, Nat.reduceAdd, Nat.reduceMul, envOf, ARun_none, AOpRun, aexec, D.isBot, FSt.ev, St.F, eget_c, Nat.reduceBEq, ↓eget_h, cond_false, Bool.false_eq_true, Option.isSome, hget_c, hget_n, or_self, ↓reduceIte, D.cells, AGo_ok, St.app, putO, eput_c, eput_n, hups, hput_c, hput_n, ARun_nil, dropE_c, inL_n, dropE_n, Option.map, run1, beq_self_eq_true, cond_true, List.getElem?_cons_succ, List.getElem?_cons_zero, isSh, abin, fits, Nat.reduceLeDiff, List.all, D.leaf, Bool.and_true, and_self, splice, List.take, List.cons_append, List.nil_append, List.drop, inL_c, ↓hget_h, Int.reduceBEq, c1, ARun_some, AG_tt, Int.zero_sub, List.append_nil, blockQ])))
  all_goals (refine end_to [] [(48, 48)] (by first | exact .inl rfl | exact .inr rfl) rfl (by kernel_rfl) (by kernel_rfl) (by kernel_rfl) ?_ ?_ <;> repeat' (first | exact trivial | exact vr_val _ | exact vr_list _ | exact vr_at _ | exact vr_nil | exact vr_cap0 | exact vr_vec _ _ _ _ rfl | exact vr_own _ _ _ _ _ rfl | exact vr_ptr _ _ _ rfl | exact vr_nilv _ _ _ rfl | exact vr_bot _ | exact vr_cap0v _ _ _ rfl | exact vr_cap0l | apply vr_agg | apply vr_tup | apply vr_fn | refine vr_yld _ _ _ rfl ?_ | exact Ren.bot _ | exact Ren.val _ | exact Ren.list _ | exact Ren.at_ _ | exact Ren.ptr _ _ _ rfl | refine Ren.yld _ _ _ _ _ rfl rfl (RenL.get ?_).2 (fun _ _ _ h => h) | refine vr_fl _ _ _ _ _ (by decide) rfl ?_ ?_ ?_ ?_ | refine And.intro ⟨_, rfl, .inl ⟨_, rfl, by decide, ?_⟩⟩ ?_ | refine And.intro ⟨_, rfl, _, rfl, by decide, ?_⟩ ?_ | refine And.intro ⟨_, rfl, .inr ⟨rfl, rfl, of_decide_eq_true (by kernel_rfl)⟩⟩ ?_ | apply And.intro | refine vr_valq ?_ | refine vr_listq ?_ | exact vrl_flat _ (by first | exact icells_in _ | exact rcells_in _ | exact scells_in _ | exact bcells_in _ | assumption)))
set_option maxRecDepth 100000 in
set_option maxHeartbeats 1000000 in
theorem do_h1_ac (h : Hst) (wd : Int × Int) (len wt si cy kd n : Int) (t : Bool) (i : Int) (hO : HoOk h) (hc : h.cable ≤ 100) (ho0 : HgOk h ⟨len, wt, si, cy, false⟩ i) (hi : i ≤ 100) (hk : kd = 4) (c1 : 0 < wt) :
    AC Try.prog 74 [.ptr 48 0, spD (kd, n)] [(48, wiC h wd ⟨len, wt, si, cy, false⟩ t)] [(48, some (wiC h wd (doK h wd ⟨len, wt, si, cy, false⟩ t (kd, n)) (doT h wd ⟨len, wt, si, cy, false⟩ t (kd, n))))] (dB (doB h wd ⟨len, wt, si, cy, false⟩ t (kd, n))) := by
  subst hk
  have q1 : 0 ≤ len := ho0.l1
  have q2 : len ≤ h.cable := ho0.l2
  have q3 : 0 ≤ wt := ho0.w1
  have q4 : wt ≤ 100000 := ho0.w2
  have q5 : 0 ≤ si := ho0.s1
  have q6 : si ≤ i := ho0.s2
  have q7 : 0 ≤ cy := ho0.c1
  have q8 : cy ≤ i := ho0.c2
  have e : stepS h wd ⟨len, wt, si, cy, false⟩ t (4, n) = none := by
    unfold stepS; simp; omega
  obtain ⟨z1, z2, z3⟩ := do_none e
  rw [z1, z2, z3]
  refine kpsling_winch_do.ac (n0 := 56) (by simp) ⟨.ptr _ _ (by omega), in_agg2 _ _ _, trivial⟩ ⟨⟨by omega, wiC_in _ _ _ _ _⟩, trivial⟩ rfl ?_
  unfold cpsling_winch_do wiC spD
  (have hg : (987654321 : Nat) - 987654321 = 0 := rfl; have hr := hg; repeat' (first | refine aw_seq ?_ | (refine aw_skip ?_; try simp only [thenQ, blockQ, if_true, if_false, Nat.reduceEqDiff, reduceCtorEq]) | (refine aw_exit ?_; try simp only [thenQ, blockQ, if_true, if_false, Nat.reduceEqDiff, reduceCtorEq]) | refine aw_ret ?_ | refine aw_block ?_ | refine aw_condT rfl ?_ | refine aw_condF rfl ?_ | (refine aw_cond rfl (fun hg => ?_) (fun hg => ?_) <;> (try (have hq := hg; simp only [Bool.not_eq_true', Bool.not_eq_false', Bool.and_eq_true, Bool.and_eq_false_iff, Bool.or_eq_true, Bool.or_eq_false_iff, decide_eq_true_eq, decide_eq_false_iff_not, bne_iff_ne, beq_iff_eq, beq_eq_false_iff_ne, bne_eq_false_iff_eq, ne_eq, Int.not_lt, Int.not_le, Decidable.not_not] at hq)) <;> (try (have hr := hg; simp only [decide_eq_true_eq, decide_eq_false_iff_not] at hr)) <;> (try (exfalso; omega))) | (refine ag_bool (fun hg => ?_) (fun hg => ?_) <;> (try (have hq := hg; simp only [Bool.not_eq_true', Bool.not_eq_false', Bool.and_eq_true, Bool.and_eq_false_iff, Bool.or_eq_true, Bool.or_eq_false_iff, decide_eq_true_eq, decide_eq_false_iff_not, bne_iff_ne, beq_iff_eq, beq_eq_false_iff_ne, bne_eq_false_iff_eq, ne_eq, Int.not_lt, Int.not_le, Decidable.not_not] at hq)) <;> (try (have hr := hg; simp only [decide_eq_true_eq, decide_eq_false_iff_not] at hr)) <;> (try (exfalso; omega)) <;> simp (config := {maxSteps := 10000000}) (disch := first | exact okYes (by kernel_rfl) | omega) only [hr, decide_true, AG_tf, Nat.reduceAdd, St.app, putO, eput_c, Nat.reduceBEq, eput_n, cond_false, hups, ARun_some, eget_c, ↓eget_h, ARun_none, AOpRun, aexec, FSt.ev, St.F, ↓reduceIte, AGo_ok, List.map, ARun_nil, dropE_c, inL_c, inL_n, beq_self_eq_true, cond_true, dropE_n]) | ((first | refine aw_region ?_ | refine ago_if (by omega) ?_ | skip); simp (config := {maxSteps := 10000000}) (disch := first | exact okYes (by kernel_rfl) | omega) only [thenQ, List.map, dI, dB, List.length, Nat.zero_add, Nat.reduceAdd, Nat.reduceMul, envOf, ARun_none, AOpRun, aexec, D.isBot, FSt.ev, St.F, eget_c, Nat.reduceBEq, ↓eget_h, cond_false, Bool.false_eq_true, Option.isSome, hget_c, hget_n, or_self, ↓reduceIte, D.cells, AGo_ok, St.app, putO, eput_c, eput_n, hups, hput_c, hput_n, ARun_nil, dropE_c, inL_n, dropE_n, Option.map, run1, beq_self_eq_true, cond_true, List.getElem?_cons_succ, List.getElem?_cons_zero, isSh, abin, fits, Nat.reduceLeDiff, List.all, D.leaf, Bool.and_true, and_self, splice, List.take, List.cons_append, List.nil_append, List.drop, inL_c, ↓hget_h, Int.reduceBEq, ARun_some, blockQ])))
  all_goals (refine end_to [] [(48, 48)] (by first | exact .inl rfl | exact .inr rfl) rfl (by kernel_rfl) (by kernel_rfl) (by kernel_rfl) ?_ ?_ <;> repeat' (first | exact trivial | exact vr_val _ | exact vr_list _ | exact vr_at _ | exact vr_nil | exact vr_cap0 | exact vr_vec _ _ _ _ rfl | exact vr_own _ _ _ _ _ rfl | exact vr_ptr _ _ _ rfl | exact vr_nilv _ _ _ rfl | exact vr_bot _ | exact vr_cap0v _ _ _ rfl | exact vr_cap0l | apply vr_agg | apply vr_tup | apply vr_fn | refine vr_yld _ _ _ rfl ?_ | exact Ren.bot _ | exact Ren.val _ | exact Ren.list _ | exact Ren.at_ _ | exact Ren.ptr _ _ _ rfl | refine Ren.yld _ _ _ _ _ rfl rfl (RenL.get ?_).2 (fun _ _ _ h => h) | refine vr_fl _ _ _ _ _ (by decide) rfl ?_ ?_ ?_ ?_ | refine And.intro ⟨_, rfl, .inl ⟨_, rfl, by decide, ?_⟩⟩ ?_ | refine And.intro ⟨_, rfl, _, rfl, by decide, ?_⟩ ?_ | refine And.intro ⟨_, rfl, .inr ⟨rfl, rfl, of_decide_eq_true (by kernel_rfl)⟩⟩ ?_ | apply And.intro | refine vr_valq ?_ | refine vr_listq ?_ | exact vrl_flat _ (by first | exact icells_in _ | exact rcells_in _ | exact scells_in _ | exact bcells_in _ | assumption)))
set_option maxRecDepth 100000 in
set_option maxHeartbeats 1000000 in
theorem do_h2_ac (h : Hst) (wd : Int × Int) (len wt si cy kd n : Int) (t : Bool) (i : Int) (hO : HoOk h) (hc : h.cable ≤ 100) (ho0 : HgOk h ⟨len, wt, si, cy, false⟩ i) (hi : i ≤ 100) (hk : kd = 4) (c1 : wt ≤ 0) (c2 : len = 0) :
    AC Try.prog 74 [.ptr 48 0, spD (kd, n)] [(48, wiC h wd ⟨len, wt, si, cy, false⟩ t)] [(48, some (wiC h wd (doK h wd ⟨len, wt, si, cy, false⟩ t (kd, n)) (doT h wd ⟨len, wt, si, cy, false⟩ t (kd, n))))] (dB (doB h wd ⟨len, wt, si, cy, false⟩ t (kd, n))) := by
  subst hk
  have q1 : 0 ≤ len := ho0.l1
  have q2 : len ≤ h.cable := ho0.l2
  have q3 : 0 ≤ wt := ho0.w1
  have q4 : wt ≤ 100000 := ho0.w2
  have q5 : 0 ≤ si := ho0.s1
  have q6 : si ≤ i := ho0.s2
  have q7 : 0 ≤ cy := ho0.c1
  have q8 : cy ≤ i := ho0.c2
  have e : stepS h wd ⟨len, wt, si, cy, false⟩ t (4, n) = none := by
    unfold stepS; simp [c2]
  obtain ⟨z1, z2, z3⟩ := do_none e
  rw [z1, z2, z3]
  refine kpsling_winch_do.ac (n0 := 56) (by simp) ⟨.ptr _ _ (by omega), in_agg2 _ _ _, trivial⟩ ⟨⟨by omega, wiC_in _ _ _ _ _⟩, trivial⟩ rfl ?_
  unfold cpsling_winch_do wiC spD
  (have hg : (987654321 : Nat) - 987654321 = 0 := rfl; have hr := hg; repeat' (first | refine aw_seq ?_ | (refine aw_skip ?_; try simp only [thenQ, blockQ, if_true, if_false, Nat.reduceEqDiff, reduceCtorEq]) | (refine aw_exit ?_; try simp only [thenQ, blockQ, if_true, if_false, Nat.reduceEqDiff, reduceCtorEq]) | refine aw_ret ?_ | refine aw_block ?_ | refine aw_condT rfl ?_ | refine aw_condF rfl ?_ | (refine aw_cond rfl (fun hg => ?_) (fun hg => ?_) <;> (try (have hq := hg; simp only [Bool.not_eq_true', Bool.not_eq_false', Bool.and_eq_true, Bool.and_eq_false_iff, Bool.or_eq_true, Bool.or_eq_false_iff, decide_eq_true_eq, decide_eq_false_iff_not, bne_iff_ne, beq_iff_eq, beq_eq_false_iff_ne, bne_eq_false_iff_eq, ne_eq, Int.not_lt, Int.not_le, Decidable.not_not] at hq)) <;> (try (have hr := hg; simp only [decide_eq_true_eq, decide_eq_false_iff_not] at hr)) <;> (try (exfalso; omega))) | (refine ag_bool (fun hg => ?_) (fun hg => ?_) <;> (try (have hq := hg; simp only [Bool.not_eq_true', Bool.not_eq_false', Bool.and_eq_true, Bool.and_eq_false_iff, Bool.or_eq_true, Bool.or_eq_false_iff, decide_eq_true_eq, decide_eq_false_iff_not, bne_iff_ne, beq_iff_eq, beq_eq_false_iff_ne, bne_eq_false_iff_eq, ne_eq, Int.not_lt, Int.not_le, Decidable.not_not] at hq)) <;> (try (have hr := hg; simp only [decide_eq_true_eq, decide_eq_false_iff_not] at hr)) <;> (try (exfalso; omega)) <;> simp (config := {maxSteps := 10000000}) (disch := first | exact okYes (by kernel_rfl) | omega) only [hr, decide_false, AG_ff, AOpRun, aexec, FSt.ev, St.F, ↓eget_h, AGo_ok, Nat.reduceAdd, St.app, putO, eput_c, Nat.reduceBEq, eput_n, cond_false, hups, List.map, ARun_some, eget_c, Nat.zero_add, Option.map, run1, hget_c, beq_self_eq_true, hget_n, cond_true, List.getElem?_cons_succ, List.getElem?_cons_zero, isSh, Bool.false_eq_true, ↓reduceIte, abin, ARun_none, hg, AG_tf, ARun_nil, dropE_c, inL_c, inL_n, dropE_n]) | ((first | refine aw_region ?_ | refine ago_if (by omega) ?_ | skip); simp (config := {maxSteps := 10000000}) (disch := first | exact okYes (by kernel_rfl) | omega) only [thenQ, List.map, dI, dB, List.length, Nat.zero_add, Nat.reduceAdd, Nat.reduceMul, envOf, ARun_none, AOpRun, aexec, D.isBot, FSt.ev, St.F, eget_c, Nat.reduceBEq, ↓eget_h, cond_false, Bool.false_eq_true, Option.isSome, hget_c, hget_n, or_self, ↓reduceIte, D.cells, AGo_ok, St.app, putO, eput_c, eput_n, hups, hput_c, hput_n, ARun_nil, dropE_c, inL_n, dropE_n, Option.map, run1, beq_self_eq_true, cond_true, List.getElem?_cons_succ, List.getElem?_cons_zero, isSh, abin, fits, Nat.reduceLeDiff, List.all, D.leaf, Bool.and_true, and_self, splice, List.take, List.cons_append, List.nil_append, List.drop, inL_c, ↓hget_h, Int.reduceBEq, ARun_some, blockQ])))
  all_goals (refine end_to [] [(48, 48)] (by first | exact .inl rfl | exact .inr rfl) rfl (by kernel_rfl) (by kernel_rfl) (by kernel_rfl) ?_ ?_ <;> repeat' (first | exact trivial | exact vr_val _ | exact vr_list _ | exact vr_at _ | exact vr_nil | exact vr_cap0 | exact vr_vec _ _ _ _ rfl | exact vr_own _ _ _ _ _ rfl | exact vr_ptr _ _ _ rfl | exact vr_nilv _ _ _ rfl | exact vr_bot _ | exact vr_cap0v _ _ _ rfl | exact vr_cap0l | apply vr_agg | apply vr_tup | apply vr_fn | refine vr_yld _ _ _ rfl ?_ | exact Ren.bot _ | exact Ren.val _ | exact Ren.list _ | exact Ren.at_ _ | exact Ren.ptr _ _ _ rfl | refine Ren.yld _ _ _ _ _ rfl rfl (RenL.get ?_).2 (fun _ _ _ h => h) | refine vr_fl _ _ _ _ _ (by decide) rfl ?_ ?_ ?_ ?_ | refine And.intro ⟨_, rfl, .inl ⟨_, rfl, by decide, ?_⟩⟩ ?_ | refine And.intro ⟨_, rfl, _, rfl, by decide, ?_⟩ ?_ | refine And.intro ⟨_, rfl, .inr ⟨rfl, rfl, of_decide_eq_true (by kernel_rfl)⟩⟩ ?_ | apply And.intro | refine vr_valq ?_ | refine vr_listq ?_ | exact vrl_flat _ (by first | exact icells_in _ | exact rcells_in _ | exact scells_in _ | exact bcells_in _ | assumption)))
set_option maxRecDepth 100000 in
set_option maxHeartbeats 1000000 in
theorem do_h3_ac (h : Hst) (wd : Int × Int) (len wt si cy kd n : Int) (t : Bool) (i : Int) (hO : HoOk h) (hc : h.cable ≤ 100) (ho0 : HgOk h ⟨len, wt, si, cy, false⟩ i) (hi : i ≤ 100) (hk : kd = 4) (c1 : wt ≤ 0) (c2 : len ≠ 0) (c3 : t = false) :
    AC Try.prog 74 [.ptr 48 0, spD (kd, n)] [(48, wiC h wd ⟨len, wt, si, cy, false⟩ t)] [(48, some (wiC h wd (doK h wd ⟨len, wt, si, cy, false⟩ t (kd, n)) (doT h wd ⟨len, wt, si, cy, false⟩ t (kd, n))))] (dB (doB h wd ⟨len, wt, si, cy, false⟩ t (kd, n))) := by
  subst hk
  subst c3
  have q1 : 0 ≤ len := ho0.l1
  have q2 : len ≤ h.cable := ho0.l2
  have q3 : 0 ≤ wt := ho0.w1
  have q4 : wt ≤ 100000 := ho0.w2
  have q5 : 0 ≤ si := ho0.s1
  have q6 : si ≤ i := ho0.s2
  have q7 : 0 ≤ cy := ho0.c1
  have q8 : cy ≤ i := ho0.c2
  have e : stepS h wd ⟨len, wt, si, cy, false⟩ false (4, n) = none := by
    unfold stepS; simp
  obtain ⟨z1, z2, z3⟩ := do_none e
  rw [z1, z2, z3]
  refine kpsling_winch_do.ac (n0 := 56) (by simp) ⟨.ptr _ _ (by omega), in_agg2 _ _ _, trivial⟩ ⟨⟨by omega, wiC_in _ _ _ _ _⟩, trivial⟩ rfl ?_
  unfold cpsling_winch_do wiC spD
  (have hg : (987654321 : Nat) - 987654321 = 0 := rfl; have hr := hg; repeat' (first | refine aw_seq ?_ | (refine aw_skip ?_; try simp only [thenQ, blockQ, if_true, if_false, Nat.reduceEqDiff, reduceCtorEq]) | (refine aw_exit ?_; try simp only [thenQ, blockQ, if_true, if_false, Nat.reduceEqDiff, reduceCtorEq]) | refine aw_ret ?_ | refine aw_block ?_ | refine aw_condT rfl ?_ | refine aw_condF rfl ?_ | (refine aw_cond rfl (fun hg => ?_) (fun hg => ?_) <;> (try (have hq := hg; simp only [Bool.not_eq_true', Bool.not_eq_false', Bool.and_eq_true, Bool.and_eq_false_iff, Bool.or_eq_true, Bool.or_eq_false_iff, decide_eq_true_eq, decide_eq_false_iff_not, bne_iff_ne, beq_iff_eq, beq_eq_false_iff_ne, bne_eq_false_iff_eq, ne_eq, Int.not_lt, Int.not_le, Decidable.not_not] at hq)) <;> (try (have hr := hg; simp only [decide_eq_true_eq, decide_eq_false_iff_not] at hr)) <;> (try (exfalso; omega))) | (refine ag_bool (fun hg => ?_) (fun hg => ?_) <;> (try (have hq := hg; simp only [Bool.not_eq_true', Bool.not_eq_false', Bool.and_eq_true, Bool.and_eq_false_iff, Bool.or_eq_true, Bool.or_eq_false_iff, decide_eq_true_eq, decide_eq_false_iff_not, bne_iff_ne, beq_iff_eq, beq_eq_false_iff_ne, bne_eq_false_iff_eq, ne_eq, Int.not_lt, Int.not_le, Decidable.not_not] at hq)) <;> (try (have hr := hg; simp only [decide_eq_true_eq, decide_eq_false_iff_not] at hr)) <;> (try (exfalso; omega)) <;> simp (config := {maxSteps := 10000000}) (disch := first | exact okYes (by kernel_rfl) | omega) only [hr, decide_false, AG_ff, AOpRun, aexec, FSt.ev, St.F, ↓eget_h, AGo_ok, Nat.reduceAdd, St.app, putO, eput_c, Nat.reduceBEq, eput_n, cond_false, hups, List.map, ARun_some, eget_c, Nat.zero_add, Option.map, run1, hget_c, beq_self_eq_true, hget_n, cond_true, List.getElem?_cons_succ, List.getElem?_cons_zero, isSh, Bool.false_eq_true, ↓reduceIte, abin, ARun_none, hg, Bool.not_false, AG_tf, ARun_nil, dropE_c, inL_c, inL_n, dropE_n]) | ((first | refine aw_region ?_ | refine ago_if (by omega) ?_ | skip); simp (config := {maxSteps := 10000000}) (disch := first | exact okYes (by kernel_rfl) | omega) only [thenQ, List.map, dI, dB, List.length, Nat.zero_add, Nat.reduceAdd, Nat.reduceMul, envOf, ARun_none, AOpRun, aexec, D.isBot, FSt.ev, St.F, eget_c, Nat.reduceBEq, ↓eget_h, cond_false, Bool.false_eq_true, Option.isSome, hget_c, hget_n, or_self, ↓reduceIte, D.cells, AGo_ok, St.app, putO, eput_c, eput_n, hups, hput_c, hput_n, ARun_nil, dropE_c, inL_n, dropE_n, Option.map, run1, beq_self_eq_true, cond_true, List.getElem?_cons_succ, List.getElem?_cons_zero, isSh, abin, fits, Nat.reduceLeDiff, List.all, D.leaf, Bool.and_true, and_self, splice, List.take, List.cons_append, List.nil_append, List.drop, inL_c, ↓hget_h, Int.reduceBEq, ARun_some, blockQ])))
  all_goals (refine end_to [] [(48, 48)] (by first | exact .inl rfl | exact .inr rfl) rfl (by kernel_rfl) (by kernel_rfl) (by kernel_rfl) ?_ ?_ <;> repeat' (first | exact trivial | exact vr_val _ | exact vr_list _ | exact vr_at _ | exact vr_nil | exact vr_cap0 | exact vr_vec _ _ _ _ rfl | exact vr_own _ _ _ _ _ rfl | exact vr_ptr _ _ _ rfl | exact vr_nilv _ _ _ rfl | exact vr_bot _ | exact vr_cap0v _ _ _ rfl | exact vr_cap0l | apply vr_agg | apply vr_tup | apply vr_fn | refine vr_yld _ _ _ rfl ?_ | exact Ren.bot _ | exact Ren.val _ | exact Ren.list _ | exact Ren.at_ _ | exact Ren.ptr _ _ _ rfl | refine Ren.yld _ _ _ _ _ rfl rfl (RenL.get ?_).2 (fun _ _ _ h => h) | refine vr_fl _ _ _ _ _ (by decide) rfl ?_ ?_ ?_ ?_ | refine And.intro ⟨_, rfl, .inl ⟨_, rfl, by decide, ?_⟩⟩ ?_ | refine And.intro ⟨_, rfl, _, rfl, by decide, ?_⟩ ?_ | refine And.intro ⟨_, rfl, .inr ⟨rfl, rfl, of_decide_eq_true (by kernel_rfl)⟩⟩ ?_ | apply And.intro | refine vr_valq ?_ | refine vr_listq ?_ | exact vrl_flat _ (by first | exact icells_in _ | exact rcells_in _ | exact scells_in _ | exact bcells_in _ | assumption)))
set_option maxRecDepth 100000 in
set_option maxHeartbeats 1000000 in
theorem do_h4_ac (h : Hst) (wd : Int × Int) (len wt si cy kd n : Int) (t : Bool) (i : Int) (hO : HoOk h) (hc : h.cable ≤ 100) (ho0 : HgOk h ⟨len, wt, si, cy, false⟩ i) (hi : i ≤ 100) (hk : kd = 4) (c1 : wt ≤ 0) (c2 : len ≠ 0) (c3 : t = true) (c4 : h.charge < si + 1) :
    AC Try.prog 74 [.ptr 48 0, spD (kd, n)] [(48, wiC h wd ⟨len, wt, si, cy, false⟩ t)] [(48, some (wiC h wd (doK h wd ⟨len, wt, si, cy, false⟩ t (kd, n)) (doT h wd ⟨len, wt, si, cy, false⟩ t (kd, n))))] (dB (doB h wd ⟨len, wt, si, cy, false⟩ t (kd, n))) := by
  subst hk
  subst c3
  have q1 : 0 ≤ len := ho0.l1
  have q2 : len ≤ h.cable := ho0.l2
  have q3 : 0 ≤ wt := ho0.w1
  have q4 : wt ≤ 100000 := ho0.w2
  have q5 : 0 ≤ si := ho0.s1
  have q6 : si ≤ i := ho0.s2
  have q7 : 0 ≤ cy := ho0.c1
  have q8 : cy ≤ i := ho0.c2
  have e : stepS h wd ⟨len, wt, si, cy, false⟩ true (4, n) = none := by
    unfold stepS; simp; omega
  obtain ⟨z1, z2, z3⟩ := do_none e
  rw [z1, z2, z3]
  refine kpsling_winch_do.ac (n0 := 56) (by simp) ⟨.ptr _ _ (by omega), in_agg2 _ _ _, trivial⟩ ⟨⟨by omega, wiC_in _ _ _ _ _⟩, trivial⟩ rfl ?_
  unfold cpsling_winch_do wiC spD
  (have hg : (987654321 : Nat) - 987654321 = 0 := rfl; have hr := hg; repeat' (first | refine aw_seq ?_ | (refine aw_skip ?_; try simp only [thenQ, blockQ, if_true, if_false, Nat.reduceEqDiff, reduceCtorEq]) | (refine aw_exit ?_; try simp only [thenQ, blockQ, if_true, if_false, Nat.reduceEqDiff, reduceCtorEq]) | refine aw_ret ?_ | refine aw_block ?_ | refine aw_condT rfl ?_ | refine aw_condF rfl ?_ | (refine aw_cond rfl (fun hg => ?_) (fun hg => ?_) <;> (try (have hq := hg; simp only [Bool.not_eq_true', Bool.not_eq_false', Bool.and_eq_true, Bool.and_eq_false_iff, Bool.or_eq_true, Bool.or_eq_false_iff, decide_eq_true_eq, decide_eq_false_iff_not, bne_iff_ne, beq_iff_eq, beq_eq_false_iff_ne, bne_eq_false_iff_eq, ne_eq, Int.not_lt, Int.not_le, Decidable.not_not] at hq)) <;> (try (have hr := hg; simp only [decide_eq_true_eq, decide_eq_false_iff_not] at hr)) <;> (try (exfalso; omega))) | (refine ag_bool (fun hg => ?_) (fun hg => ?_) <;> (try (have hq := hg; simp only [Bool.not_eq_true', Bool.not_eq_false', Bool.and_eq_true, Bool.and_eq_false_iff, Bool.or_eq_true, Bool.or_eq_false_iff, decide_eq_true_eq, decide_eq_false_iff_not, bne_iff_ne, beq_iff_eq, beq_eq_false_iff_ne, bne_eq_false_iff_eq, ne_eq, Int.not_lt, Int.not_le, Decidable.not_not] at hq)) <;> (try (have hr := hg; simp only [decide_eq_true_eq, decide_eq_false_iff_not] at hr)) <;> (try (exfalso; omega)) <;> simp (config := {maxSteps := 10000000}) (disch := first | exact okYes (by kernel_rfl) | omega) only [hr, decide_false, AG_ff, AOpRun, aexec, FSt.ev, St.F, ↓eget_h, AGo_ok, Nat.reduceAdd, St.app, putO, eput_c, Nat.reduceBEq, eput_n, cond_false, hups, List.map, ARun_some, eget_c, Nat.zero_add, Option.map, run1, hget_c, beq_self_eq_true, hget_n, cond_true, List.getElem?_cons_succ, List.getElem?_cons_zero, isSh, Bool.false_eq_true, ↓reduceIte, abin, ARun_none, hg, Bool.not_true, decide_true, AG_tf, ARun_nil, dropE_c, inL_c, inL_n, dropE_n]) | ((first | refine aw_region ?_ | refine ago_if (by omega) ?_ | skip); simp (config := {maxSteps := 10000000}) (disch := first | exact okYes (by kernel_rfl) | omega) only [thenQ, List.map, dI, dB, List.length, Nat.zero_add, Nat.reduceAdd, Nat.reduceMul, envOf, ARun_none, AOpRun, aexec, D.isBot, FSt.ev, St.F, eget_c, Nat.reduceBEq, ↓eget_h, cond_false, Bool.false_eq_true, Option.isSome, hget_c, hget_n, or_self, ↓reduceIte, D.cells, AGo_ok, St.app, putO, eput_c, eput_n, hups, hput_c, hput_n, ARun_nil, dropE_c, inL_n, dropE_n, Option.map, run1, beq_self_eq_true, cond_true, List.getElem?_cons_succ, List.getElem?_cons_zero, isSh, abin, fits, Nat.reduceLeDiff, List.all, D.leaf, Bool.and_true, and_self, splice, List.take, List.cons_append, List.nil_append, List.drop, inL_c, ↓hget_h, Int.reduceBEq, ARun_some, blockQ])))
  all_goals (refine end_to [] [(48, 48)] (by first | exact .inl rfl | exact .inr rfl) rfl (by kernel_rfl) (by kernel_rfl) (by kernel_rfl) ?_ ?_ <;> repeat' (first | exact trivial | exact vr_val _ | exact vr_list _ | exact vr_at _ | exact vr_nil | exact vr_cap0 | exact vr_vec _ _ _ _ rfl | exact vr_own _ _ _ _ _ rfl | exact vr_ptr _ _ _ rfl | exact vr_nilv _ _ _ rfl | exact vr_bot _ | exact vr_cap0v _ _ _ rfl | exact vr_cap0l | apply vr_agg | apply vr_tup | apply vr_fn | refine vr_yld _ _ _ rfl ?_ | exact Ren.bot _ | exact Ren.val _ | exact Ren.list _ | exact Ren.at_ _ | exact Ren.ptr _ _ _ rfl | refine Ren.yld _ _ _ _ _ rfl rfl (RenL.get ?_).2 (fun _ _ _ h => h) | refine vr_fl _ _ _ _ _ (by decide) rfl ?_ ?_ ?_ ?_ | refine And.intro ⟨_, rfl, .inl ⟨_, rfl, by decide, ?_⟩⟩ ?_ | refine And.intro ⟨_, rfl, _, rfl, by decide, ?_⟩ ?_ | refine And.intro ⟨_, rfl, .inr ⟨rfl, rfl, of_decide_eq_true (by kernel_rfl)⟩⟩ ?_ | apply And.intro | refine vr_valq ?_ | refine vr_listq ?_ | exact vrl_flat _ (by first | exact icells_in _ | exact rcells_in _ | exact scells_in _ | exact bcells_in _ | assumption)))
set_option maxRecDepth 100000 in
set_option maxHeartbeats 1000000 in
theorem do_h5_ac (h : Hst) (wd : Int × Int) (len wt si cy kd n : Int) (t : Bool) (i : Int) (hO : HoOk h) (hc : h.cable ≤ 100) (ho0 : HgOk h ⟨len, wt, si, cy, false⟩ i) (hi : i ≤ 100) (hk : kd = 4) (c1 : wt ≤ 0) (c2 : len ≠ 0) (c3 : t = true) (c4 : si + 1 ≤ h.charge) (c5 : wI n 1 100000 = false) :
    AC Try.prog 74 [.ptr 48 0, spD (kd, n)] [(48, wiC h wd ⟨len, wt, si, cy, false⟩ t)] [(48, some (wiC h wd (doK h wd ⟨len, wt, si, cy, false⟩ t (kd, n)) (doT h wd ⟨len, wt, si, cy, false⟩ t (kd, n))))] (dB (doB h wd ⟨len, wt, si, cy, false⟩ t (kd, n))) := by
  subst hk
  subst c3
  have q1 : 0 ≤ len := ho0.l1
  have q2 : len ≤ h.cable := ho0.l2
  have q3 : 0 ≤ wt := ho0.w1
  have q4 : wt ≤ 100000 := ho0.w2
  have q5 : 0 ≤ si := ho0.s1
  have q6 : si ≤ i := ho0.s2
  have q7 : 0 ≤ cy := ho0.c1
  have q8 : cy ≤ i := ho0.c2
  have e : stepS h wd ⟨len, wt, si, cy, false⟩ true (4, n) = none := by
    unfold stepS; simp [c5]
  obtain ⟨z1, z2, z3⟩ := do_none e
  rw [z1, z2, z3]
  refine kpsling_winch_do.ac (n0 := 56) (by simp) ⟨.ptr _ _ (by omega), in_agg2 _ _ _, trivial⟩ ⟨⟨by omega, wiC_in _ _ _ _ _⟩, trivial⟩ rfl ?_
  unfold cpsling_winch_do wiC spD
  (have hg : (987654321 : Nat) - 987654321 = 0 := rfl; have hr := hg; repeat' (first | refine aw_seq ?_ | (refine aw_skip ?_; try simp only [thenQ, blockQ, if_true, if_false, Nat.reduceEqDiff, reduceCtorEq]) | (refine aw_exit ?_; try simp only [thenQ, blockQ, if_true, if_false, Nat.reduceEqDiff, reduceCtorEq]) | refine aw_ret ?_ | refine aw_block ?_ | refine aw_condT rfl ?_ | refine aw_condF rfl ?_ | (refine aw_cond rfl (fun hg => ?_) (fun hg => ?_) <;> (try (have hq := hg; simp only [Bool.not_eq_true', Bool.not_eq_false', Bool.and_eq_true, Bool.and_eq_false_iff, Bool.or_eq_true, Bool.or_eq_false_iff, decide_eq_true_eq, decide_eq_false_iff_not, bne_iff_ne, beq_iff_eq, beq_eq_false_iff_ne, bne_eq_false_iff_eq, ne_eq, Int.not_lt, Int.not_le, Decidable.not_not] at hq)) <;> (try (have hr := hg; simp only [decide_eq_true_eq, decide_eq_false_iff_not] at hr)) <;> (try (exfalso; omega))) | (refine ag_bool (fun hg => ?_) (fun hg => ?_) <;> (try (have hq := hg; simp only [Bool.not_eq_true', Bool.not_eq_false', Bool.and_eq_true, Bool.and_eq_false_iff, Bool.or_eq_true, Bool.or_eq_false_iff, decide_eq_true_eq, decide_eq_false_iff_not, bne_iff_ne, beq_iff_eq, beq_eq_false_iff_ne, bne_eq_false_iff_eq, ne_eq, Int.not_lt, Int.not_le, Decidable.not_not] at hq)) <;> (try (have hr := hg; simp only [decide_eq_true_eq, decide_eq_false_iff_not] at hr)) <;> (try (exfalso; omega)) <;> simp (config := {maxSteps := 10000000}) (disch := first | exact okYes (by kernel_rfl) | omega) only [hr, decide_false, AG_ff, AOpRun, aexec, FSt.ev, St.F, ↓eget_h, AGo_ok, Nat.reduceAdd, St.app, putO, eput_c, Nat.reduceBEq, eput_n, cond_false, hups, List.map, ARun_some, eget_c, Nat.zero_add, Option.map, run1, hget_c, beq_self_eq_true, hget_n, cond_true, List.getElem?_cons_succ, List.getElem?_cons_zero, isSh, Bool.false_eq_true, ↓reduceIte, abin, ARun_none, hg, Bool.not_true, ↓hget_h]) | ((first | refine aw_region ?_ | refine acall0 (swithin_ac _ _ _) ?_ | refine ago_if (by omega) ?_ | skip); simp (config := {maxSteps := 10000000}) (disch := first | exact okYes (by kernel_rfl) | omega) only [thenQ, List.map, dI, dB, List.length, Nat.zero_add, Nat.reduceAdd, Nat.reduceMul, envOf, ARun_none, AOpRun, aexec, D.isBot, FSt.ev, St.F, eget_c, Nat.reduceBEq, ↓eget_h, cond_false, Bool.false_eq_true, Option.isSome, hget_c, hget_n, or_self, ↓reduceIte, D.cells, AGo_ok, St.app, putO, eput_c, eput_n, hups, hput_c, hput_n, ARun_nil, dropE_c, inL_n, dropE_n, Option.map, run1, beq_self_eq_true, cond_true, List.getElem?_cons_succ, List.getElem?_cons_zero, isSh, abin, fits, Nat.reduceLeDiff, List.all, D.leaf, Bool.and_true, and_self, splice, List.take, List.cons_append, List.nil_append, List.drop, inL_c, ↓hget_h, Int.reduceBEq, ARun_some, c5, AG_ff, Bool.not_false, AG_tf, blockQ])))
  all_goals (refine end_to [] [(48, 48)] (by first | exact .inl rfl | exact .inr rfl) rfl (by kernel_rfl) (by kernel_rfl) (by kernel_rfl) ?_ ?_ <;> repeat' (first | exact trivial | exact vr_val _ | exact vr_list _ | exact vr_at _ | exact vr_nil | exact vr_cap0 | exact vr_vec _ _ _ _ rfl | exact vr_own _ _ _ _ _ rfl | exact vr_ptr _ _ _ rfl | exact vr_nilv _ _ _ rfl | exact vr_bot _ | exact vr_cap0v _ _ _ rfl | exact vr_cap0l | apply vr_agg | apply vr_tup | apply vr_fn | refine vr_yld _ _ _ rfl ?_ | exact Ren.bot _ | exact Ren.val _ | exact Ren.list _ | exact Ren.at_ _ | exact Ren.ptr _ _ _ rfl | refine Ren.yld _ _ _ _ _ rfl rfl (RenL.get ?_).2 (fun _ _ _ h => h) | refine vr_fl _ _ _ _ _ (by decide) rfl ?_ ?_ ?_ ?_ | refine And.intro ⟨_, rfl, .inl ⟨_, rfl, by decide, ?_⟩⟩ ?_ | refine And.intro ⟨_, rfl, _, rfl, by decide, ?_⟩ ?_ | refine And.intro ⟨_, rfl, .inr ⟨rfl, rfl, of_decide_eq_true (by kernel_rfl)⟩⟩ ?_ | apply And.intro | refine vr_valq ?_ | refine vr_listq ?_ | exact vrl_flat _ (by first | exact icells_in _ | exact rcells_in _ | exact scells_in _ | exact bcells_in _ | assumption)))
set_option maxRecDepth 100000 in
set_option maxHeartbeats 1000000 in
theorem do_h6_ac (h : Hst) (wd : Int × Int) (len wt si cy kd n : Int) (t : Bool) (i : Int) (hO : HoOk h) (hc : h.cable ≤ 100) (ho0 : HgOk h ⟨len, wt, si, cy, false⟩ i) (hi : i ≤ 100) (hk : kd = 4) (c1 : wt ≤ 0) (c2 : len ≠ 0) (c3 : t = true) (c4 : si + 1 ≤ h.charge) (c5 : wI n 1 100000 = true) (c6 : caB h wd (len, len) n = false) :
    AC Try.prog 74 [.ptr 48 0, spD (kd, n)] [(48, wiC h wd ⟨len, wt, si, cy, false⟩ t)] [(48, some (wiC h wd (doK h wd ⟨len, wt, si, cy, false⟩ t (kd, n)) (doT h wd ⟨len, wt, si, cy, false⟩ t (kd, n))))] (dB (doB h wd ⟨len, wt, si, cy, false⟩ t (kd, n))) := by
  subst hk
  subst c3
  have q1 : 0 ≤ len := ho0.l1
  have q2 : len ≤ h.cable := ho0.l2
  have q3 : 0 ≤ wt := ho0.w1
  have q4 : wt ≤ 100000 := ho0.w2
  have q5 : 0 ≤ si := ho0.s1
  have q6 : si ≤ i := ho0.s2
  have q7 : 0 ≤ cy := ho0.c1
  have q8 : cy ≤ i := ho0.c2
  have e : stepS h wd ⟨len, wt, si, cy, false⟩ true (4, n) = none := by
    unfold stepS; simp [c6]
  obtain ⟨z1, z2, z3⟩ := do_none e
  rw [z1, z2, z3]
  have hn := wI_t c5
  have ca := carries_ac h wd (len, len) n ⟨len, wt, si + 1, cy, false⟩ true hO
  unfold wiC at ca
  refine kpsling_winch_do.ac (n0 := 56) (by simp) ⟨.ptr _ _ (by omega), in_agg2 _ _ _, trivial⟩ ⟨⟨by omega, wiC_in _ _ _ _ _⟩, trivial⟩ rfl ?_
  unfold cpsling_winch_do wiC spD
  (have hg : (987654321 : Nat) - 987654321 = 0 := rfl; have hr := hg; repeat' (first | refine aw_seq ?_ | (refine aw_skip ?_; try simp only [thenQ, blockQ, if_true, if_false, Nat.reduceEqDiff, reduceCtorEq]) | (refine aw_exit ?_; try simp only [thenQ, blockQ, if_true, if_false, Nat.reduceEqDiff, reduceCtorEq]) | refine aw_ret ?_ | refine aw_block ?_ | refine aw_condT rfl ?_ | refine aw_condF rfl ?_ | (refine aw_cond rfl (fun hg => ?_) (fun hg => ?_) <;> (try (have hq := hg; simp only [Bool.not_eq_true', Bool.not_eq_false', Bool.and_eq_true, Bool.and_eq_false_iff, Bool.or_eq_true, Bool.or_eq_false_iff, decide_eq_true_eq, decide_eq_false_iff_not, bne_iff_ne, beq_iff_eq, beq_eq_false_iff_ne, bne_eq_false_iff_eq, ne_eq, Int.not_lt, Int.not_le, Decidable.not_not] at hq)) <;> (try (have hr := hg; simp only [decide_eq_true_eq, decide_eq_false_iff_not] at hr)) <;> (try (exfalso; omega))) | (refine ag_bool (fun hg => ?_) (fun hg => ?_) <;> (try (have hq := hg; simp only [Bool.not_eq_true', Bool.not_eq_false', Bool.and_eq_true, Bool.and_eq_false_iff, Bool.or_eq_true, Bool.or_eq_false_iff, decide_eq_true_eq, decide_eq_false_iff_not, bne_iff_ne, beq_iff_eq, beq_eq_false_iff_ne, bne_eq_false_iff_eq, ne_eq, Int.not_lt, Int.not_le, Decidable.not_not] at hq)) <;> (try (have hr := hg; simp only [decide_eq_true_eq, decide_eq_false_iff_not] at hr)) <;> (try (exfalso; omega)) <;> simp (config := {maxSteps := 10000000}) (disch := first | exact okYes (by kernel_rfl) | omega) only [hr, decide_false, AG_ff, AOpRun, aexec, FSt.ev, St.F, ↓eget_h, AGo_ok, Nat.reduceAdd, St.app, putO, eput_c, Nat.reduceBEq, eput_n, cond_false, hups, List.map, ARun_some, eget_c, Nat.zero_add, Option.map, run1, hget_c, beq_self_eq_true, hget_n, cond_true, List.getElem?_cons_succ, List.getElem?_cons_zero, isSh, Bool.false_eq_true, ↓reduceIte, abin, ARun_none, hg, Bool.not_true, ↓hget_h]) | ((first | refine aw_region ?_ | refine acall0 (swithin_ac _ _ _) ?_ | refine acall0 (at_ac _) ?_ | refine acallB (ca) (by repeat' (first | exact trivial | exact rfl | refine And.intro ?_ ?_)) (by kernel_rfl) (by kernel_rfl) (by kernel_rfl) ?_ | refine ago_if (by omega) ?_ | skip); simp (config := {maxSteps := 10000000}) (disch := first | exact okYes (by kernel_rfl) | omega) only [thenQ, List.map, dI, dB, List.length, Nat.zero_add, Nat.reduceAdd, Nat.reduceMul, envOf, ARun_none, AOpRun, aexec, D.isBot, FSt.ev, St.F, eget_c, Nat.reduceBEq, ↓eget_h, cond_false, Bool.false_eq_true, Option.isSome, hget_c, hget_n, or_self, ↓reduceIte, D.cells, AGo_ok, St.app, putO, eput_c, eput_n, hups, hput_c, hput_n, ARun_nil, dropE_c, inL_n, dropE_n, Option.map, run1, beq_self_eq_true, cond_true, List.getElem?_cons_succ, List.getElem?_cons_zero, isSh, abin, fits, Nat.reduceLeDiff, List.all, D.leaf, Bool.and_true, and_self, splice, List.take, List.cons_append, List.nil_append, List.drop, inL_c, ↓hget_h, Int.reduceBEq, ARun_some, c5, AG_ff, Bool.not_true, c6, List.append_nil, Bool.not_false, blockQ])))
  all_goals (refine end_to [] [(48, 48)] (by first | exact .inl rfl | exact .inr rfl) rfl (by kernel_rfl) (by kernel_rfl) (by kernel_rfl) ?_ ?_ <;> repeat' (first | exact trivial | exact vr_val _ | exact vr_list _ | exact vr_at _ | exact vr_nil | exact vr_cap0 | exact vr_vec _ _ _ _ rfl | exact vr_own _ _ _ _ _ rfl | exact vr_ptr _ _ _ rfl | exact vr_nilv _ _ _ rfl | exact vr_bot _ | exact vr_cap0v _ _ _ rfl | exact vr_cap0l | apply vr_agg | apply vr_tup | apply vr_fn | refine vr_yld _ _ _ rfl ?_ | exact Ren.bot _ | exact Ren.val _ | exact Ren.list _ | exact Ren.at_ _ | exact Ren.ptr _ _ _ rfl | refine Ren.yld _ _ _ _ _ rfl rfl (RenL.get ?_).2 (fun _ _ _ h => h) | refine vr_fl _ _ _ _ _ (by decide) rfl ?_ ?_ ?_ ?_ | refine And.intro ⟨_, rfl, .inl ⟨_, rfl, by decide, ?_⟩⟩ ?_ | refine And.intro ⟨_, rfl, _, rfl, by decide, ?_⟩ ?_ | refine And.intro ⟨_, rfl, .inr ⟨rfl, rfl, of_decide_eq_true (by kernel_rfl)⟩⟩ ?_ | apply And.intro | refine vr_valq ?_ | refine vr_listq ?_ | exact vrl_flat _ (by first | exact icells_in _ | exact rcells_in _ | exact scells_in _ | exact bcells_in _ | assumption)))
set_option maxRecDepth 100000 in
set_option maxHeartbeats 1000000 in
theorem do_h7_ac (h : Hst) (wd : Int × Int) (len wt si cy kd n : Int) (t : Bool) (i : Int) (hO : HoOk h) (hc : h.cable ≤ 100) (ho0 : HgOk h ⟨len, wt, si, cy, false⟩ i) (hi : i ≤ 100) (hk : kd = 4) (c1 : wt ≤ 0) (c2 : len ≠ 0) (c3 : t = true) (c4 : si + 1 ≤ h.charge) (c5 : wI n 1 100000 = true) (c6 : caB h wd (len, len) n = true) :
    AC Try.prog 74 [.ptr 48 0, spD (kd, n)] [(48, wiC h wd ⟨len, wt, si, cy, false⟩ t)] [(48, some (wiC h wd (doK h wd ⟨len, wt, si, cy, false⟩ t (kd, n)) (doT h wd ⟨len, wt, si, cy, false⟩ t (kd, n))))] (dB (doB h wd ⟨len, wt, si, cy, false⟩ t (kd, n))) := by
  subst hk
  subst c3
  have q1 : 0 ≤ len := ho0.l1
  have q2 : len ≤ h.cable := ho0.l2
  have q3 : 0 ≤ wt := ho0.w1
  have q4 : wt ≤ 100000 := ho0.w2
  have q5 : 0 ≤ si := ho0.s1
  have q6 : si ≤ i := ho0.s2
  have q7 : 0 ≤ cy := ho0.c1
  have q8 : cy ≤ i := ho0.c2
  have e : stepS h wd ⟨len, wt, si, cy, false⟩ true (4, n) = some (⟨len, n, si + 1, cy, false⟩, true) := by
    unfold stepS; simp [c1, c2, c4, c5, c6]
  obtain ⟨z1, z2, z3⟩ := do_some e
  rw [z1, z2, z3]
  have hn := wI_t c5
  have ca := carries_ac h wd (len, len) n ⟨len, wt, si + 1, cy, false⟩ true hO
  unfold wiC at ca
  refine kpsling_winch_do.ac (n0 := 56) (by simp) ⟨.ptr _ _ (by omega), in_agg2 _ _ _, trivial⟩ ⟨⟨by omega, wiC_in _ _ _ _ _⟩, trivial⟩ rfl ?_
  unfold cpsling_winch_do wiC spD
  (have hg : (987654321 : Nat) - 987654321 = 0 := rfl; have hr := hg; repeat' (first | refine aw_seq ?_ | (refine aw_skip ?_; try simp only [thenQ, blockQ, if_true, if_false, Nat.reduceEqDiff, reduceCtorEq]) | (refine aw_exit ?_; try simp only [thenQ, blockQ, if_true, if_false, Nat.reduceEqDiff, reduceCtorEq]) | refine aw_ret ?_ | refine aw_block ?_ | refine aw_condT rfl ?_ | refine aw_condF rfl ?_ | (refine aw_cond rfl (fun hg => ?_) (fun hg => ?_) <;> (try (have hq := hg; simp only [Bool.not_eq_true', Bool.not_eq_false', Bool.and_eq_true, Bool.and_eq_false_iff, Bool.or_eq_true, Bool.or_eq_false_iff, decide_eq_true_eq, decide_eq_false_iff_not, bne_iff_ne, beq_iff_eq, beq_eq_false_iff_ne, bne_eq_false_iff_eq, ne_eq, Int.not_lt, Int.not_le, Decidable.not_not] at hq)) <;> (try (have hr := hg; simp only [decide_eq_true_eq, decide_eq_false_iff_not] at hr)) <;> (try (exfalso; omega))) | (refine ag_bool (fun hg => ?_) (fun hg => ?_) <;> (try (have hq := hg; simp only [Bool.not_eq_true', Bool.not_eq_false', Bool.and_eq_true, Bool.and_eq_false_iff, Bool.or_eq_true, Bool.or_eq_false_iff, decide_eq_true_eq, decide_eq_false_iff_not, bne_iff_ne, beq_iff_eq, beq_eq_false_iff_ne, bne_eq_false_iff_eq, ne_eq, Int.not_lt, Int.not_le, Decidable.not_not] at hq)) <;> (try (have hr := hg; simp only [decide_eq_true_eq, decide_eq_false_iff_not] at hr)) <;> (try (exfalso; omega)) <;> simp (config := {maxSteps := 10000000}) (disch := first | exact okYes (by kernel_rfl) | omega) only [hr, decide_false, AG_ff, AOpRun, aexec, FSt.ev, St.F, ↓eget_h, AGo_ok, Nat.reduceAdd, St.app, putO, eput_c, Nat.reduceBEq, eput_n, cond_false, hups, List.map, ARun_some, eget_c, Nat.zero_add, Option.map, run1, hget_c, beq_self_eq_true, hget_n, cond_true, List.getElem?_cons_succ, List.getElem?_cons_zero, isSh, Bool.false_eq_true, ↓reduceIte, abin, ARun_none, hg, Bool.not_true, ↓hget_h]) | ((first | refine aw_region ?_ | refine acall0 (swithin_ac _ _ _) ?_ | refine acall0 (at_ac _) ?_ | refine acallB (ca) (by repeat' (first | exact trivial | exact rfl | refine And.intro ?_ ?_)) (by kernel_rfl) (by kernel_rfl) (by kernel_rfl) ?_ | refine ago_if (by omega) ?_ | skip); simp (config := {maxSteps := 10000000}) (disch := first | exact okYes (by kernel_rfl) | omega) only [thenQ, List.map, dI, dB, List.length, Nat.zero_add, Nat.reduceAdd, Nat.reduceMul, envOf, ARun_none, AOpRun, aexec, D.isBot, FSt.ev, St.F, eget_c, Nat.reduceBEq, ↓eget_h, cond_false, Bool.false_eq_true, Option.isSome, hget_c, hget_n, or_self, ↓reduceIte, D.cells, AGo_ok, St.app, putO, eput_c, eput_n, hups, hput_c, hput_n, ARun_nil, dropE_c, inL_n, dropE_n, Option.map, run1, beq_self_eq_true, cond_true, List.getElem?_cons_succ, List.getElem?_cons_zero, isSh, abin, fits, Nat.reduceLeDiff, List.all, D.leaf, Bool.and_true, and_self, splice, List.take, List.cons_append, List.nil_append, List.drop, inL_c, ↓hget_h, Int.reduceBEq, ARun_some, c5, AG_ff, Bool.not_true, c6, List.append_nil, blockQ])))
  all_goals (refine end_to [] [(48, 48)] (by first | exact .inl rfl | exact .inr rfl) rfl (by kernel_rfl) (by kernel_rfl) (by kernel_rfl) ?_ ?_ <;> repeat' (first | exact trivial | exact vr_val _ | exact vr_list _ | exact vr_at _ | exact vr_nil | exact vr_cap0 | exact vr_vec _ _ _ _ rfl | exact vr_own _ _ _ _ _ rfl | exact vr_ptr _ _ _ rfl | exact vr_nilv _ _ _ rfl | exact vr_bot _ | exact vr_cap0v _ _ _ rfl | exact vr_cap0l | apply vr_agg | apply vr_tup | apply vr_fn | refine vr_yld _ _ _ rfl ?_ | exact Ren.bot _ | exact Ren.val _ | exact Ren.list _ | exact Ren.at_ _ | exact Ren.ptr _ _ _ rfl | refine Ren.yld _ _ _ _ _ rfl rfl (RenL.get ?_).2 (fun _ _ _ h => h) | refine vr_fl _ _ _ _ _ (by decide) rfl ?_ ?_ ?_ ?_ | refine And.intro ⟨_, rfl, .inl ⟨_, rfl, by decide, ?_⟩⟩ ?_ | refine And.intro ⟨_, rfl, _, rfl, by decide, ?_⟩ ?_ | refine And.intro ⟨_, rfl, .inr ⟨rfl, rfl, of_decide_eq_true (by kernel_rfl)⟩⟩ ?_ | apply And.intro | refine vr_valq ?_ | refine vr_listq ?_ | exact vrl_flat _ (by first | exact icells_in _ | exact rcells_in _ | exact scells_in _ | exact bcells_in _ | assumption)))
set_option maxRecDepth 100000 in
set_option maxHeartbeats 1000000 in
theorem do_n_ac (h : Hst) (wd : Int × Int) (len wt si cy kd n : Int) (t : Bool) (i : Int) (hO : HoOk h) (hc : h.cable ≤ 100) (ho0 : HgOk h ⟨len, wt, si, cy, false⟩ i) (hi : i ≤ 100) (k1 : ¬ kd = 1) (k2 : ¬ kd = 2) (k4 : ¬ kd = 4) (c1 : n ≠ 0) :
    AC Try.prog 74 [.ptr 48 0, spD (kd, n)] [(48, wiC h wd ⟨len, wt, si, cy, false⟩ t)] [(48, some (wiC h wd (doK h wd ⟨len, wt, si, cy, false⟩ t (kd, n)) (doT h wd ⟨len, wt, si, cy, false⟩ t (kd, n))))] (dB (doB h wd ⟨len, wt, si, cy, false⟩ t (kd, n))) := by
  have q1 : 0 ≤ len := ho0.l1
  have q2 : len ≤ h.cable := ho0.l2
  have q3 : 0 ≤ wt := ho0.w1
  have q4 : wt ≤ 100000 := ho0.w2
  have q5 : 0 ≤ si := ho0.s1
  have q6 : si ≤ i := ho0.s2
  have q7 : 0 ≤ cy := ho0.c1
  have q8 : cy ≤ i := ho0.c2
  have e : stepS h wd ⟨len, wt, si, cy, false⟩ t (kd, n) = none := by
    unfold stepS; simp [k1, k2, k4, c1]
  obtain ⟨z1, z2, z3⟩ := do_none e
  rw [z1, z2, z3]
  refine kpsling_winch_do.ac (n0 := 56) (by simp) ⟨.ptr _ _ (by omega), in_agg2 _ _ _, trivial⟩ ⟨⟨by omega, wiC_in _ _ _ _ _⟩, trivial⟩ rfl ?_
  unfold cpsling_winch_do wiC spD
  (have hg : (987654321 : Nat) - 987654321 = 0 := rfl; have hr := hg; repeat' (first | refine aw_seq ?_ | (refine aw_skip ?_; try simp only [thenQ, blockQ, if_true, if_false, Nat.reduceEqDiff, reduceCtorEq]) | (refine aw_exit ?_; try simp only [thenQ, blockQ, if_true, if_false, Nat.reduceEqDiff, reduceCtorEq]) | refine aw_ret ?_ | refine aw_block ?_ | refine aw_condT rfl ?_ | refine aw_condF rfl ?_ | (refine aw_cond rfl (fun hg => ?_) (fun hg => ?_) <;> (try (have hq := hg; simp only [Bool.not_eq_true', Bool.not_eq_false', Bool.and_eq_true, Bool.and_eq_false_iff, Bool.or_eq_true, Bool.or_eq_false_iff, decide_eq_true_eq, decide_eq_false_iff_not, bne_iff_ne, beq_iff_eq, beq_eq_false_iff_ne, bne_eq_false_iff_eq, ne_eq, Int.not_lt, Int.not_le, Decidable.not_not] at hq)) <;> (try (have hr := hg; simp only [decide_eq_true_eq, decide_eq_false_iff_not] at hr)) <;> (try (exfalso; omega))) | ((first | refine aw_region ?_ | refine ago_if (by omega) ?_ | skip); simp (config := {maxSteps := 10000000}) (disch := first | exact okYes (by kernel_rfl) | omega) only [thenQ, List.map, dI, dB, List.length, Nat.zero_add, Nat.reduceAdd, Nat.reduceMul, envOf, ARun_none, AOpRun, aexec, D.isBot, FSt.ev, St.F, eget_c, Nat.reduceBEq, ↓eget_h, cond_false, Bool.false_eq_true, Option.isSome, hget_c, hget_n, or_self, ↓reduceIte, D.cells, AGo_ok, St.app, putO, eput_c, eput_n, hups, hput_c, hput_n, ARun_nil, dropE_c, inL_n, dropE_n, Option.map, run1, beq_self_eq_true, cond_true, List.getElem?_cons_succ, List.getElem?_cons_zero, isSh, abin, fits, Nat.reduceLeDiff, List.all, D.leaf, Bool.and_true, and_self, splice, List.take, List.cons_append, List.nil_append, List.drop, inL_c, ↓hget_h, hg, blockQ])))
  all_goals (refine end_to [] [(48, 48)] (by first | exact .inl rfl | exact .inr rfl) rfl (by kernel_rfl) (by kernel_rfl) (by kernel_rfl) ?_ ?_ <;> repeat' (first | exact trivial | exact vr_val _ | exact vr_list _ | exact vr_at _ | exact vr_nil | exact vr_cap0 | exact vr_vec _ _ _ _ rfl | exact vr_own _ _ _ _ _ rfl | exact vr_ptr _ _ _ rfl | exact vr_nilv _ _ _ rfl | exact vr_bot _ | exact vr_cap0v _ _ _ rfl | exact vr_cap0l | apply vr_agg | apply vr_tup | apply vr_fn | refine vr_yld _ _ _ rfl ?_ | exact Ren.bot _ | exact Ren.val _ | exact Ren.list _ | exact Ren.at_ _ | exact Ren.ptr _ _ _ rfl | refine Ren.yld _ _ _ _ _ rfl rfl (RenL.get ?_).2 (fun _ _ _ h => h) | refine vr_fl _ _ _ _ _ (by decide) rfl ?_ ?_ ?_ ?_ | refine And.intro ⟨_, rfl, .inl ⟨_, rfl, by decide, ?_⟩⟩ ?_ | refine And.intro ⟨_, rfl, _, rfl, by decide, ?_⟩ ?_ | refine And.intro ⟨_, rfl, .inr ⟨rfl, rfl, of_decide_eq_true (by kernel_rfl)⟩⟩ ?_ | apply And.intro | refine vr_valq ?_ | refine vr_listq ?_ | exact vrl_flat _ (by first | exact icells_in _ | exact rcells_in _ | exact scells_in _ | exact bcells_in _ | assumption)))
set_option maxRecDepth 100000 in
set_option maxHeartbeats 1000000 in
theorem do_t1_ac (h : Hst) (wd : Int × Int) (len wt si cy kd n : Int) (t : Bool) (i : Int) (hO : HoOk h) (hc : h.cable ≤ 100) (ho0 : HgOk h ⟨len, wt, si, cy, false⟩ i) (hi : i ≤ 100) (hk : kd = 3) (hn : n = 0) (c1 : 0 < len) :
    AC Try.prog 74 [.ptr 48 0, spD (kd, n)] [(48, wiC h wd ⟨len, wt, si, cy, false⟩ t)] [(48, some (wiC h wd (doK h wd ⟨len, wt, si, cy, false⟩ t (kd, n)) (doT h wd ⟨len, wt, si, cy, false⟩ t (kd, n))))] (dB (doB h wd ⟨len, wt, si, cy, false⟩ t (kd, n))) := by
  subst hk
  subst hn
  have q1 : 0 ≤ len := ho0.l1
  have q2 : len ≤ h.cable := ho0.l2
  have q3 : 0 ≤ wt := ho0.w1
  have q4 : wt ≤ 100000 := ho0.w2
  have q5 : 0 ≤ si := ho0.s1
  have q6 : si ≤ i := ho0.s2
  have q7 : 0 ≤ cy := ho0.c1
  have q8 : cy ≤ i := ho0.c2
  have e : stepS h wd ⟨len, wt, si, cy, false⟩ t (3, 0) = some (⟨len, wt, 0, cy, false⟩, true) := by
    unfold stepS; simp [c1]
  obtain ⟨z1, z2, z3⟩ := do_some e
  rw [z1, z2, z3]
  refine kpsling_winch_do.ac (n0 := 56) (by simp) ⟨.ptr _ _ (by omega), in_agg2 _ _ _, trivial⟩ ⟨⟨by omega, wiC_in _ _ _ _ _⟩, trivial⟩ rfl ?_
  unfold cpsling_winch_do wiC spD
  (have hg : (987654321 : Nat) - 987654321 = 0 := rfl; have hr := hg; repeat' (first | refine aw_seq ?_ | (refine aw_skip ?_; try simp only [thenQ, blockQ, if_true, if_false, Nat.reduceEqDiff, reduceCtorEq]) | (refine aw_exit ?_; try simp only [thenQ, blockQ, if_true, if_false, Nat.reduceEqDiff, reduceCtorEq]) | refine aw_ret ?_ | refine aw_block ?_ | refine aw_condT rfl ?_ | refine aw_condF rfl ?_ | (refine aw_cond rfl (fun hg => ?_) (fun hg => ?_) <;> (try (have hq := hg; simp only [Bool.not_eq_true', Bool.not_eq_false', Bool.and_eq_true, Bool.and_eq_false_iff, Bool.or_eq_true, Bool.or_eq_false_iff, decide_eq_true_eq, decide_eq_false_iff_not, bne_iff_ne, beq_iff_eq, beq_eq_false_iff_ne, bne_eq_false_iff_eq, ne_eq, Int.not_lt, Int.not_le, Decidable.not_not] at hq)) <;> (try (have hr := hg; simp only [decide_eq_true_eq, decide_eq_false_iff_not] at hr)) <;> (try (exfalso; omega))) | ((first | refine aw_region ?_ | refine ago_if (by omega) ?_ | skip); simp (config := {maxSteps := 10000000}) (disch := first | exact okYes (by kernel_rfl) | omega) only [thenQ, List.map, dI, dB, List.length, Nat.zero_add, Nat.reduceAdd, Nat.reduceMul, envOf, ARun_none, AOpRun, aexec, D.isBot, FSt.ev, St.F, eget_c, Nat.reduceBEq, ↓eget_h, cond_false, Bool.false_eq_true, Option.isSome, hget_c, hget_n, or_self, ↓reduceIte, D.cells, AGo_ok, St.app, putO, eput_c, eput_n, hups, hput_c, hput_n, ARun_nil, dropE_c, inL_n, dropE_n, Option.map, run1, beq_self_eq_true, cond_true, List.getElem?_cons_succ, List.getElem?_cons_zero, isSh, abin, fits, Nat.reduceLeDiff, List.all, D.leaf, Bool.and_true, and_self, splice, List.take, List.cons_append, List.nil_append, List.drop, inL_c, ↓hget_h, Int.reduceBEq, bne_self_eq_false, ARun_some, AG_tt, blockQ, hr, decide_true, List.append_nil])))
  all_goals (refine end_to [] [(48, 48)] (by first | exact .inl rfl | exact .inr rfl) rfl (by kernel_rfl) (by kernel_rfl) (by kernel_rfl) ?_ ?_ <;> repeat' (first | exact trivial | exact vr_val _ | exact vr_list _ | exact vr_at _ | exact vr_nil | exact vr_cap0 | exact vr_vec _ _ _ _ rfl | exact vr_own _ _ _ _ _ rfl | exact vr_ptr _ _ _ rfl | exact vr_nilv _ _ _ rfl | exact vr_bot _ | exact vr_cap0v _ _ _ rfl | exact vr_cap0l | apply vr_agg | apply vr_tup | apply vr_fn | refine vr_yld _ _ _ rfl ?_ | exact Ren.bot _ | exact Ren.val _ | exact Ren.list _ | exact Ren.at_ _ | exact Ren.ptr _ _ _ rfl | refine Ren.yld _ _ _ _ _ rfl rfl (RenL.get ?_).2 (fun _ _ _ h => h) | refine vr_fl _ _ _ _ _ (by decide) rfl ?_ ?_ ?_ ?_ | refine And.intro ⟨_, rfl, .inl ⟨_, rfl, by decide, ?_⟩⟩ ?_ | refine And.intro ⟨_, rfl, _, rfl, by decide, ?_⟩ ?_ | refine And.intro ⟨_, rfl, .inr ⟨rfl, rfl, of_decide_eq_true (by kernel_rfl)⟩⟩ ?_ | apply And.intro | refine vr_valq ?_ | refine vr_listq ?_ | exact vrl_flat _ (by first | exact icells_in _ | exact rcells_in _ | exact scells_in _ | exact bcells_in _ | assumption)))
set_option maxRecDepth 100000 in
set_option maxHeartbeats 1000000 in
theorem do_t2_ac (h : Hst) (wd : Int × Int) (len wt si cy kd n : Int) (t : Bool) (i : Int) (hO : HoOk h) (hc : h.cable ≤ 100) (ho0 : HgOk h ⟨len, wt, si, cy, false⟩ i) (hi : i ≤ 100) (hk : kd = 3) (hn : n = 0) (c1 : ¬ 0 < len) :
    AC Try.prog 74 [.ptr 48 0, spD (kd, n)] [(48, wiC h wd ⟨len, wt, si, cy, false⟩ t)] [(48, some (wiC h wd (doK h wd ⟨len, wt, si, cy, false⟩ t (kd, n)) (doT h wd ⟨len, wt, si, cy, false⟩ t (kd, n))))] (dB (doB h wd ⟨len, wt, si, cy, false⟩ t (kd, n))) := by
  subst hk
  subst hn
  have q1 : 0 ≤ len := ho0.l1
  have q2 : len ≤ h.cable := ho0.l2
  have q3 : 0 ≤ wt := ho0.w1
  have q4 : wt ≤ 100000 := ho0.w2
  have q5 : 0 ≤ si := ho0.s1
  have q6 : si ≤ i := ho0.s2
  have q7 : 0 ≤ cy := ho0.c1
  have q8 : cy ≤ i := ho0.c2
  have e : stepS h wd ⟨len, wt, si, cy, false⟩ t (3, 0) = none := by
    unfold stepS; simp [c1]
  obtain ⟨z1, z2, z3⟩ := do_none e
  rw [z1, z2, z3]
  refine kpsling_winch_do.ac (n0 := 56) (by simp) ⟨.ptr _ _ (by omega), in_agg2 _ _ _, trivial⟩ ⟨⟨by omega, wiC_in _ _ _ _ _⟩, trivial⟩ rfl ?_
  unfold cpsling_winch_do wiC spD
  (have hg : (987654321 : Nat) - 987654321 = 0 := rfl; have hr := hg; repeat' (first | refine aw_seq ?_ | (refine aw_skip ?_; try simp only [thenQ, blockQ, if_true, if_false, Nat.reduceEqDiff, reduceCtorEq]) | (refine aw_exit ?_; try simp only [thenQ, blockQ, if_true, if_false, Nat.reduceEqDiff, reduceCtorEq]) | refine aw_ret ?_ | refine aw_block ?_ | refine aw_condT rfl ?_ | refine aw_condF rfl ?_ | (refine aw_cond rfl (fun hg => ?_) (fun hg => ?_) <;> (try (have hq := hg; simp only [Bool.not_eq_true', Bool.not_eq_false', Bool.and_eq_true, Bool.and_eq_false_iff, Bool.or_eq_true, Bool.or_eq_false_iff, decide_eq_true_eq, decide_eq_false_iff_not, bne_iff_ne, beq_iff_eq, beq_eq_false_iff_ne, bne_eq_false_iff_eq, ne_eq, Int.not_lt, Int.not_le, Decidable.not_not] at hq)) <;> (try (have hr := hg; simp only [decide_eq_true_eq, decide_eq_false_iff_not] at hr)) <;> (try (exfalso; omega))) | ((first | refine aw_region ?_ | refine ago_if (by omega) ?_ | skip); simp (config := {maxSteps := 10000000}) (disch := first | exact okYes (by kernel_rfl) | omega) only [thenQ, List.map, dI, dB, List.length, Nat.zero_add, Nat.reduceAdd, Nat.reduceMul, envOf, ARun_none, AOpRun, aexec, D.isBot, FSt.ev, St.F, eget_c, Nat.reduceBEq, ↓eget_h, cond_false, Bool.false_eq_true, Option.isSome, hget_c, hget_n, or_self, ↓reduceIte, D.cells, AGo_ok, St.app, putO, eput_c, eput_n, hups, hput_c, hput_n, ARun_nil, dropE_c, inL_n, dropE_n, Option.map, run1, beq_self_eq_true, cond_true, List.getElem?_cons_succ, List.getElem?_cons_zero, isSh, abin, fits, Nat.reduceLeDiff, List.all, D.leaf, Bool.and_true, and_self, splice, List.take, List.cons_append, List.nil_append, List.drop, inL_c, ↓hget_h, Int.reduceBEq, bne_self_eq_false, ARun_some, AG_tt, hr, decide_false, AG_ft, blockQ])))
  all_goals (refine end_to [] [(48, 48)] (by first | exact .inl rfl | exact .inr rfl) rfl (by kernel_rfl) (by kernel_rfl) (by kernel_rfl) ?_ ?_ <;> repeat' (first | exact trivial | exact vr_val _ | exact vr_list _ | exact vr_at _ | exact vr_nil | exact vr_cap0 | exact vr_vec _ _ _ _ rfl | exact vr_own _ _ _ _ _ rfl | exact vr_ptr _ _ _ rfl | exact vr_nilv _ _ _ rfl | exact vr_bot _ | exact vr_cap0v _ _ _ rfl | exact vr_cap0l | apply vr_agg | apply vr_tup | apply vr_fn | refine vr_yld _ _ _ rfl ?_ | exact Ren.bot _ | exact Ren.val _ | exact Ren.list _ | exact Ren.at_ _ | exact Ren.ptr _ _ _ rfl | refine Ren.yld _ _ _ _ _ rfl rfl (RenL.get ?_).2 (fun _ _ _ h => h) | refine vr_fl _ _ _ _ _ (by decide) rfl ?_ ?_ ?_ ?_ | refine And.intro ⟨_, rfl, .inl ⟨_, rfl, by decide, ?_⟩⟩ ?_ | refine And.intro ⟨_, rfl, _, rfl, by decide, ?_⟩ ?_ | refine And.intro ⟨_, rfl, .inr ⟨rfl, rfl, of_decide_eq_true (by kernel_rfl)⟩⟩ ?_ | apply And.intro | refine vr_valq ?_ | refine vr_listq ?_ | exact vrl_flat _ (by first | exact icells_in _ | exact rcells_in _ | exact scells_in _ | exact bcells_in _ | assumption)))
set_option maxRecDepth 100000 in
set_option maxHeartbeats 1000000 in
theorem do_u1_ac (h : Hst) (wd : Int × Int) (len wt si cy kd n : Int) (t : Bool) (i : Int) (hO : HoOk h) (hc : h.cable ≤ 100) (ho0 : HgOk h ⟨len, wt, si, cy, false⟩ i) (hi : i ≤ 100) (hk : kd = 5) (hn : n = 0) (c1 : 0 < wt) :
    AC Try.prog 74 [.ptr 48 0, spD (kd, n)] [(48, wiC h wd ⟨len, wt, si, cy, false⟩ t)] [(48, some (wiC h wd (doK h wd ⟨len, wt, si, cy, false⟩ t (kd, n)) (doT h wd ⟨len, wt, si, cy, false⟩ t (kd, n))))] (dB (doB h wd ⟨len, wt, si, cy, false⟩ t (kd, n))) := by
  subst hk
  subst hn
  have q1 : 0 ≤ len := ho0.l1
  have q2 : len ≤ h.cable := ho0.l2
  have q3 : 0 ≤ wt := ho0.w1
  have q4 : wt ≤ 100000 := ho0.w2
  have q5 : 0 ≤ si := ho0.s1
  have q6 : si ≤ i := ho0.s2
  have q7 : 0 ≤ cy := ho0.c1
  have q8 : cy ≤ i := ho0.c2
  have e : stepS h wd ⟨len, wt, si, cy, false⟩ t (5, 0) = some (⟨len, 0, si + 1, cy + 1, false⟩, t) := by
    unfold stepS; simp [c1]
  obtain ⟨z1, z2, z3⟩ := do_some e
  rw [z1, z2, z3]
  refine kpsling_winch_do.ac (n0 := 56) (by simp) ⟨.ptr _ _ (by omega), in_agg2 _ _ _, trivial⟩ ⟨⟨by omega, wiC_in _ _ _ _ _⟩, trivial⟩ rfl ?_
  unfold cpsling_winch_do wiC spD
  (have hg : (987654321 : Nat) - 987654321 = 0 := rfl; have hr := hg; repeat' (first | refine aw_seq ?_ | (refine aw_skip ?_; try simp only [thenQ, blockQ, if_true, if_false, Nat.reduceEqDiff, reduceCtorEq]) | (refine aw_exit ?_; try simp only [thenQ, blockQ, if_true, if_false, Nat.reduceEqDiff, reduceCtorEq]) | refine aw_ret ?_ | refine aw_block ?_ | refine aw_condT rfl ?_ | refine aw_condF rfl ?_ | (refine aw_cond rfl (fun hg => ?_) (fun hg => ?_) <;> (try (have hq := hg; simp only [Bool.not_eq_true', Bool.not_eq_false', Bool.and_eq_true, Bool.and_eq_false_iff, Bool.or_eq_true, Bool.or_eq_false_iff, decide_eq_true_eq, decide_eq_false_iff_not, bne_iff_ne, beq_iff_eq, beq_eq_false_iff_ne, bne_eq_false_iff_eq, ne_eq, Int.not_lt, Int.not_le, Decidable.not_not] at hq)) <;> (try (have hr := hg; simp only [decide_eq_true_eq, decide_eq_false_iff_not] at hr)) <;> (try (exfalso; omega))) | ((first | refine aw_region ?_ | refine ago_if (by omega) ?_ | skip); simp (config := {maxSteps := 10000000}) (disch := first | exact okYes (by kernel_rfl) | omega) only [thenQ, List.map, dI, dB, List.length, Nat.zero_add, Nat.reduceAdd, Nat.reduceMul, envOf, ARun_none, AOpRun, aexec, D.isBot, FSt.ev, St.F, eget_c, Nat.reduceBEq, ↓eget_h, cond_false, Bool.false_eq_true, Option.isSome, hget_c, hget_n, or_self, ↓reduceIte, D.cells, AGo_ok, St.app, putO, eput_c, eput_n, hups, hput_c, hput_n, ARun_nil, dropE_c, inL_n, dropE_n, Option.map, run1, beq_self_eq_true, cond_true, List.getElem?_cons_succ, List.getElem?_cons_zero, isSh, abin, fits, Nat.reduceLeDiff, List.all, D.leaf, Bool.and_true, and_self, splice, List.take, List.cons_append, List.nil_append, List.drop, inL_c, ↓hget_h, Int.reduceBEq, bne_self_eq_false, ARun_some, AG_ft, AG_tt, hr, decide_true, blockQ])))
  all_goals (refine end_to [] [(48, 48)] (by first | exact .inl rfl | exact .inr rfl) rfl (by kernel_rfl) (by kernel_rfl) (by kernel_rfl) ?_ ?_ <;> repeat' (first | exact trivial | exact vr_val _ | exact vr_list _ | exact vr_at _ | exact vr_nil | exact vr_cap0 | exact vr_vec _ _ _ _ rfl | exact vr_own _ _ _ _ _ rfl | exact vr_ptr _ _ _ rfl | exact vr_nilv _ _ _ rfl | exact vr_bot _ | exact vr_cap0v _ _ _ rfl | exact vr_cap0l | apply vr_agg | apply vr_tup | apply vr_fn | refine vr_yld _ _ _ rfl ?_ | exact Ren.bot _ | exact Ren.val _ | exact Ren.list _ | exact Ren.at_ _ | exact Ren.ptr _ _ _ rfl | refine Ren.yld _ _ _ _ _ rfl rfl (RenL.get ?_).2 (fun _ _ _ h => h) | refine vr_fl _ _ _ _ _ (by decide) rfl ?_ ?_ ?_ ?_ | refine And.intro ⟨_, rfl, .inl ⟨_, rfl, by decide, ?_⟩⟩ ?_ | refine And.intro ⟨_, rfl, _, rfl, by decide, ?_⟩ ?_ | refine And.intro ⟨_, rfl, .inr ⟨rfl, rfl, of_decide_eq_true (by kernel_rfl)⟩⟩ ?_ | apply And.intro | refine vr_valq ?_ | refine vr_listq ?_ | exact vrl_flat _ (by first | exact icells_in _ | exact rcells_in _ | exact scells_in _ | exact bcells_in _ | assumption)))
set_option maxRecDepth 100000 in
set_option maxHeartbeats 1000000 in
theorem do_u2_ac (h : Hst) (wd : Int × Int) (len wt si cy kd n : Int) (t : Bool) (i : Int) (hO : HoOk h) (hc : h.cable ≤ 100) (ho0 : HgOk h ⟨len, wt, si, cy, false⟩ i) (hi : i ≤ 100) (hk : kd = 5) (hn : n = 0) (c1 : ¬ 0 < wt) :
    AC Try.prog 74 [.ptr 48 0, spD (kd, n)] [(48, wiC h wd ⟨len, wt, si, cy, false⟩ t)] [(48, some (wiC h wd (doK h wd ⟨len, wt, si, cy, false⟩ t (kd, n)) (doT h wd ⟨len, wt, si, cy, false⟩ t (kd, n))))] (dB (doB h wd ⟨len, wt, si, cy, false⟩ t (kd, n))) := by
  subst hk
  subst hn
  have q1 : 0 ≤ len := ho0.l1
  have q2 : len ≤ h.cable := ho0.l2
  have q3 : 0 ≤ wt := ho0.w1
  have q4 : wt ≤ 100000 := ho0.w2
  have q5 : 0 ≤ si := ho0.s1
  have q6 : si ≤ i := ho0.s2
  have q7 : 0 ≤ cy := ho0.c1
  have q8 : cy ≤ i := ho0.c2
  have e : stepS h wd ⟨len, wt, si, cy, false⟩ t (5, 0) = none := by
    unfold stepS; simp [c1]
  obtain ⟨z1, z2, z3⟩ := do_none e
  rw [z1, z2, z3]
  refine kpsling_winch_do.ac (n0 := 56) (by simp) ⟨.ptr _ _ (by omega), in_agg2 _ _ _, trivial⟩ ⟨⟨by omega, wiC_in _ _ _ _ _⟩, trivial⟩ rfl ?_
  unfold cpsling_winch_do wiC spD
  (have hg : (987654321 : Nat) - 987654321 = 0 := rfl; have hr := hg; repeat' (first | refine aw_seq ?_ | (refine aw_skip ?_; try simp only [thenQ, blockQ, if_true, if_false, Nat.reduceEqDiff, reduceCtorEq]) | (refine aw_exit ?_; try simp only [thenQ, blockQ, if_true, if_false, Nat.reduceEqDiff, reduceCtorEq]) | refine aw_ret ?_ | refine aw_block ?_ | refine aw_condT rfl ?_ | refine aw_condF rfl ?_ | (refine aw_cond rfl (fun hg => ?_) (fun hg => ?_) <;> (try (have hq := hg; simp only [Bool.not_eq_true', Bool.not_eq_false', Bool.and_eq_true, Bool.and_eq_false_iff, Bool.or_eq_true, Bool.or_eq_false_iff, decide_eq_true_eq, decide_eq_false_iff_not, bne_iff_ne, beq_iff_eq, beq_eq_false_iff_ne, bne_eq_false_iff_eq, ne_eq, Int.not_lt, Int.not_le, Decidable.not_not] at hq)) <;> (try (have hr := hg; simp only [decide_eq_true_eq, decide_eq_false_iff_not] at hr)) <;> (try (exfalso; omega))) | ((first | refine aw_region ?_ | refine ago_if (by omega) ?_ | skip); simp (config := {maxSteps := 10000000}) (disch := first | exact okYes (by kernel_rfl) | omega) only [thenQ, List.map, dI, dB, List.length, Nat.zero_add, Nat.reduceAdd, Nat.reduceMul, envOf, ARun_none, AOpRun, aexec, D.isBot, FSt.ev, St.F, eget_c, Nat.reduceBEq, ↓eget_h, cond_false, Bool.false_eq_true, Option.isSome, hget_c, hget_n, or_self, ↓reduceIte, D.cells, AGo_ok, St.app, putO, eput_c, eput_n, hups, hput_c, hput_n, ARun_nil, dropE_c, inL_n, dropE_n, Option.map, run1, beq_self_eq_true, cond_true, List.getElem?_cons_succ, List.getElem?_cons_zero, isSh, abin, fits, Nat.reduceLeDiff, List.all, D.leaf, Bool.and_true, and_self, splice, List.take, List.cons_append, List.nil_append, List.drop, inL_c, ↓hget_h, Int.reduceBEq, bne_self_eq_false, ARun_some, AG_ft, AG_tt, hr, decide_false, blockQ])))
  all_goals (refine end_to [] [(48, 48)] (by first | exact .inl rfl | exact .inr rfl) rfl (by kernel_rfl) (by kernel_rfl) (by kernel_rfl) ?_ ?_ <;> repeat' (first | exact trivial | exact vr_val _ | exact vr_list _ | exact vr_at _ | exact vr_nil | exact vr_cap0 | exact vr_vec _ _ _ _ rfl | exact vr_own _ _ _ _ _ rfl | exact vr_ptr _ _ _ rfl | exact vr_nilv _ _ _ rfl | exact vr_bot _ | exact vr_cap0v _ _ _ rfl | exact vr_cap0l | apply vr_agg | apply vr_tup | apply vr_fn | refine vr_yld _ _ _ rfl ?_ | exact Ren.bot _ | exact Ren.val _ | exact Ren.list _ | exact Ren.at_ _ | exact Ren.ptr _ _ _ rfl | refine Ren.yld _ _ _ _ _ rfl rfl (RenL.get ?_).2 (fun _ _ _ h => h) | refine vr_fl _ _ _ _ _ (by decide) rfl ?_ ?_ ?_ ?_ | refine And.intro ⟨_, rfl, .inl ⟨_, rfl, by decide, ?_⟩⟩ ?_ | refine And.intro ⟨_, rfl, _, rfl, by decide, ?_⟩ ?_ | refine And.intro ⟨_, rfl, .inr ⟨rfl, rfl, of_decide_eq_true (by kernel_rfl)⟩⟩ ?_ | apply And.intro | refine vr_valq ?_ | refine vr_listq ?_ | exact vrl_flat _ (by first | exact icells_in _ | exact rcells_in _ | exact scells_in _ | exact bcells_in _ | assumption)))
set_option maxRecDepth 100000 in
set_option maxHeartbeats 1000000 in
theorem do_c_ac (h : Hst) (wd : Int × Int) (len wt si cy kd n : Int) (t : Bool) (i : Int) (hO : HoOk h) (hc : h.cable ≤ 100) (ho0 : HgOk h ⟨len, wt, si, cy, false⟩ i) (hi : i ≤ 100) (hk : kd = 6) (hn : n = 0) :
    AC Try.prog 74 [.ptr 48 0, spD (kd, n)] [(48, wiC h wd ⟨len, wt, si, cy, false⟩ t)] [(48, some (wiC h wd (doK h wd ⟨len, wt, si, cy, false⟩ t (kd, n)) (doT h wd ⟨len, wt, si, cy, false⟩ t (kd, n))))] (dB (doB h wd ⟨len, wt, si, cy, false⟩ t (kd, n))) := by
  subst hk
  subst hn
  have q1 : 0 ≤ len := ho0.l1
  have q2 : len ≤ h.cable := ho0.l2
  have q3 : 0 ≤ wt := ho0.w1
  have q4 : wt ≤ 100000 := ho0.w2
  have q5 : 0 ≤ si := ho0.s1
  have q6 : si ≤ i := ho0.s2
  have q7 : 0 ≤ cy := ho0.c1
  have q8 : cy ≤ i := ho0.c2
  have e : stepS h wd ⟨len, wt, si, cy, false⟩ t (6, 0) = some (⟨0, 0, si + 1, cy, true⟩, t) := by
    unfold stepS; simp
  obtain ⟨z1, z2, z3⟩ := do_some e
  rw [z1, z2, z3]
  refine kpsling_winch_do.ac (n0 := 56) (by simp) ⟨.ptr _ _ (by omega), in_agg2 _ _ _, trivial⟩ ⟨⟨by omega, wiC_in _ _ _ _ _⟩, trivial⟩ rfl ?_
  unfold cpsling_winch_do wiC spD
  (have hg : (987654321 : Nat) - 987654321 = 0 := rfl; have hr := hg; repeat' (first | refine aw_seq ?_ | (refine aw_skip ?_; try simp only [thenQ, blockQ, if_true, if_false, Nat.reduceEqDiff, reduceCtorEq]) | (refine aw_exit ?_; try simp only [thenQ, blockQ, if_true, if_false, Nat.reduceEqDiff, reduceCtorEq]) | refine aw_ret ?_ | refine aw_block ?_ | refine aw_condT rfl ?_ | refine aw_condF rfl ?_ | (refine aw_cond rfl (fun hg => ?_) (fun hg => ?_) <;> (try (have hq := hg; simp only [Bool.not_eq_true', Bool.not_eq_false', Bool.and_eq_true, Bool.and_eq_false_iff, Bool.or_eq_true, Bool.or_eq_false_iff, decide_eq_true_eq, decide_eq_false_iff_not, bne_iff_ne, beq_iff_eq, beq_eq_false_iff_ne, bne_eq_false_iff_eq, ne_eq, Int.not_lt, Int.not_le, Decidable.not_not] at hq)) <;> (try (have hr := hg; simp only [decide_eq_true_eq, decide_eq_false_iff_not] at hr)) <;> (try (exfalso; omega))) | ((first | refine aw_region ?_ | refine ago_if (by omega) ?_ | skip); simp (config := {maxSteps := 10000000}) (disch := first | exact okYes (by kernel_rfl) | omega) only [thenQ, List.map, dI, dB, List.length, Nat.zero_add, Nat.reduceAdd, Nat.reduceMul, envOf, ARun_none, AOpRun, aexec, D.isBot, FSt.ev, St.F, eget_c, Nat.reduceBEq, ↓eget_h, cond_false, Bool.false_eq_true, Option.isSome, hget_c, hget_n, or_self, ↓reduceIte, D.cells, AGo_ok, St.app, putO, eput_c, eput_n, hups, hput_c, hput_n, ARun_nil, dropE_c, inL_n, dropE_n, Option.map, run1, beq_self_eq_true, cond_true, List.getElem?_cons_succ, List.getElem?_cons_zero, isSh, abin, fits, Nat.reduceLeDiff, List.all, D.leaf, Bool.and_true, and_self, splice, List.take, List.cons_append, List.nil_append, List.drop, inL_c, ↓hget_h, Int.reduceBEq, bne_self_eq_false, ARun_some, AG_ft, blockQ])))
  all_goals (refine end_to [] [(48, 48)] (by first | exact .inl rfl | exact .inr rfl) rfl (by kernel_rfl) (by kernel_rfl) (by kernel_rfl) ?_ ?_ <;> repeat' (first | exact trivial | exact vr_val _ | exact vr_list _ | exact vr_at _ | exact vr_nil | exact vr_cap0 | exact vr_vec _ _ _ _ rfl | exact vr_own _ _ _ _ _ rfl | exact vr_ptr _ _ _ rfl | exact vr_nilv _ _ _ rfl | exact vr_bot _ | exact vr_cap0v _ _ _ rfl | exact vr_cap0l | apply vr_agg | apply vr_tup | apply vr_fn | refine vr_yld _ _ _ rfl ?_ | exact Ren.bot _ | exact Ren.val _ | exact Ren.list _ | exact Ren.at_ _ | exact Ren.ptr _ _ _ rfl | refine Ren.yld _ _ _ _ _ rfl rfl (RenL.get ?_).2 (fun _ _ _ h => h) | refine vr_fl _ _ _ _ _ (by decide) rfl ?_ ?_ ?_ ?_ | refine And.intro ⟨_, rfl, .inl ⟨_, rfl, by decide, ?_⟩⟩ ?_ | refine And.intro ⟨_, rfl, _, rfl, by decide, ?_⟩ ?_ | refine And.intro ⟨_, rfl, .inr ⟨rfl, rfl, of_decide_eq_true (by kernel_rfl)⟩⟩ ?_ | apply And.intro | refine vr_valq ?_ | refine vr_listq ?_ | exact vrl_flat _ (by first | exact icells_in _ | exact rcells_in _ | exact scells_in _ | exact bcells_in _ | assumption)))
set_option maxRecDepth 100000 in
set_option maxHeartbeats 1000000 in
theorem do_z_ac (h : Hst) (wd : Int × Int) (len wt si cy kd n : Int) (t : Bool) (i : Int) (hO : HoOk h) (hc : h.cable ≤ 100) (ho0 : HgOk h ⟨len, wt, si, cy, false⟩ i) (hi : i ≤ 100) (k1 : ¬ kd = 1) (k2 : ¬ kd = 2) (k4 : ¬ kd = 4) (k3 : ¬ kd = 3) (k5 : ¬ kd = 5) (k6 : ¬ kd = 6) (hn : n = 0) :
    AC Try.prog 74 [.ptr 48 0, spD (kd, n)] [(48, wiC h wd ⟨len, wt, si, cy, false⟩ t)] [(48, some (wiC h wd (doK h wd ⟨len, wt, si, cy, false⟩ t (kd, n)) (doT h wd ⟨len, wt, si, cy, false⟩ t (kd, n))))] (dB (doB h wd ⟨len, wt, si, cy, false⟩ t (kd, n))) := by
  subst hn
  have q1 : 0 ≤ len := ho0.l1
  have q2 : len ≤ h.cable := ho0.l2
  have q3 : 0 ≤ wt := ho0.w1
  have q4 : wt ≤ 100000 := ho0.w2
  have q5 : 0 ≤ si := ho0.s1
  have q6 : si ≤ i := ho0.s2
  have q7 : 0 ≤ cy := ho0.c1
  have q8 : cy ≤ i := ho0.c2
  have e : stepS h wd ⟨len, wt, si, cy, false⟩ t (kd, 0) = none := by
    unfold stepS; simp [k1, k2, k3, k4, k5, k6]
  obtain ⟨z1, z2, z3⟩ := do_none e
  rw [z1, z2, z3]
  refine kpsling_winch_do.ac (n0 := 56) (by simp) ⟨.ptr _ _ (by omega), in_agg2 _ _ _, trivial⟩ ⟨⟨by omega, wiC_in _ _ _ _ _⟩, trivial⟩ rfl ?_
  unfold cpsling_winch_do wiC spD
  (have hg : (987654321 : Nat) - 987654321 = 0 := rfl; have hr := hg; repeat' (first | refine aw_seq ?_ | (refine aw_skip ?_; try simp only [thenQ, blockQ, if_true, if_false, Nat.reduceEqDiff, reduceCtorEq]) | (refine aw_exit ?_; try simp only [thenQ, blockQ, if_true, if_false, Nat.reduceEqDiff, reduceCtorEq]) | refine aw_ret ?_ | refine aw_block ?_ | refine aw_condT rfl ?_ | refine aw_condF rfl ?_ | (refine aw_cond rfl (fun hg => ?_) (fun hg => ?_) <;> (try (have hq := hg; simp only [Bool.not_eq_true', Bool.not_eq_false', Bool.and_eq_true, Bool.and_eq_false_iff, Bool.or_eq_true, Bool.or_eq_false_iff, decide_eq_true_eq, decide_eq_false_iff_not, bne_iff_ne, beq_iff_eq, beq_eq_false_iff_ne, bne_eq_false_iff_eq, ne_eq, Int.not_lt, Int.not_le, Decidable.not_not] at hq)) <;> (try (have hr := hg; simp only [decide_eq_true_eq, decide_eq_false_iff_not] at hr)) <;> (try (exfalso; omega))) | (refine ag_bool (fun hg => ?_) (fun hg => ?_) <;> (try (have hq := hg; simp only [Bool.not_eq_true', Bool.not_eq_false', Bool.and_eq_true, Bool.and_eq_false_iff, Bool.or_eq_true, Bool.or_eq_false_iff, decide_eq_true_eq, decide_eq_false_iff_not, bne_iff_ne, beq_iff_eq, beq_eq_false_iff_ne, bne_eq_false_iff_eq, ne_eq, Int.not_lt, Int.not_le, Decidable.not_not] at hq)) <;> (try (have hr := hg; simp only [decide_eq_true_eq, decide_eq_false_iff_not] at hr)) <;> (try (exfalso; omega)) <;> simp (config := {maxSteps := 10000000}) (disch := first | exact okYes (by kernel_rfl) | omega) only [hg, AG_ft, Nat.reduceAdd, St.app, putO, eput_c, Nat.reduceBEq, eput_n, cond_false, hups, ARun_some, eget_c, ↓eget_h, ARun_none, AOpRun, aexec, FSt.ev, St.F, Bool.false_eq_true, ↓reduceIte, AGo_ok, List.map, ARun_nil, dropE_c, inL_c, inL_n, beq_self_eq_true, cond_true, dropE_n]) | ((first | refine aw_region ?_ | refine ago_if (by omega) ?_ | skip); simp (config := {maxSteps := 10000000}) (disch := first | exact okYes (by kernel_rfl) | omega) only [thenQ, List.map, dI, dB, List.length, Nat.zero_add, Nat.reduceAdd, Nat.reduceMul, envOf, ARun_none, AOpRun, aexec, D.isBot, FSt.ev, St.F, eget_c, Nat.reduceBEq, ↓eget_h, cond_false, Bool.false_eq_true, Option.isSome, hget_c, hget_n, or_self, ↓reduceIte, D.cells, AGo_ok, St.app, putO, eput_c, eput_n, hups, hput_c, hput_n, ARun_nil, dropE_c, inL_n, dropE_n, Option.map, run1, beq_self_eq_true, cond_true, List.getElem?_cons_succ, List.getElem?_cons_zero, isSh, abin, fits, Nat.reduceLeDiff, List.all, D.leaf, Bool.and_true, and_self, splice, List.take, List.cons_append, List.nil_append, List.drop, inL_c, ↓hget_h, hg, bne_self_eq_false, ARun_some, blockQ])))
  all_goals (refine end_to [] [(48, 48)] (by first | exact .inl rfl | exact .inr rfl) rfl (by kernel_rfl) (by kernel_rfl) (by kernel_rfl) ?_ ?_ <;> repeat' (first | exact trivial | exact vr_val _ | exact vr_list _ | exact vr_at _ | exact vr_nil | exact vr_cap0 | exact vr_vec _ _ _ _ rfl | exact vr_own _ _ _ _ _ rfl | exact vr_ptr _ _ _ rfl | exact vr_nilv _ _ _ rfl | exact vr_bot _ | exact vr_cap0v _ _ _ rfl | exact vr_cap0l | apply vr_agg | apply vr_tup | apply vr_fn | refine vr_yld _ _ _ rfl ?_ | exact Ren.bot _ | exact Ren.val _ | exact Ren.list _ | exact Ren.at_ _ | exact Ren.ptr _ _ _ rfl | refine Ren.yld _ _ _ _ _ rfl rfl (RenL.get ?_).2 (fun _ _ _ h => h) | refine vr_fl _ _ _ _ _ (by decide) rfl ?_ ?_ ?_ ?_ | refine And.intro ⟨_, rfl, .inl ⟨_, rfl, by decide, ?_⟩⟩ ?_ | refine And.intro ⟨_, rfl, _, rfl, by decide, ?_⟩ ?_ | refine And.intro ⟨_, rfl, .inr ⟨rfl, rfl, of_decide_eq_true (by kernel_rfl)⟩⟩ ?_ | apply And.intro | refine vr_valq ?_ | refine vr_listq ?_ | exact vrl_flat _ (by first | exact icells_in _ | exact rcells_in _ | exact scells_in _ | exact bcells_in _ | assumption)))
theorem do_ac (h : Hst) (wd : Int × Int) (k : Hng) (t : Bool) (x : Int × Int) (i : Int) (hO : HoOk h) (hc : h.cable ≤ 100) (ho0 : HgOk h k i) (hi : i ≤ 100) :
    AC Try.prog 74 [.ptr 48 0, spD x] [(48, wiC h wd k t)] [(48, some (wiC h wd (doK h wd k t x) (doT h wd k t x)))] (dB (doB h wd k t x)) := by
  obtain ⟨len, wt, si, cy, cut⟩ := k
  obtain ⟨kd, n⟩ := x
  cases cut with
  | true => exact do_cut_ac h wd len wt si cy kd n t i hO hc ho0 hi
  | false =>
  by_cases k1 : kd = 1
  · cases c1 : wI n 1 h.cable with
    | false => exact do_o1f_ac h wd len wt si cy kd n t i hO hc ho0 hi k1 c1
    | true =>
      by_cases ho : wI (len + n) 0 h.cable = true ∧ caB h wd (len + n, len + n) wt = true
      · exact do_o1o_ac h wd len wt si cy kd n t i hO hc ho0 hi k1 c1 ho
      · exact do_o1e_ac h wd len wt si cy kd n t i hO hc ho0 hi k1 c1 ho
  by_cases k2 : kd = 2
  · cases c1 : wI n 1 h.cable with
    | false => exact do_o2f_ac h wd len wt si cy kd n t i hO hc ho0 hi k2 c1
    | true =>
      by_cases ho : wI (len + -n) 0 h.cable = true ∧ caB h wd (len + -n, len + -n) wt = true
      · exact do_o2o_ac h wd len wt si cy kd n t i hO hc ho0 hi k2 c1 ho
      · exact do_o2e_ac h wd len wt si cy kd n t i hO hc ho0 hi k2 c1 ho
  by_cases k4 : kd = 4
  · by_cases c1 : 0 < wt
    · exact do_h1_ac h wd len wt si cy kd n t i hO hc ho0 hi k4 c1
    have c1' : wt ≤ 0 := by omega
    by_cases c2 : len = 0
    · exact do_h2_ac h wd len wt si cy kd n t i hO hc ho0 hi k4 c1' c2
    cases c3 : t with
    | false => exact do_h3_ac h wd len wt si cy kd n false i hO hc ho0 hi k4 c1' c2 rfl
    | true =>
    by_cases c4 : h.charge < si + 1
    · exact do_h4_ac h wd len wt si cy kd n true i hO hc ho0 hi k4 c1' c2 rfl c4
    cases c5 : wI n 1 100000 with
    | false => exact do_h5_ac h wd len wt si cy kd n true i hO hc ho0 hi k4 c1' c2 rfl (by omega) c5
    | true =>
    cases c6 : caB h wd (len, len) n with
    | false => exact do_h6_ac h wd len wt si cy kd n true i hO hc ho0 hi k4 c1' c2 rfl (by omega) c5 c6
    | true => exact do_h7_ac h wd len wt si cy kd n true i hO hc ho0 hi k4 c1' c2 rfl (by omega) c5 c6
  by_cases hn : n = 0
  case neg => exact do_n_ac h wd len wt si cy kd n t i hO hc ho0 hi k1 k2 k4 hn
  by_cases k3 : kd = 3
  · by_cases c1 : 0 < len
    · exact do_t1_ac h wd len wt si cy kd n t i hO hc ho0 hi k3 hn c1
    · exact do_t2_ac h wd len wt si cy kd n t i hO hc ho0 hi k3 hn c1
  by_cases k5 : kd = 5
  · by_cases c1 : 0 < wt
    · exact do_u1_ac h wd len wt si cy kd n t i hO hc ho0 hi k5 hn c1
    · exact do_u2_ac h wd len wt si cy kd n t i hO hc ho0 hi k5 hn c1
  by_cases k6 : kd = 6
  · exact do_c_ac h wd len wt si cy kd n t i hO hc ho0 hi k6 hn
  · exact do_z_ac h wd len wt si cy kd n t i hO hc ho0 hi k1 k2 k4 k3 k5 k6 hn
end Go.Proofs.Ythohcimmoobaoaa
