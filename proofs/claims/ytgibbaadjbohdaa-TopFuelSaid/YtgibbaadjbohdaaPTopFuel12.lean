/- Texts of the law TopFuel, part 12. No conditions. -/
import Derived.Test.YtgibbaadjbohdaaPTopFuel11
import Derived.Test.YtgibbaadjbohdaaRows
/- rotor: check, checkLevel, Level, Flow; route: Burn. No conditions. -/
set_option linter.unusedSimpArgs false
set_option linter.unusedVariables false
namespace Go.Proofs.Ytgibbaadjbohdaa
open Go.RowKit Lift

def lvB (r : Rot) (a : Air) (s : Int × Int) : Bool := spVB s && lyB r.c s a.w
def lvE (r : Rot) (a : Air) (s : Int × Int) : Int := if lvB r a s = true then 0 else 1
theorem airL_gd (a : Air) (h : airB a = true) (k : Nat) (hk : k < 4) : spVB ((airL a)[k]?.getD (0, 0)) = true := by
  unfold airB at h
  simp only [Bool.and_eq_true] at h
  rcases (by omega : k = 0 ∨ k = 1 ∨ k = 2 ∨ k = 3) with rfl | rfl | rfl | rfl
  · exact h.1
  · exact h.2.1
  · exact h.2.2.1
  · exact h.2.2.2
theorem sps_gd2 (b : List (Int × Int)) (k : Nat) (h : k < b.length) : (sps b)[k]? = some [dI (b[k]?.getD (0, 0)).1, dI (b[k]?.getD (0, 0)).2] := by simp [sps, h, dI]
set_option maxRecDepth 100000 in
set_option maxHeartbeats 4000000 in
theorem roChk_ac (r : Rot) (a : Air) (s : Int × Int) (hs : RotSm r) (h0 : rotE r = 0) (hb : airB a = true) : AC Try.prog 83 [rotD r, airD a, .list (sps [s]), .fn 114 [] [.ptr 0 0, .ptr 8 0]] [(0, macC r a), (8, [dI s.1, dI s.2])] [(0, some (macC r a)), (8, some [dI s.1, dI s.2])] (dI (lvE r a s)) := by
  refine krotor_check.ac (n0 := 200) (by simp) ⟨in_rotD _ _, in_airD _ _, .list _, .fn _ _ _ (by simp) (by intro d hd; simp at hd; rcases hd with rfl | rfl <;> exact .ptr _ _ (by omega)), trivial⟩ ⟨⟨by omega, wals_in (c := macC r a) rfl⟩, ⟨by omega, wals_in (c := [dI s.1, dI s.2]) rfl⟩, trivial⟩ rfl ?_
  have tc : Tbl r.c.x r.c.y r.c.v := limB_tbl ((rotE_is h0).lim 2 (by omega))
  have c1 := roCheck_ac r hs
  rw [h0] at c1
  have c2 := fun k hk => airL_gd a hb k hk
  have c3 := cfsp_ac 121 (fun x => !spVB x) roCheck1_ac [s] (by simp)
  have c4 := roCl1_ac r a s
  have c5 := roCont3_ac r.c s a.w tc (hs 2 (by omega))
  have al : (sps (airL a)).length = 4 := rfl
  have aa := sps_all (airL a)
  have ag := fun k hk => sps_gd2 (airL a) k hk
  have ha2 : (airL a).length = 4 := rfl
  unfold lvE lvB
  unfold crotor_check
  unfold rotD rotC airD airC macC at *
  refine aw_seq (aw_region ?_)
  simp (config := {maxSteps := 10000000}) (disch := first | exact okYes (by kernel_rfl) | omega) only [ARun_nil, ARun_none, ARun_some, ARun_skip, AOpRun, AGo_f, AGo_ok, AG_tt, AG_ff, AG_tf, AG_ft, AG_un, aexec, run1, asI, elems, base, opt1, fillD, splice, abin, ash, isSh, foldI, mn2, mx2, ↓eget_h, eget_c, eget_n, eput_c, eput_n, putO, ↓hget_h, hget_c, hget_n, hput_c, hput_n, hdel_c, hdel_n, hups, cond_true, cond_false,  ups, St.F, St.app, FSt.ev, dropE_c, dropE_n, inL_c, inL_n, envOf, thenQ, blockQ, D.isBot, D.isAgg, D.cells, D.leaf, scalarEq, eqCells, isB, Option.map, List.map, List.length, List.all, List.append, List.take, List.drop, List.cons_append, List.nil_append, List.append_nil, Option.isSome, List.getElem?_cons_zero, List.getElem?_cons_succ, if_true, if_false, true_and, and_true, Bool.not_true, Bool.not_false, Bool.true_or, Bool.false_or, Bool.or_true, Bool.or_false, Bool.false_eq_true, ↓reduceIte, Nat.reduceAdd, Nat.reduceMul, Nat.reduceEqDiff, Nat.reduceBEq, Nat.reduceSub, Nat.zero_add, Nat.reduceLeDiff, Nat.reduceGT, Nat.reduceLT, Nat.reduceBNe, okLog_f, reduceCtorEq, or_self, or_false, false_or, or_true, true_or, and_self, and_false, false_and, not_true_eq_false, not_false_eq_true, ne_eq, Bool.and_true, Bool.true_and, Bool.and_false, Bool.false_and, decide_eq_true_eq, decide_true, decide_false, Int.reduceBEq, Int.reduceBNe, Int.reduceLT, Int.reduceLE, Int.reduceAdd, Int.reduceSub, Int.reduceMul, Int.reduceNeg, Int.reduceEq, Int.toNat_zero, Int.reduceToNat, Int.zero_lt_one, Nat.zero_le, Int.le_refl, beq_self_eq_true, bne_self_eq_false, cast_lit, fits, wrap_in, Int.toNat_natCast, Int.natCast_nonneg, dI, dB]
  (have hg : (987654321 : Nat) - 987654321 = 0 := rfl; have hr := hg; repeat' (first | refine aw_seq ?_ | (refine aw_skip ?_; with_reducible repeat' (first | refine thenQ_n ?_ | refine blockQ_n ?_ | refine thenQ_e ?_ | refine blockQ_t ?_ | refine blockQ_f (by decide) ?_)) | (refine aw_exit ?_; with_reducible repeat' (first | refine thenQ_n ?_ | refine blockQ_n ?_ | refine thenQ_e ?_ | refine blockQ_t ?_ | refine blockQ_f (by decide) ?_)) | refine aw_ret ?_ | refine aw_block ?_ | refine aw_condT rfl ?_ | refine aw_condF rfl ?_ | (refine aw_cond rfl (fun hg => ?_) (fun hg => ?_) <;> (try (have hq := hg; simp only [Bool.not_eq_true', Bool.not_eq_false', Bool.and_eq_true, Bool.and_eq_false_iff, Bool.or_eq_true, Bool.or_eq_false_iff, decide_eq_true_eq, decide_eq_false_iff_not, bne_iff_ne, beq_iff_eq, beq_eq_false_iff_ne, bne_eq_false_iff_eq, ne_eq, Int.not_lt, Int.not_le, Decidable.not_not] at hq)) <;> (try (have hr := hg; simp only [decide_eq_true_eq, decide_eq_false_iff_not] at hr)) <;> (try (exfalso; omega))) | (refine ag_bool (fun hg => ?_) (fun hg => ?_) <;> (try (have hq := hg; simp only [Bool.not_eq_true', Bool.not_eq_false', Bool.and_eq_true, Bool.and_eq_false_iff, Bool.or_eq_true, Bool.or_eq_false_iff, decide_eq_true_eq, decide_eq_false_iff_not, bne_iff_ne, beq_iff_eq, beq_eq_false_iff_ne, bne_eq_false_iff_eq, ne_eq, Int.not_lt, Int.not_le, Decidable.not_not] at hq)) <;> (try (have hr := hg; simp only [decide_eq_true_eq, decide_eq_false_iff_not] at hr)) <;> (try (exfalso; omega)) <;> simp (config := {maxSteps := 10000000}) (disch := first | exact okYes (by kernel_rfl) | omega) only [ARun_nil, ARun_none, ARun_some, ARun_skip, AOpRun, AGo_f, AGo_ok, AG_tt, AG_ff, AG_tf, AG_ft, AG_un, aexec, run1, asI, elems, base, opt1, fillD, splice, abin, ash, isSh, foldI, mn2, mx2, ↓eget_h, eget_c, eget_n, eput_c, eput_n, putO, ↓hget_h, hget_c, hget_n, hput_c, hput_n, hdel_c, hdel_n, hups, cond_true, cond_false,  ups, St.F, St.app, FSt.ev, dropE_c, dropE_n, inL_c, inL_n, envOf, thenQ, blockQ, D.isBot, D.isAgg, D.cells, D.leaf, scalarEq, eqCells, isB, Option.map, List.map, List.length, List.all, List.append, List.take, List.drop, List.cons_append, List.nil_append, List.append_nil, Option.isSome, List.getElem?_cons_zero, List.getElem?_cons_succ, if_true, if_false, true_and, and_true, Bool.not_true, Bool.not_false, Bool.true_or, Bool.false_or, Bool.or_true, Bool.or_false, Bool.false_eq_true, ↓reduceIte, Nat.reduceAdd, Nat.reduceMul, Nat.reduceEqDiff, Nat.reduceBEq, Nat.reduceSub, Nat.zero_add, Nat.reduceLeDiff, Nat.reduceGT, Nat.reduceLT, Nat.reduceBNe, okLog_f, reduceCtorEq, or_self, or_false, false_or, or_true, true_or, and_self, and_false, false_and, not_true_eq_false, not_false_eq_true, ne_eq, Bool.and_true, Bool.true_and, Bool.and_false, Bool.false_and, decide_eq_true_eq, decide_true, decide_false, Int.reduceBEq, Int.reduceBNe, Int.reduceLT, Int.reduceLE, Int.reduceAdd, Int.reduceSub, Int.reduceMul, Int.reduceNeg, Int.reduceEq, Int.toNat_zero, Int.reduceToNat, Int.zero_lt_one, Nat.zero_le, Int.le_refl, beq_self_eq_true, bne_self_eq_false, cast_lit, fits, wrap_in, Int.toNat_natCast, Int.natCast_nonneg, dI, dB, hg, hr]) | ((first | refine aw_hide fun K hK => aw_region ?_ | refine acall0 (c1) ?_ | refine ago_if (by omega) ?_ | skip); simp (config := {maxSteps := 10000000}) (disch := first | exact okYes (by kernel_rfl) | omega) only [ARun_nil, ARun_none, ARun_some, ARun_skip, AOpRun, AGo_f, AGo_ok, AG_tt, AG_ff, AG_tf, AG_ft, AG_un, aexec, run1, asI, elems, base, opt1, fillD, splice, abin, ash, isSh, foldI, mn2, mx2, ↓eget_h, eget_c, eget_n, eput_c, eput_n, putO, ↓hget_h, hget_c, hget_n, hput_c, hput_n, hdel_c, hdel_n, hups, cond_true, cond_false,  ups, St.F, St.app, FSt.ev, dropE_c, dropE_n, inL_c, inL_n, envOf, thenQ, blockQ, D.isBot, D.isAgg, D.cells, D.leaf, scalarEq, eqCells, isB, Option.map, List.map, List.length, List.all, List.append, List.take, List.drop, List.cons_append, List.nil_append, List.append_nil, Option.isSome, List.getElem?_cons_zero, List.getElem?_cons_succ, if_true, if_false, true_and, and_true, Bool.not_true, Bool.not_false, Bool.true_or, Bool.false_or, Bool.or_true, Bool.or_false, Bool.false_eq_true, ↓reduceIte, Nat.reduceAdd, Nat.reduceMul, Nat.reduceEqDiff, Nat.reduceBEq, Nat.reduceSub, Nat.zero_add, Nat.reduceLeDiff, Nat.reduceGT, Nat.reduceLT, Nat.reduceBNe, okLog_f, reduceCtorEq, or_self, or_false, false_or, or_true, true_or, and_self, and_false, false_and, not_true_eq_false, not_false_eq_true, ne_eq, Bool.and_true, Bool.true_and, Bool.and_false, Bool.false_and, decide_eq_true_eq, decide_true, decide_false, Int.reduceBEq, Int.reduceBNe, Int.reduceLT, Int.reduceLE, Int.reduceAdd, Int.reduceSub, Int.reduceMul, Int.reduceNeg, Int.reduceEq, Int.toNat_zero, Int.reduceToNat, Int.zero_lt_one, Nat.zero_le, Int.le_refl, beq_self_eq_true, bne_self_eq_false, cast_lit, fits, wrap_in, Int.toNat_natCast, Int.natCast_nonneg, dI, dB, hg, hr]) | (subst hK; with_reducible repeat' (first | refine thenQ_n ?_ | refine blockQ_n ?_ | refine thenQ_e ?_ | refine blockQ_t ?_ | refine blockQ_f (by decide) ?_))))
  clear c1
  refine aw_wk (s' := ⟨[(2, .list (sps [s])), (3, .fn 114 [] [.ptr 0 0, .ptr 8 0]), (25, .list (sps (airL a))), (26, dI (4 : Nat)), (27, dI (0 : Nat))], [(0, macC r a), (8, [dI s.1, dI s.2])], 600⟩) ?_ ?_
  · unfold dI macC
    refine wk_to [328] [(0, 0), (8, 8)] (by kernel_rfl) (by kernel_rfl) (by kernel_rfl) (by kernel_rfl) (by kernel_rfl) ?_ ?_ <;> repeat' (first | exact trivial | exact vr_val _ | exact vr_list _ | exact vr_at _ | exact vr_nil | exact vr_cap0 | exact vr_vec _ _ _ _ rfl | exact vr_own _ _ _ _ _ rfl | exact vr_ptr _ _ _ rfl | exact vr_nilv _ _ _ rfl | exact vr_bot _ | exact vr_cap0v _ _ _ rfl | exact vr_cap0l | apply vr_agg | apply vr_tup | apply vr_fn | refine vr_yld _ _ _ rfl ?_ | exact Ren.bot _ | exact Ren.val _ | exact Ren.list _ | exact Ren.at_ _ | exact Ren.ptr _ _ _ rfl | refine Ren.yld _ _ _ _ _ rfl rfl (RenL.get ?_).2 (fun _ _ _ h => h) | refine vr_fl _ _ _ _ _ (by decide) rfl ?_ ?_ ?_ ?_ | refine And.intro ⟨_, rfl, .inl ⟨_, rfl, by decide, ?_⟩⟩ ?_ | refine And.intro ⟨_, rfl, _, rfl, by decide, ?_⟩ ?_ | refine And.intro ⟨_, rfl, .inr ⟨rfl, rfl, of_decide_eq_true (by kernel_rfl)⟩⟩ ?_ | apply And.intro | exact vrl_flat _ (by first | exact icells_in _ | exact rcells_in _ | exact scells_in _ | exact bcells_in _ | assumption))
    all_goals first | exact sps_two _ | rfl | (refine wals_in ?_; rfl)
  refine aw_loop (fun k : Nat => ⟨[(2, .list (sps [s])), (3, .fn 114 [] [.ptr 0 0, .ptr 8 0]), (25, .list (sps (airL a))), (26, dI (4 : Nat)), (27, dI k)], [(0, macC r a), (8, [dI s.1, dI s.2])], 600⟩) (fun k => k ≤ 4) (fun k => 4 - k) ⟨0, by omega, ?_⟩ ?_
  · unfold dI macC
    refine wk_to [] [(0, 0), (8, 8)] (by kernel_rfl) (by kernel_rfl) (by kernel_rfl) (by kernel_rfl) (by kernel_rfl) ?_ ?_ <;> repeat' (first | exact trivial | exact vr_val _ | exact vr_list _ | exact vr_at _ | exact vr_nil | exact vr_cap0 | exact vr_vec _ _ _ _ rfl | exact vr_own _ _ _ _ _ rfl | exact vr_ptr _ _ _ rfl | exact vr_nilv _ _ _ rfl | exact vr_bot _ | exact vr_cap0v _ _ _ rfl | exact vr_cap0l | apply vr_agg | apply vr_tup | apply vr_fn | refine vr_yld _ _ _ rfl ?_ | exact Ren.bot _ | exact Ren.val _ | exact Ren.list _ | exact Ren.at_ _ | exact Ren.ptr _ _ _ rfl | refine Ren.yld _ _ _ _ _ rfl rfl (RenL.get ?_).2 (fun _ _ _ h => h) | refine vr_fl _ _ _ _ _ (by decide) rfl ?_ ?_ ?_ ?_ | refine And.intro ⟨_, rfl, .inl ⟨_, rfl, by decide, ?_⟩⟩ ?_ | refine And.intro ⟨_, rfl, _, rfl, by decide, ?_⟩ ?_ | refine And.intro ⟨_, rfl, .inr ⟨rfl, rfl, of_decide_eq_true (by kernel_rfl)⟩⟩ ?_ | apply And.intro | exact vrl_flat _ (by first | exact icells_in _ | exact rcells_in _ | exact scells_in _ | exact bcells_in _ | assumption))
  intro k hk
  unfold macC
  by_cases hk2 : k < 4
  case pos =>
    have g1 := ag k (by omega)
    have v1 := roValid_ac ((airL a)[k]?.getD (0, 0))
    rw [c2 k hk2] at v1
    have ki : (k : Int) < ((4 : Nat) : Int) := by omega
    have ki4 : (k : Int) < 4 := by omega
    clear c2 c3 c4 c5 ag tc
    generalize (airL a)[k]?.getD (0, 0) = z at *
    generalize airL a = L at *
    (have hg : (987654321 : Nat) - 987654321 = 0 := rfl; have hr := hg; repeat' (first | refine aw_seq ?_ | (refine aw_skip ?_; with_reducible repeat' (first | refine thenQ_n ?_ | refine blockQ_n ?_ | refine thenQ_e ?_ | refine blockQ_t ?_ | refine blockQ_f (by decide) ?_)) | (refine aw_exit ?_; with_reducible repeat' (first | refine thenQ_n ?_ | refine blockQ_n ?_ | refine thenQ_e ?_ | refine blockQ_t ?_ | refine blockQ_f (by decide) ?_)) | refine aw_ret ?_ | refine aw_block ?_ | refine aw_condT rfl ?_ | refine aw_condF rfl ?_ | (refine aw_cond rfl (fun hg => ?_) (fun hg => ?_) <;> (try (have hq := hg; simp only [Bool.not_eq_true', Bool.not_eq_false', Bool.and_eq_true, Bool.and_eq_false_iff, Bool.or_eq_true, Bool.or_eq_false_iff, decide_eq_true_eq, decide_eq_false_iff_not, bne_iff_ne, beq_iff_eq, beq_eq_false_iff_ne, bne_eq_false_iff_eq, ne_eq, Int.not_lt, Int.not_le, Decidable.not_not] at hq)) <;> (try (have hr := hg; simp only [decide_eq_true_eq, decide_eq_false_iff_not] at hr)) <;> (try (exfalso; omega))) | (refine ag_bool (fun hg => ?_) (fun hg => ?_) <;> (try (have hq := hg; simp only [Bool.not_eq_true', Bool.not_eq_false', Bool.and_eq_true, Bool.and_eq_false_iff, Bool.or_eq_true, Bool.or_eq_false_iff, decide_eq_true_eq, decide_eq_false_iff_not, bne_iff_ne, beq_iff_eq, beq_eq_false_iff_ne, bne_eq_false_iff_eq, ne_eq, Int.not_lt, Int.not_le, Decidable.not_not] at hq)) <;> (try (have hr := hg; simp only [decide_eq_true_eq, decide_eq_false_iff_not] at hr)) <;> (try (exfalso; omega)) <;> simp (config := {maxSteps := 10000000}) (disch := first | exact okYes (by kernel_rfl) | omega) only [ARun_nil, ARun_none, ARun_some, ARun_skip, AOpRun, AGo_f, AGo_ok, AG_tt, AG_ff, AG_tf, AG_ft, AG_un, aexec, run1, asI, elems, base, opt1, fillD, splice, abin, ash, isSh, foldI, mn2, mx2, ↓eget_h, eget_c, eget_n, eput_c, eput_n, putO, ↓hget_h, hget_c, hget_n, hput_c, hput_n, hdel_c, hdel_n, hups, cond_true, cond_false,  ups, St.F, St.app, FSt.ev, dropE_c, dropE_n, inL_c, inL_n, envOf, thenQ, blockQ, D.isBot, D.isAgg, D.cells, D.leaf, scalarEq, eqCells, isB, Option.map, List.map, List.length, List.all, List.append, List.take, List.drop, List.cons_append, List.nil_append, List.append_nil, Option.isSome, List.getElem?_cons_zero, List.getElem?_cons_succ, if_true, if_false, true_and, and_true, Bool.not_true, Bool.not_false, Bool.true_or, Bool.false_or, Bool.or_true, Bool.or_false, Bool.false_eq_true, ↓reduceIte, Nat.reduceAdd, Nat.reduceMul, Nat.reduceEqDiff, Nat.reduceBEq, Nat.reduceSub, Nat.zero_add, Nat.reduceLeDiff, Nat.reduceGT, Nat.reduceLT, Nat.reduceBNe, okLog_f, reduceCtorEq, or_self, or_false, false_or, or_true, true_or, and_self, and_false, false_and, not_true_eq_false, not_false_eq_true, ne_eq, Bool.and_true, Bool.true_and, Bool.and_false, Bool.false_and, decide_eq_true_eq, decide_true, decide_false, Int.reduceBEq, Int.reduceBNe, Int.reduceLT, Int.reduceLE, Int.reduceAdd, Int.reduceSub, Int.reduceMul, Int.reduceNeg, Int.reduceEq, Int.toNat_zero, Int.reduceToNat, Int.zero_lt_one, Nat.zero_le, Int.le_refl, beq_self_eq_true, bne_self_eq_false, cast_lit, fits, wrap_in, Int.toNat_natCast, Int.natCast_nonneg, dI, dB, al, aa, g1, ki, ki4, hg, hr]) | ((first | refine aw_hide fun K hK => aw_region ?_ | refine acall0 (v1) ?_ | refine ago_if (by omega) ?_ | skip); simp (config := {maxSteps := 10000000}) (disch := first | exact okYes (by kernel_rfl) | omega) only [ARun_nil, ARun_none, ARun_some, ARun_skip, AOpRun, AGo_f, AGo_ok, AG_tt, AG_ff, AG_tf, AG_ft, AG_un, aexec, run1, asI, elems, base, opt1, fillD, splice, abin, ash, isSh, foldI, mn2, mx2, ↓eget_h, eget_c, eget_n, eput_c, eput_n, putO, ↓hget_h, hget_c, hget_n, hput_c, hput_n, hdel_c, hdel_n, hups, cond_true, cond_false,  ups, St.F, St.app, FSt.ev, dropE_c, dropE_n, inL_c, inL_n, envOf, thenQ, blockQ, D.isBot, D.isAgg, D.cells, D.leaf, scalarEq, eqCells, isB, Option.map, List.map, List.length, List.all, List.append, List.take, List.drop, List.cons_append, List.nil_append, List.append_nil, Option.isSome, List.getElem?_cons_zero, List.getElem?_cons_succ, if_true, if_false, true_and, and_true, Bool.not_true, Bool.not_false, Bool.true_or, Bool.false_or, Bool.or_true, Bool.or_false, Bool.false_eq_true, ↓reduceIte, Nat.reduceAdd, Nat.reduceMul, Nat.reduceEqDiff, Nat.reduceBEq, Nat.reduceSub, Nat.zero_add, Nat.reduceLeDiff, Nat.reduceGT, Nat.reduceLT, Nat.reduceBNe, okLog_f, reduceCtorEq, or_self, or_false, false_or, or_true, true_or, and_self, and_false, false_and, not_true_eq_false, not_false_eq_true, ne_eq, Bool.and_true, Bool.true_and, Bool.and_false, Bool.false_and, decide_eq_true_eq, decide_true, decide_false, Int.reduceBEq, Int.reduceBNe, Int.reduceLT, Int.reduceLE, Int.reduceAdd, Int.reduceSub, Int.reduceMul, Int.reduceNeg, Int.reduceEq, Int.toNat_zero, Int.reduceToNat, Int.zero_lt_one, Nat.zero_le, Int.le_refl, beq_self_eq_true, bne_self_eq_false, cast_lit, fits, wrap_in, Int.toNat_natCast, Int.natCast_nonneg, dI, dB, al, aa, g1, ki, ki4, hg, hr]) | (subst hK; with_reducible repeat' (first | refine thenQ_n ?_ | refine blockQ_n ?_ | refine thenQ_e ?_ | refine blockQ_t ?_ | refine blockQ_f (by decide) ?_))))
    refine ⟨k + 1, by omega, by omega, ?_⟩
    try unfold macC
    refine wk_to [] [(0, 0), (8, 8)] (by kernel_rfl) (by kernel_rfl) (by kernel_rfl) (by kernel_rfl) (by kernel_rfl) ?_ ?_ <;> repeat' (first | exact trivial | exact vr_val _ | exact vr_list _ | exact vr_at _ | exact vr_nil | exact vr_cap0 | exact vr_vec _ _ _ _ rfl | exact vr_own _ _ _ _ _ rfl | exact vr_ptr _ _ _ rfl | exact vr_nilv _ _ _ rfl | exact vr_bot _ | exact vr_cap0v _ _ _ rfl | exact vr_cap0l | apply vr_agg | apply vr_tup | apply vr_fn | refine vr_yld _ _ _ rfl ?_ | exact Ren.bot _ | exact Ren.val _ | exact Ren.list _ | exact Ren.at_ _ | exact Ren.ptr _ _ _ rfl | refine Ren.yld _ _ _ _ _ rfl rfl (RenL.get ?_).2 (fun _ _ _ h => h) | refine vr_fl _ _ _ _ _ (by decide) rfl ?_ ?_ ?_ ?_ | refine And.intro ⟨_, rfl, .inl ⟨_, rfl, by decide, ?_⟩⟩ ?_ | refine And.intro ⟨_, rfl, _, rfl, by decide, ?_⟩ ?_ | refine And.intro ⟨_, rfl, .inr ⟨rfl, rfl, of_decide_eq_true (by kernel_rfl)⟩⟩ ?_ | apply And.intro | exact vrl_flat _ (by first | exact icells_in _ | exact rcells_in _ | exact scells_in _ | exact bcells_in _ | assumption))
  obtain rfl : k = 4 := by omega
  clear c2 ag al aa ha2
  have q3 : ([s].any fun x => !spVB x) = !spVB s := by simp
  rw [q3] at c3
  cases h1 : spVB s with
  | false =>
    rw [h1] at c3
    (have hg : (987654321 : Nat) - 987654321 = 0 := rfl; have hr := hg; repeat' (first | refine aw_seq ?_ | (refine aw_skip ?_; with_reducible repeat' (first | refine thenQ_n ?_ | refine blockQ_n ?_ | refine thenQ_e ?_ | refine blockQ_t ?_ | refine blockQ_f (by decide) ?_)) | (refine aw_exit ?_; with_reducible repeat' (first | refine thenQ_n ?_ | refine blockQ_n ?_ | refine thenQ_e ?_ | refine blockQ_t ?_ | refine blockQ_f (by decide) ?_)) | refine aw_ret ?_ | refine aw_block ?_ | refine aw_condT rfl ?_ | refine aw_condF rfl ?_ | (refine aw_cond rfl (fun hg => ?_) (fun hg => ?_) <;> (try (have hq := hg; simp only [Bool.not_eq_true', Bool.not_eq_false', Bool.and_eq_true, Bool.and_eq_false_iff, Bool.or_eq_true, Bool.or_eq_false_iff, decide_eq_true_eq, decide_eq_false_iff_not, bne_iff_ne, beq_iff_eq, beq_eq_false_iff_ne, bne_eq_false_iff_eq, ne_eq, Int.not_lt, Int.not_le, Decidable.not_not] at hq)) <;> (try (have hr := hg; simp only [decide_eq_true_eq, decide_eq_false_iff_not] at hr)) <;> (try (exfalso; omega))) | (refine ag_bool (fun hg => ?_) (fun hg => ?_) <;> (try (have hq := hg; simp only [Bool.not_eq_true', Bool.not_eq_false', Bool.and_eq_true, Bool.and_eq_false_iff, Bool.or_eq_true, Bool.or_eq_false_iff, decide_eq_true_eq, decide_eq_false_iff_not, bne_iff_ne, beq_iff_eq, beq_eq_false_iff_ne, bne_eq_false_iff_eq, ne_eq, Int.not_lt, Int.not_le, Decidable.not_not] at hq)) <;> (try (have hr := hg; simp only [decide_eq_true_eq, decide_eq_false_iff_not] at hr)) <;> (try (exfalso; omega)) <;> simp (config := {maxSteps := 10000000}) (disch := first | exact okYes (by kernel_rfl) | omega) only [ARun_nil, ARun_none, ARun_some, ARun_skip, AOpRun, AGo_f, AGo_ok, AG_tt, AG_ff, AG_tf, AG_ft, AG_un, aexec, run1, asI, elems, base, opt1, fillD, splice, abin, ash, isSh, foldI, mn2, mx2, ↓eget_h, eget_c, eget_n, eput_c, eput_n, putO, ↓hget_h, hget_c, hget_n, hput_c, hput_n, hdel_c, hdel_n, hups, cond_true, cond_false,  ups, St.F, St.app, FSt.ev, dropE_c, dropE_n, inL_c, inL_n, envOf, thenQ, blockQ, D.isBot, D.isAgg, D.cells, D.leaf, scalarEq, eqCells, isB, Option.map, List.map, List.length, List.all, List.append, List.take, List.drop, List.cons_append, List.nil_append, List.append_nil, Option.isSome, List.getElem?_cons_zero, List.getElem?_cons_succ, if_true, if_false, true_and, and_true, Bool.not_true, Bool.not_false, Bool.true_or, Bool.false_or, Bool.or_true, Bool.or_false, Bool.false_eq_true, ↓reduceIte, Nat.reduceAdd, Nat.reduceMul, Nat.reduceEqDiff, Nat.reduceBEq, Nat.reduceSub, Nat.zero_add, Nat.reduceLeDiff, Nat.reduceGT, Nat.reduceLT, Nat.reduceBNe, okLog_f, reduceCtorEq, or_self, or_false, false_or, or_true, true_or, and_self, and_false, false_and, not_true_eq_false, not_false_eq_true, ne_eq, Bool.and_true, Bool.true_and, Bool.and_false, Bool.false_and, decide_eq_true_eq, decide_true, decide_false, Int.reduceBEq, Int.reduceBNe, Int.reduceLT, Int.reduceLE, Int.reduceAdd, Int.reduceSub, Int.reduceMul, Int.reduceNeg, Int.reduceEq, Int.toNat_zero, Int.reduceToNat, Int.zero_lt_one, Nat.zero_le, Int.le_refl, beq_self_eq_true, bne_self_eq_false, cast_lit, fits, wrap_in, Int.toNat_natCast, Int.natCast_nonneg, dI, dB, hg, hr]) | ((first | refine aw_hide fun K hK => aw_region ?_ | refine acall0 (c3) ?_ | refine ago_if (by omega) ?_ | skip); simp (config := {maxSteps := 10000000}) (disch := first | exact okYes (by kernel_rfl) | omega) only [ARun_nil, ARun_none, ARun_some, ARun_skip, AOpRun, AGo_f, AGo_ok, AG_tt, AG_ff, AG_tf, AG_ft, AG_un, aexec, run1, asI, elems, base, opt1, fillD, splice, abin, ash, isSh, foldI, mn2, mx2, ↓eget_h, eget_c, eget_n, eput_c, eput_n, putO, ↓hget_h, hget_c, hget_n, hput_c, hput_n, hdel_c, hdel_n, hups, cond_true, cond_false,  ups, St.F, St.app, FSt.ev, dropE_c, dropE_n, inL_c, inL_n, envOf, thenQ, blockQ, D.isBot, D.isAgg, D.cells, D.leaf, scalarEq, eqCells, isB, Option.map, List.map, List.length, List.all, List.append, List.take, List.drop, List.cons_append, List.nil_append, List.append_nil, Option.isSome, List.getElem?_cons_zero, List.getElem?_cons_succ, if_true, if_false, true_and, and_true, Bool.not_true, Bool.not_false, Bool.true_or, Bool.false_or, Bool.or_true, Bool.or_false, Bool.false_eq_true, ↓reduceIte, Nat.reduceAdd, Nat.reduceMul, Nat.reduceEqDiff, Nat.reduceBEq, Nat.reduceSub, Nat.zero_add, Nat.reduceLeDiff, Nat.reduceGT, Nat.reduceLT, Nat.reduceBNe, okLog_f, reduceCtorEq, or_self, or_false, false_or, or_true, true_or, and_self, and_false, false_and, not_true_eq_false, not_false_eq_true, ne_eq, Bool.and_true, Bool.true_and, Bool.and_false, Bool.false_and, decide_eq_true_eq, decide_true, decide_false, Int.reduceBEq, Int.reduceBNe, Int.reduceLT, Int.reduceLE, Int.reduceAdd, Int.reduceSub, Int.reduceMul, Int.reduceNeg, Int.reduceEq, Int.toNat_zero, Int.reduceToNat, Int.zero_lt_one, Nat.zero_le, Int.le_refl, beq_self_eq_true, bne_self_eq_false, cast_lit, fits, wrap_in, Int.toNat_natCast, Int.natCast_nonneg, dI, dB, hg, hr]) | (subst hK; with_reducible repeat' (first | refine thenQ_n ?_ | refine blockQ_n ?_ | refine thenQ_e ?_ | refine blockQ_t ?_ | refine blockQ_f (by decide) ?_))))
    all_goals (refine end_to [] [(0, 0), (8, 8)] (by first | exact .inl rfl | exact .inr rfl) rfl (by kernel_rfl) (by kernel_rfl) (by kernel_rfl) ?_ ?_ <;> repeat' (first | exact trivial | exact vr_val _ | exact vr_list _ | exact vr_at _ | exact vr_nil | exact vr_cap0 | exact vr_vec _ _ _ _ rfl | exact vr_own _ _ _ _ _ rfl | exact vr_ptr _ _ _ rfl | exact vr_nilv _ _ _ rfl | exact vr_bot _ | exact vr_cap0v _ _ _ rfl | exact vr_cap0l | apply vr_agg | apply vr_tup | apply vr_fn | refine vr_yld _ _ _ rfl ?_ | exact Ren.bot _ | exact Ren.val _ | exact Ren.list _ | exact Ren.at_ _ | exact Ren.ptr _ _ _ rfl | refine Ren.yld _ _ _ _ _ rfl rfl (RenL.get ?_).2 (fun _ _ _ h => h) | refine vr_fl _ _ _ _ _ (by decide) rfl ?_ ?_ ?_ ?_ | refine And.intro ⟨_, rfl, .inl ⟨_, rfl, by decide, ?_⟩⟩ ?_ | refine And.intro ⟨_, rfl, _, rfl, by decide, ?_⟩ ?_ | refine And.intro ⟨_, rfl, .inr ⟨rfl, rfl, of_decide_eq_true (by kernel_rfl)⟩⟩ ?_ | apply And.intro | refine vr_valq ?_ | refine vr_listq ?_ | exact vrl_flat _ (by first | exact icells_in _ | exact rcells_in _ | exact scells_in _ | exact bcells_in _ | assumption)))
  | true =>
    rw [h1] at c3
    cases h2 : lyB r.c s a.w
    all_goals
      rw [h2] at c5
      (have hg : (987654321 : Nat) - 987654321 = 0 := rfl; have hr := hg; repeat' (first | refine aw_seq ?_ | (refine aw_skip ?_; with_reducible repeat' (first | refine thenQ_n ?_ | refine blockQ_n ?_ | refine thenQ_e ?_ | refine blockQ_t ?_ | refine blockQ_f (by decide) ?_)) | (refine aw_exit ?_; with_reducible repeat' (first | refine thenQ_n ?_ | refine blockQ_n ?_ | refine thenQ_e ?_ | refine blockQ_t ?_ | refine blockQ_f (by decide) ?_)) | refine aw_ret ?_ | refine aw_block ?_ | refine aw_condT rfl ?_ | refine aw_condF rfl ?_ | (refine aw_cond rfl (fun hg => ?_) (fun hg => ?_) <;> (try (have hq := hg; simp only [Bool.not_eq_true', Bool.not_eq_false', Bool.and_eq_true, Bool.and_eq_false_iff, Bool.or_eq_true, Bool.or_eq_false_iff, decide_eq_true_eq, decide_eq_false_iff_not, bne_iff_ne, beq_iff_eq, beq_eq_false_iff_ne, bne_eq_false_iff_eq, ne_eq, Int.not_lt, Int.not_le, Decidable.not_not] at hq)) <;> (try (have hr := hg; simp only [decide_eq_true_eq, decide_eq_false_iff_not] at hr)) <;> (try (exfalso; omega))) | (refine ag_bool (fun hg => ?_) (fun hg => ?_) <;> (try (have hq := hg; simp only [Bool.not_eq_true', Bool.not_eq_false', Bool.and_eq_true, Bool.and_eq_false_iff, Bool.or_eq_true, Bool.or_eq_false_iff, decide_eq_true_eq, decide_eq_false_iff_not, bne_iff_ne, beq_iff_eq, beq_eq_false_iff_ne, bne_eq_false_iff_eq, ne_eq, Int.not_lt, Int.not_le, Decidable.not_not] at hq)) <;> (try (have hr := hg; simp only [decide_eq_true_eq, decide_eq_false_iff_not] at hr)) <;> (try (exfalso; omega)) <;> simp (config := {maxSteps := 10000000}) (disch := first | exact okYes (by kernel_rfl) | omega) only [ARun_nil, ARun_none, ARun_some, ARun_skip, AOpRun, AGo_f, AGo_ok, AG_tt, AG_ff, AG_tf, AG_ft, AG_un, aexec, run1, asI, elems, base, opt1, fillD, splice, abin, ash, isSh, foldI, mn2, mx2, ↓eget_h, eget_c, eget_n, eput_c, eput_n, putO, ↓hget_h, hget_c, hget_n, hput_c, hput_n, hdel_c, hdel_n, hups, cond_true, cond_false,  ups, St.F, St.app, FSt.ev, dropE_c, dropE_n, inL_c, inL_n, envOf, thenQ, blockQ, D.isBot, D.isAgg, D.cells, D.leaf, scalarEq, eqCells, isB, Option.map, List.map, List.length, List.all, List.append, List.take, List.drop, List.cons_append, List.nil_append, List.append_nil, Option.isSome, List.getElem?_cons_zero, List.getElem?_cons_succ, if_true, if_false, true_and, and_true, Bool.not_true, Bool.not_false, Bool.true_or, Bool.false_or, Bool.or_true, Bool.or_false, Bool.false_eq_true, ↓reduceIte, Nat.reduceAdd, Nat.reduceMul, Nat.reduceEqDiff, Nat.reduceBEq, Nat.reduceSub, Nat.zero_add, Nat.reduceLeDiff, Nat.reduceGT, Nat.reduceLT, Nat.reduceBNe, okLog_f, reduceCtorEq, or_self, or_false, false_or, or_true, true_or, and_self, and_false, false_and, not_true_eq_false, not_false_eq_true, ne_eq, Bool.and_true, Bool.true_and, Bool.and_false, Bool.false_and, decide_eq_true_eq, decide_true, decide_false, Int.reduceBEq, Int.reduceBNe, Int.reduceLT, Int.reduceLE, Int.reduceAdd, Int.reduceSub, Int.reduceMul, Int.reduceNeg, Int.reduceEq, Int.toNat_zero, Int.reduceToNat, Int.zero_lt_one, Nat.zero_le, Int.le_refl, beq_self_eq_true, bne_self_eq_false, cast_lit, fits, wrap_in, Int.toNat_natCast, Int.natCast_nonneg, dI, dB, hg, hr]) | ((first | refine aw_hide fun K hK => aw_region ?_ | refine acall0 (c3) ?_ | refine acallB (c4) (by repeat' (first | exact trivial | exact rfl | refine And.intro ?_ ?_)) (by kernel_rfl) (by kernel_rfl) (by kernel_rfl) ?_ | refine acall0 (c5) ?_ | refine ago_if (by omega) ?_ | skip); simp (config := {maxSteps := 10000000}) (disch := first | exact okYes (by kernel_rfl) | omega) only [ARun_nil, ARun_none, ARun_some, ARun_skip, AOpRun, AGo_f, AGo_ok, AG_tt, AG_ff, AG_tf, AG_ft, AG_un, aexec, run1, asI, elems, base, opt1, fillD, splice, abin, ash, isSh, foldI, mn2, mx2, ↓eget_h, eget_c, eget_n, eput_c, eput_n, putO, ↓hget_h, hget_c, hget_n, hput_c, hput_n, hdel_c, hdel_n, hups, cond_true, cond_false,  ups, St.F, St.app, FSt.ev, dropE_c, dropE_n, inL_c, inL_n, envOf, thenQ, blockQ, D.isBot, D.isAgg, D.cells, D.leaf, scalarEq, eqCells, isB, Option.map, List.map, List.length, List.all, List.append, List.take, List.drop, List.cons_append, List.nil_append, List.append_nil, Option.isSome, List.getElem?_cons_zero, List.getElem?_cons_succ, if_true, if_false, true_and, and_true, Bool.not_true, Bool.not_false, Bool.true_or, Bool.false_or, Bool.or_true, Bool.or_false, Bool.false_eq_true, ↓reduceIte, Nat.reduceAdd, Nat.reduceMul, Nat.reduceEqDiff, Nat.reduceBEq, Nat.reduceSub, Nat.zero_add, Nat.reduceLeDiff, Nat.reduceGT, Nat.reduceLT, Nat.reduceBNe, okLog_f, reduceCtorEq, or_self, or_false, false_or, or_true, true_or, and_self, and_false, false_and, not_true_eq_false, not_false_eq_true, ne_eq, Bool.and_true, Bool.true_and, Bool.and_false, Bool.false_and, decide_eq_true_eq, decide_true, decide_false, Int.reduceBEq, Int.reduceBNe, Int.reduceLT, Int.reduceLE, Int.reduceAdd, Int.reduceSub, Int.reduceMul, Int.reduceNeg, Int.reduceEq, Int.toNat_zero, Int.reduceToNat, Int.zero_lt_one, Nat.zero_le, Int.le_refl, beq_self_eq_true, bne_self_eq_false, cast_lit, fits, wrap_in, Int.toNat_natCast, Int.natCast_nonneg, dI, dB, hg, hr]) | (subst hK; with_reducible repeat' (first | refine thenQ_n ?_ | refine blockQ_n ?_ | refine thenQ_e ?_ | refine blockQ_t ?_ | refine blockQ_f (by decide) ?_))))
      all_goals (refine end_to [] [(0, 0), (8, 8)] (by first | exact .inl rfl | exact .inr rfl) rfl (by kernel_rfl) (by kernel_rfl) (by kernel_rfl) ?_ ?_ <;> repeat' (first | exact trivial | exact vr_val _ | exact vr_list _ | exact vr_at _ | exact vr_nil | exact vr_cap0 | exact vr_vec _ _ _ _ rfl | exact vr_own _ _ _ _ _ rfl | exact vr_ptr _ _ _ rfl | exact vr_nilv _ _ _ rfl | exact vr_bot _ | exact vr_cap0v _ _ _ rfl | exact vr_cap0l | apply vr_agg | apply vr_tup | apply vr_fn | refine vr_yld _ _ _ rfl ?_ | exact Ren.bot _ | exact Ren.val _ | exact Ren.list _ | exact Ren.at_ _ | exact Ren.ptr _ _ _ rfl | refine Ren.yld _ _ _ _ _ rfl rfl (RenL.get ?_).2 (fun _ _ _ h => h) | refine vr_fl _ _ _ _ _ (by decide) rfl ?_ ?_ ?_ ?_ | refine And.intro ⟨_, rfl, .inl ⟨_, rfl, by decide, ?_⟩⟩ ?_ | refine And.intro ⟨_, rfl, _, rfl, by decide, ?_⟩ ?_ | refine And.intro ⟨_, rfl, .inr ⟨rfl, rfl, of_decide_eq_true (by kernel_rfl)⟩⟩ ?_ | apply And.intro | refine vr_valq ?_ | refine vr_listq ?_ | exact vrl_flat _ (by first | exact icells_in _ | exact rcells_in _ | exact scells_in _ | exact bcells_in _ | assumption)))
set_option maxRecDepth 100000 in
set_option maxHeartbeats 4000000 in
theorem roCkL_ac (r : Rot) (a : Air) (s : Int × Int) (hs : RotSm r) (h0 : rotE r = 0) (hb : airB a = true) : AC Try.prog 71 [.agg (macC r a), .agg [dI s.1, dI s.2]] [] [] (dI (lvE r a s)) := by
  refine krotor_checkLevel.ac (n0 := 0) (by simp) ⟨.agg _ (wals_in (c := macC r a) rfl), in_sp _ _ _, trivial⟩ trivial rfl ?_
  have c := roChk_ac r a s hs h0 hb
  unfold crotor_checkLevel
  unfold rotD rotC airD airC macC at *
  generalize lvE r a s = E at *
  refine aw_seq (aw_region ?_)
  simp (config := {maxSteps := 10000000}) (disch := first | exact okYes (by kernel_rfl) | omega) only [ARun_nil, ARun_none, ARun_some, ARun_skip, AOpRun, AGo_f, AGo_ok, AG_tt, AG_ff, AG_tf, AG_ft, AG_un, aexec, run1, asI, elems, base, opt1, fillD, splice, abin, ash, isSh, foldI, mn2, mx2, ↓eget_h, eget_c, eget_n, eput_c, eput_n, putO, ↓hget_h, hget_c, hget_n, hput_c, hput_n, hdel_c, hdel_n, hups, cond_true, cond_false,  ups, St.F, St.app, FSt.ev, dropE_c, dropE_n, inL_c, inL_n, envOf, thenQ, blockQ, D.isBot, D.isAgg, D.cells, D.leaf, scalarEq, eqCells, isB, Option.map, List.map, List.length, List.all, List.append, List.take, List.drop, List.cons_append, List.nil_append, List.append_nil, Option.isSome, List.getElem?_cons_zero, List.getElem?_cons_succ, if_true, if_false, true_and, and_true, Bool.not_true, Bool.not_false, Bool.true_or, Bool.false_or, Bool.or_true, Bool.or_false, Bool.false_eq_true, ↓reduceIte, Nat.reduceAdd, Nat.reduceMul, Nat.reduceEqDiff, Nat.reduceBEq, Nat.reduceSub, Nat.zero_add, Nat.reduceLeDiff, Nat.reduceGT, Nat.reduceLT, Nat.reduceBNe, okLog_f, reduceCtorEq, or_self, or_false, false_or, or_true, true_or, and_self, and_false, false_and, not_true_eq_false, not_false_eq_true, ne_eq, Bool.and_true, Bool.true_and, Bool.and_false, Bool.false_and, decide_eq_true_eq, decide_true, decide_false, Int.reduceBEq, Int.reduceBNe, Int.reduceLT, Int.reduceLE, Int.reduceAdd, Int.reduceSub, Int.reduceMul, Int.reduceNeg, Int.reduceEq, Int.toNat_zero, Int.reduceToNat, Int.zero_lt_one, Nat.zero_le, Int.le_refl, beq_self_eq_true, bne_self_eq_false, cast_lit, fits, wrap_in, Int.toNat_natCast, Int.natCast_nonneg, dI, dB]
  refine aw_seq (aw_region_cut [⟨some 5, .fad 0 (.tmp 2), none, []⟩,
     ⟨some 6, .loadN 26 (.tmp 5), none, []⟩,
     ⟨some 7, .fad 26 (.tmp 2), none, []⟩,
     ⟨some 8, .loadN 8 (.tmp 7), none, []⟩,
     ⟨some 9, .loadN 2 (.tmp 3), none, []⟩,
     ⟨some 10, .buildSl 2 1 [(.val (.int .i64 0)), (.val (.int .i64 0))] [(0, 2, (.tmp 9))], none, []⟩]
     [⟨some 11, .mkfn 114 [] [(.tmp 2), (.tmp 3)], none, []⟩,
     ⟨some 12, .call (.func 83) [(.tmp 6), (.tmp 8), (.tmp 10), (.tmp 11)], none, []⟩,
     ⟨some 4, .mv (.tmp 12), none, []⟩] ?_)
  simp (config := {maxSteps := 10000000}) (disch := first | exact okYes (by kernel_rfl) | omega) only [ARun_nil, ARun_none, ARun_some, ARun_skip, AOpRun, AGo_f, AGo_ok, AG_tt, AG_ff, AG_tf, AG_ft, AG_un, aexec, run1, asI, elems, base, opt1, fillD, splice, abin, ash, isSh, foldI, mn2, mx2, ↓eget_h, eget_c, eget_n, eput_c, eput_n, putO, ↓hget_h, hget_c, hget_n, hput_c, hput_n, hdel_c, hdel_n, hups, cond_true, cond_false,  ups, St.F, St.app, FSt.ev, dropE_c, dropE_n, inL_c, inL_n, envOf, thenQ, blockQ, D.isBot, D.isAgg, D.cells, D.leaf, scalarEq, eqCells, isB, Option.map, List.map, List.length, List.all, List.append, List.take, List.drop, List.cons_append, List.nil_append, List.append_nil, Option.isSome, List.getElem?_cons_zero, List.getElem?_cons_succ, if_true, if_false, true_and, and_true, Bool.not_true, Bool.not_false, Bool.true_or, Bool.false_or, Bool.or_true, Bool.or_false, Bool.false_eq_true, ↓reduceIte, Nat.reduceAdd, Nat.reduceMul, Nat.reduceEqDiff, Nat.reduceBEq, Nat.reduceSub, Nat.zero_add, Nat.reduceLeDiff, Nat.reduceGT, Nat.reduceLT, Nat.reduceBNe, okLog_f, reduceCtorEq, or_self, or_false, false_or, or_true, true_or, and_self, and_false, false_and, not_true_eq_false, not_false_eq_true, ne_eq, Bool.and_true, Bool.true_and, Bool.and_false, Bool.false_and, decide_eq_true_eq, decide_true, decide_false, Int.reduceBEq, Int.reduceBNe, Int.reduceLT, Int.reduceLE, Int.reduceAdd, Int.reduceSub, Int.reduceMul, Int.reduceNeg, Int.reduceEq, Int.toNat_zero, Int.reduceToNat, Int.zero_lt_one, Nat.zero_le, Int.le_refl, beq_self_eq_true, bne_self_eq_false, cast_lit, fits, wrap_in, Int.toNat_natCast, Int.natCast_nonneg, dI, dB]
  refine ⟨⟨[(2, .ptr 0 0), (3, .ptr 8 0), (6, rotD r), (8, airD a), (10, .list (sps [s]))], [(0, macC r a), (8, [dI s.1, dI s.2])], 600⟩, ?_, of_decide_eq_true (by kernel_rfl), ?_⟩
  · unfold rotD rotC airD airC macC dI
    refine wk_to [64] [(0, 0), (8, 8)] (by kernel_rfl) (by kernel_rfl) (by kernel_rfl) (by kernel_rfl) (by kernel_rfl) ?_ ?_ <;> repeat' (first | exact trivial | exact vr_val _ | exact vr_list _ | exact vr_at _ | exact vr_nil | exact vr_cap0 | exact vr_vec _ _ _ _ rfl | exact vr_own _ _ _ _ _ rfl | exact vr_ptr _ _ _ rfl | exact vr_nilv _ _ _ rfl | exact vr_bot _ | exact vr_cap0v _ _ _ rfl | exact vr_cap0l | apply vr_agg | apply vr_tup | apply vr_fn | refine vr_yld _ _ _ rfl ?_ | exact Ren.bot _ | exact Ren.val _ | exact Ren.list _ | exact Ren.at_ _ | exact Ren.ptr _ _ _ rfl | refine Ren.yld _ _ _ _ _ rfl rfl (RenL.get ?_).2 (fun _ _ _ h => h) | refine vr_fl _ _ _ _ _ (by decide) rfl ?_ ?_ ?_ ?_ | refine And.intro ⟨_, rfl, .inl ⟨_, rfl, by decide, ?_⟩⟩ ?_ | refine And.intro ⟨_, rfl, _, rfl, by decide, ?_⟩ ?_ | refine And.intro ⟨_, rfl, .inr ⟨rfl, rfl, of_decide_eq_true (by kernel_rfl)⟩⟩ ?_ | apply And.intro | exact vrl_flat _ (by first | exact icells_in _ | exact rcells_in _ | exact scells_in _ | exact bcells_in _ | assumption))
    all_goals first | exact sps_two _ | rfl | (refine wals_in ?_; rfl)
  unfold rotD rotC airD airC macC
  simp (config := {maxSteps := 10000000}) (disch := first | exact okYes (by kernel_rfl) | omega) only [ARun_nil, ARun_none, ARun_some, ARun_skip, AOpRun, AGo_f, AGo_ok, AG_tt, AG_ff, AG_tf, AG_ft, AG_un, aexec, run1, asI, elems, base, opt1, fillD, splice, abin, ash, isSh, foldI, mn2, mx2, ↓eget_h, eget_c, eget_n, eput_c, eput_n, putO, ↓hget_h, hget_c, hget_n, hput_c, hput_n, hdel_c, hdel_n, hups, cond_true, cond_false,  ups, St.F, St.app, FSt.ev, dropE_c, dropE_n, inL_c, inL_n, envOf, thenQ, blockQ, D.isBot, D.isAgg, D.cells, D.leaf, scalarEq, eqCells, isB, Option.map, List.map, List.length, List.all, List.append, List.take, List.drop, List.cons_append, List.nil_append, List.append_nil, Option.isSome, List.getElem?_cons_zero, List.getElem?_cons_succ, if_true, if_false, true_and, and_true, Bool.not_true, Bool.not_false, Bool.true_or, Bool.false_or, Bool.or_true, Bool.or_false, Bool.false_eq_true, ↓reduceIte, Nat.reduceAdd, Nat.reduceMul, Nat.reduceEqDiff, Nat.reduceBEq, Nat.reduceSub, Nat.zero_add, Nat.reduceLeDiff, Nat.reduceGT, Nat.reduceLT, Nat.reduceBNe, okLog_f, reduceCtorEq, or_self, or_false, false_or, or_true, true_or, and_self, and_false, false_and, not_true_eq_false, not_false_eq_true, ne_eq, Bool.and_true, Bool.true_and, Bool.and_false, Bool.false_and, decide_eq_true_eq, decide_true, decide_false, Int.reduceBEq, Int.reduceBNe, Int.reduceLT, Int.reduceLE, Int.reduceAdd, Int.reduceSub, Int.reduceMul, Int.reduceNeg, Int.reduceEq, Int.toNat_zero, Int.reduceToNat, Int.zero_lt_one, Nat.zero_le, Int.le_refl, beq_self_eq_true, bne_self_eq_false, cast_lit, fits, wrap_in, Int.toNat_natCast, Int.natCast_nonneg, dI]
  (have hg : (987654321 : Nat) - 987654321 = 0 := rfl; have hr := hg; repeat' (first | refine aw_seq ?_ | (refine aw_skip ?_; with_reducible repeat' (first | refine thenQ_n ?_ | refine blockQ_n ?_ | refine thenQ_e ?_ | refine blockQ_t ?_ | refine blockQ_f (by decide) ?_)) | (refine aw_exit ?_; with_reducible repeat' (first | refine thenQ_n ?_ | refine blockQ_n ?_ | refine thenQ_e ?_ | refine blockQ_t ?_ | refine blockQ_f (by decide) ?_)) | refine aw_ret ?_ | refine aw_block ?_ | refine aw_condT rfl ?_ | refine aw_condF rfl ?_ | (refine aw_cond rfl (fun hg => ?_) (fun hg => ?_) <;> (try (have hq := hg; simp only [Bool.not_eq_true', Bool.not_eq_false', Bool.and_eq_true, Bool.and_eq_false_iff, Bool.or_eq_true, Bool.or_eq_false_iff, decide_eq_true_eq, decide_eq_false_iff_not, bne_iff_ne, beq_iff_eq, beq_eq_false_iff_ne, bne_eq_false_iff_eq, ne_eq, Int.not_lt, Int.not_le, Decidable.not_not] at hq)) <;> (try (have hr := hg; simp only [decide_eq_true_eq, decide_eq_false_iff_not] at hr)) <;> (try (exfalso; omega))) | (refine ag_bool (fun hg => ?_) (fun hg => ?_) <;> (try (have hq := hg; simp only [Bool.not_eq_true', Bool.not_eq_false', Bool.and_eq_true, Bool.and_eq_false_iff, Bool.or_eq_true, Bool.or_eq_false_iff, decide_eq_true_eq, decide_eq_false_iff_not, bne_iff_ne, beq_iff_eq, beq_eq_false_iff_ne, bne_eq_false_iff_eq, ne_eq, Int.not_lt, Int.not_le, Decidable.not_not] at hq)) <;> (try (have hr := hg; simp only [decide_eq_true_eq, decide_eq_false_iff_not] at hr)) <;> (try (exfalso; omega)) <;> simp (config := {maxSteps := 10000000}) (disch := first | exact okYes (by kernel_rfl) | omega) only [ARun_nil, ARun_none, ARun_some, ARun_skip, AOpRun, AGo_f, AGo_ok, AG_tt, AG_ff, AG_tf, AG_ft, AG_un, aexec, run1, asI, elems, base, opt1, fillD, splice, abin, ash, isSh, foldI, mn2, mx2, ↓eget_h, eget_c, eget_n, eput_c, eput_n, putO, ↓hget_h, hget_c, hget_n, hput_c, hput_n, hdel_c, hdel_n, hups, cond_true, cond_false,  ups, St.F, St.app, FSt.ev, dropE_c, dropE_n, inL_c, inL_n, envOf, thenQ, blockQ, D.isBot, D.isAgg, D.cells, D.leaf, scalarEq, eqCells, isB, Option.map, List.map, List.length, List.all, List.append, List.take, List.drop, List.cons_append, List.nil_append, List.append_nil, Option.isSome, List.getElem?_cons_zero, List.getElem?_cons_succ, if_true, if_false, true_and, and_true, Bool.not_true, Bool.not_false, Bool.true_or, Bool.false_or, Bool.or_true, Bool.or_false, Bool.false_eq_true, ↓reduceIte, Nat.reduceAdd, Nat.reduceMul, Nat.reduceEqDiff, Nat.reduceBEq, Nat.reduceSub, Nat.zero_add, Nat.reduceLeDiff, Nat.reduceGT, Nat.reduceLT, Nat.reduceBNe, okLog_f, reduceCtorEq, or_self, or_false, false_or, or_true, true_or, and_self, and_false, false_and, not_true_eq_false, not_false_eq_true, ne_eq, Bool.and_true, Bool.true_and, Bool.and_false, Bool.false_and, decide_eq_true_eq, decide_true, decide_false, Int.reduceBEq, Int.reduceBNe, Int.reduceLT, Int.reduceLE, Int.reduceAdd, Int.reduceSub, Int.reduceMul, Int.reduceNeg, Int.reduceEq, Int.toNat_zero, Int.reduceToNat, Int.zero_lt_one, Nat.zero_le, Int.le_refl, beq_self_eq_true, bne_self_eq_false, cast_lit, fits, wrap_in, Int.toNat_natCast, Int.natCast_nonneg, dI, dB, hg, hr]) | ((first | refine aw_hide fun K hK => aw_region ?_ | refine acallB (c) (by repeat' (first | exact trivial | exact rfl | refine And.intro ?_ ?_)) (by kernel_rfl) (by kernel_rfl) (by kernel_rfl) ?_ | refine ago_if (by omega) ?_ | skip); simp (config := {maxSteps := 10000000}) (disch := first | exact okYes (by kernel_rfl) | omega) only [ARun_nil, ARun_none, ARun_some, ARun_skip, AOpRun, AGo_f, AGo_ok, AG_tt, AG_ff, AG_tf, AG_ft, AG_un, aexec, run1, asI, elems, base, opt1, fillD, splice, abin, ash, isSh, foldI, mn2, mx2, ↓eget_h, eget_c, eget_n, eput_c, eput_n, putO, ↓hget_h, hget_c, hget_n, hput_c, hput_n, hdel_c, hdel_n, hups, cond_true, cond_false,  ups, St.F, St.app, FSt.ev, dropE_c, dropE_n, inL_c, inL_n, envOf, thenQ, blockQ, D.isBot, D.isAgg, D.cells, D.leaf, scalarEq, eqCells, isB, Option.map, List.map, List.length, List.all, List.append, List.take, List.drop, List.cons_append, List.nil_append, List.append_nil, Option.isSome, List.getElem?_cons_zero, List.getElem?_cons_succ, if_true, if_false, true_and, and_true, Bool.not_true, Bool.not_false, Bool.true_or, Bool.false_or, Bool.or_true, Bool.or_false, Bool.false_eq_true, ↓reduceIte, Nat.reduceAdd, Nat.reduceMul, Nat.reduceEqDiff, Nat.reduceBEq, Nat.reduceSub, Nat.zero_add, Nat.reduceLeDiff, Nat.reduceGT, Nat.reduceLT, Nat.reduceBNe, okLog_f, reduceCtorEq, or_self, or_false, false_or, or_true, true_or, and_self, and_false, false_and, not_true_eq_false, not_false_eq_true, ne_eq, Bool.and_true, Bool.true_and, Bool.and_false, Bool.false_and, decide_eq_true_eq, decide_true, decide_false, Int.reduceBEq, Int.reduceBNe, Int.reduceLT, Int.reduceLE, Int.reduceAdd, Int.reduceSub, Int.reduceMul, Int.reduceNeg, Int.reduceEq, Int.toNat_zero, Int.reduceToNat, Int.zero_lt_one, Nat.zero_le, Int.le_refl, beq_self_eq_true, bne_self_eq_false, cast_lit, fits, wrap_in, Int.toNat_natCast, Int.natCast_nonneg, dI, dB, hg, hr]) | (subst hK; with_reducible repeat' (first | refine thenQ_n ?_ | refine blockQ_n ?_ | refine thenQ_e ?_ | refine blockQ_t ?_ | refine blockQ_f (by decide) ?_))))
  all_goals (refine end_to [] [] (by first | exact .inl rfl | exact .inr rfl) rfl (by kernel_rfl) (by kernel_rfl) (by kernel_rfl) ?_ ?_ <;> repeat' (first | exact trivial | exact vr_val _ | exact vr_list _ | exact vr_at _ | exact vr_nil | exact vr_cap0 | exact vr_vec _ _ _ _ rfl | exact vr_own _ _ _ _ _ rfl | exact vr_ptr _ _ _ rfl | exact vr_nilv _ _ _ rfl | exact vr_bot _ | exact vr_cap0v _ _ _ rfl | exact vr_cap0l | apply vr_agg | apply vr_tup | apply vr_fn | refine vr_yld _ _ _ rfl ?_ | exact Ren.bot _ | exact Ren.val _ | exact Ren.list _ | exact Ren.at_ _ | exact Ren.ptr _ _ _ rfl | refine Ren.yld _ _ _ _ _ rfl rfl (RenL.get ?_).2 (fun _ _ _ h => h) | refine vr_fl _ _ _ _ _ (by decide) rfl ?_ ?_ ?_ ?_ | refine And.intro ⟨_, rfl, .inl ⟨_, rfl, by decide, ?_⟩⟩ ?_ | refine And.intro ⟨_, rfl, _, rfl, by decide, ?_⟩ ?_ | refine And.intro ⟨_, rfl, .inr ⟨rfl, rfl, of_decide_eq_true (by kernel_rfl)⟩⟩ ?_ | apply And.intro | refine vr_valq ?_ | refine vr_listq ?_ | exact vrl_flat _ (by first | exact icells_in _ | exact rcells_in _ | exact scells_in _ | exact bcells_in _ | assumption)))
set_option maxRecDepth 100000 in
set_option maxHeartbeats 2000000 in
theorem roBound_ac (t : Tb) (x y : Int × Int) (hs : TbSm t) : AC Try.prog 73 [.agg (lkC t x y)] [] [] (.agg [dI (boundR t.x t.y t.v x y).1.1, dI (boundR t.x t.y t.v x y).1.2]) := by
  refine krotor_looked_bound.ac (n0 := 0) (by simp) ⟨.agg _ (wals_in (c := lkC t x y) rfl), trivial⟩ trivial rfl ?_
  have c := bound_ac x y hs.sz
  unfold crotor_looked_bound
  unfold tabD spD lkC at *
  generalize boundR t.x t.y t.v x y = B at *
  obtain ⟨⟨B1, B2⟩, B3⟩ := B
  (have hg : (987654321 : Nat) - 987654321 = 0 := rfl; have hr := hg; repeat' (first | refine aw_seq ?_ | (refine aw_skip ?_; with_reducible repeat' (first | refine thenQ_n ?_ | refine blockQ_n ?_ | refine thenQ_e ?_ | refine blockQ_t ?_ | refine blockQ_f (by decide) ?_)) | (refine aw_exit ?_; with_reducible repeat' (first | refine thenQ_n ?_ | refine blockQ_n ?_ | refine thenQ_e ?_ | refine blockQ_t ?_ | refine blockQ_f (by decide) ?_)) | refine aw_ret ?_ | refine aw_block ?_ | refine aw_condT rfl ?_ | refine aw_condF rfl ?_ | (refine aw_cond rfl (fun hg => ?_) (fun hg => ?_) <;> (try (have hq := hg; simp only [Bool.not_eq_true', Bool.not_eq_false', Bool.and_eq_true, Bool.and_eq_false_iff, Bool.or_eq_true, Bool.or_eq_false_iff, decide_eq_true_eq, decide_eq_false_iff_not, bne_iff_ne, beq_iff_eq, beq_eq_false_iff_ne, bne_eq_false_iff_eq, ne_eq, Int.not_lt, Int.not_le, Decidable.not_not] at hq)) <;> (try (have hr := hg; simp only [decide_eq_true_eq, decide_eq_false_iff_not] at hr)) <;> (try (exfalso; omega))) | (refine ag_bool (fun hg => ?_) (fun hg => ?_) <;> (try (have hq := hg; simp only [Bool.not_eq_true', Bool.not_eq_false', Bool.and_eq_true, Bool.and_eq_false_iff, Bool.or_eq_true, Bool.or_eq_false_iff, decide_eq_true_eq, decide_eq_false_iff_not, bne_iff_ne, beq_iff_eq, beq_eq_false_iff_ne, bne_eq_false_iff_eq, ne_eq, Int.not_lt, Int.not_le, Decidable.not_not] at hq)) <;> (try (have hr := hg; simp only [decide_eq_true_eq, decide_eq_false_iff_not] at hr)) <;> (try (exfalso; omega)) <;> simp (config := {maxSteps := 10000000}) (disch := first | exact okYes (by kernel_rfl) | omega) only [ARun_nil, ARun_none, ARun_some, ARun_skip, AOpRun, AGo_f, AGo_ok, AG_tt, AG_ff, AG_tf, AG_ft, AG_un, aexec, run1, asI, elems, base, opt1, fillD, splice, abin, ash, isSh, foldI, mn2, mx2, ↓eget_h, eget_c, eget_n, eput_c, eput_n, putO, ↓hget_h, hget_c, hget_n, hput_c, hput_n, hdel_c, hdel_n, hups, cond_true, cond_false,  ups, St.F, St.app, FSt.ev, dropE_c, dropE_n, inL_c, inL_n, envOf, thenQ, blockQ, D.isBot, D.isAgg, D.cells, D.leaf, scalarEq, eqCells, isB, Option.map, List.map, List.length, List.all, List.append, List.take, List.drop, List.cons_append, List.nil_append, List.append_nil, Option.isSome, List.getElem?_cons_zero, List.getElem?_cons_succ, if_true, if_false, true_and, and_true, Bool.not_true, Bool.not_false, Bool.true_or, Bool.false_or, Bool.or_true, Bool.or_false, Bool.false_eq_true, ↓reduceIte, Nat.reduceAdd, Nat.reduceMul, Nat.reduceEqDiff, Nat.reduceBEq, Nat.reduceSub, Nat.zero_add, Nat.reduceLeDiff, Nat.reduceGT, Nat.reduceLT, Nat.reduceBNe, okLog_f, reduceCtorEq, or_self, or_false, false_or, or_true, true_or, and_self, and_false, false_and, not_true_eq_false, not_false_eq_true, ne_eq, Bool.and_true, Bool.true_and, Bool.and_false, Bool.false_and, decide_eq_true_eq, decide_true, decide_false, Int.reduceBEq, Int.reduceBNe, Int.reduceLT, Int.reduceLE, Int.reduceAdd, Int.reduceSub, Int.reduceMul, Int.reduceNeg, Int.reduceEq, Int.toNat_zero, Int.reduceToNat, Int.zero_lt_one, Nat.zero_le, Int.le_refl, beq_self_eq_true, bne_self_eq_false, cast_lit, fits, wrap_in, Int.toNat_natCast, Int.natCast_nonneg, dI, dB, hg, hr]) | ((first | refine aw_hide fun K hK => aw_region ?_ | refine acall0 (c) ?_ | refine ago_if (by omega) ?_ | skip); simp (config := {maxSteps := 10000000}) (disch := first | exact okYes (by kernel_rfl) | omega) only [ARun_nil, ARun_none, ARun_some, ARun_skip, AOpRun, AGo_f, AGo_ok, AG_tt, AG_ff, AG_tf, AG_ft, AG_un, aexec, run1, asI, elems, base, opt1, fillD, splice, abin, ash, isSh, foldI, mn2, mx2, ↓eget_h, eget_c, eget_n, eput_c, eput_n, putO, ↓hget_h, hget_c, hget_n, hput_c, hput_n, hdel_c, hdel_n, hups, cond_true, cond_false,  ups, St.F, St.app, FSt.ev, dropE_c, dropE_n, inL_c, inL_n, envOf, thenQ, blockQ, D.isBot, D.isAgg, D.cells, D.leaf, scalarEq, eqCells, isB, Option.map, List.map, List.length, List.all, List.append, List.take, List.drop, List.cons_append, List.nil_append, List.append_nil, Option.isSome, List.getElem?_cons_zero, List.getElem?_cons_succ, if_true, if_false, true_and, and_true, Bool.not_true, Bool.not_false, Bool.true_or, Bool.false_or, Bool.or_true, Bool.or_false, Bool.false_eq_true, ↓reduceIte, Nat.reduceAdd, Nat.reduceMul, Nat.reduceEqDiff, Nat.reduceBEq, Nat.reduceSub, Nat.zero_add, Nat.reduceLeDiff, Nat.reduceGT, Nat.reduceLT, Nat.reduceBNe, okLog_f, reduceCtorEq, or_self, or_false, false_or, or_true, true_or, and_self, and_false, false_and, not_true_eq_false, not_false_eq_true, ne_eq, Bool.and_true, Bool.true_and, Bool.and_false, Bool.false_and, decide_eq_true_eq, decide_true, decide_false, Int.reduceBEq, Int.reduceBNe, Int.reduceLT, Int.reduceLE, Int.reduceAdd, Int.reduceSub, Int.reduceMul, Int.reduceNeg, Int.reduceEq, Int.toNat_zero, Int.reduceToNat, Int.zero_lt_one, Nat.zero_le, Int.le_refl, beq_self_eq_true, bne_self_eq_false, cast_lit, fits, wrap_in, Int.toNat_natCast, Int.natCast_nonneg, dI, dB, hg, hr]) | (subst hK; with_reducible repeat' (first | refine thenQ_n ?_ | refine blockQ_n ?_ | refine thenQ_e ?_ | refine blockQ_t ?_ | refine blockQ_f (by decide) ?_))))
  all_goals (refine end_to [] [] (by first | exact .inl rfl | exact .inr rfl) rfl (by kernel_rfl) (by kernel_rfl) (by kernel_rfl) ?_ ?_ <;> repeat' (first | exact trivial | exact vr_val _ | exact vr_list _ | exact vr_at _ | exact vr_nil | exact vr_cap0 | exact vr_vec _ _ _ _ rfl | exact vr_own _ _ _ _ _ rfl | exact vr_ptr _ _ _ rfl | exact vr_nilv _ _ _ rfl | exact vr_bot _ | exact vr_cap0v _ _ _ rfl | exact vr_cap0l | apply vr_agg | apply vr_tup | apply vr_fn | refine vr_yld _ _ _ rfl ?_ | exact Ren.bot _ | exact Ren.val _ | exact Ren.list _ | exact Ren.at_ _ | exact Ren.ptr _ _ _ rfl | refine Ren.yld _ _ _ _ _ rfl rfl (RenL.get ?_).2 (fun _ _ _ h => h) | refine vr_fl _ _ _ _ _ (by decide) rfl ?_ ?_ ?_ ?_ | refine And.intro ⟨_, rfl, .inl ⟨_, rfl, by decide, ?_⟩⟩ ?_ | refine And.intro ⟨_, rfl, _, rfl, by decide, ?_⟩ ?_ | refine And.intro ⟨_, rfl, .inr ⟨rfl, rfl, of_decide_eq_true (by kernel_rfl)⟩⟩ ?_ | apply And.intro | refine vr_valq ?_ | refine vr_listq ?_ | exact vrl_flat _ (by first | exact icells_in _ | exact rcells_in _ | exact scells_in _ | exact bcells_in _ | assumption)))
def lvR (r : Rot) (a : Air) (s : Int × Int) : (Int × Int) × Int := if lvB r a s = true then ((boundR r.c.x r.c.y r.c.v s a.w).1, 0) else ((0, 0), 1)
set_option maxRecDepth 100000 in
set_option maxHeartbeats 4000000 in
theorem roLevel_ac (r : Rot) (a : Air) (s : Int × Int) (hs : RotSm r) (h0 : rotE r = 0) (hb : airB a = true) : AC Try.prog 35 [rotD r, airD a, .agg [dI s.1, dI s.2]] [] [] (.tup [.agg [dI (lvR r a s).1.1, dI (lvR r a s).1.2], dI (lvR r a s).2]) := by
  refine krotor_Level.ac (n0 := 0) (by simp) ⟨in_rotD _ _, in_airD _ _, in_sp _ _ _, trivial⟩ trivial rfl ?_
  have c1 := roCkL_ac r a s hs h0 hb
  have c2 := roLevelM_ac r a s
  have c3 := roBound_ac r.c s a.w (hs 2 (by omega))
  unfold crotor_Level
  unfold lvE at c1
  unfold lvR
  unfold rotD rotC airD airC macC lkC spD at *
  generalize boundR r.c.x r.c.y r.c.v s a.w = B at *
  obtain ⟨⟨B1, B2⟩, B3⟩ := B
  cases h : lvB r a s
  all_goals
    simp only [h, if_true, if_false, Bool.false_eq_true] at c1 ⊢
    (have hg : (987654321 : Nat) - 987654321 = 0 := rfl; have hr := hg; repeat' (first | refine aw_seq ?_ | (refine aw_skip ?_; with_reducible repeat' (first | refine thenQ_n ?_ | refine blockQ_n ?_ | refine thenQ_e ?_ | refine blockQ_t ?_ | refine blockQ_f (by decide) ?_)) | (refine aw_exit ?_; with_reducible repeat' (first | refine thenQ_n ?_ | refine blockQ_n ?_ | refine thenQ_e ?_ | refine blockQ_t ?_ | refine blockQ_f (by decide) ?_)) | refine aw_ret ?_ | refine aw_block ?_ | refine aw_condT rfl ?_ | refine aw_condF rfl ?_ | (refine aw_cond rfl (fun hg => ?_) (fun hg => ?_) <;> (try (have hq := hg; simp only [Bool.not_eq_true', Bool.not_eq_false', Bool.and_eq_true, Bool.and_eq_false_iff, Bool.or_eq_true, Bool.or_eq_false_iff, decide_eq_true_eq, decide_eq_false_iff_not, bne_iff_ne, beq_iff_eq, beq_eq_false_iff_ne, bne_eq_false_iff_eq, ne_eq, Int.not_lt, Int.not_le, Decidable.not_not] at hq)) <;> (try (have hr := hg; simp only [decide_eq_true_eq, decide_eq_false_iff_not] at hr)) <;> (try (exfalso; omega))) | (refine ag_bool (fun hg => ?_) (fun hg => ?_) <;> (try (have hq := hg; simp only [Bool.not_eq_true', Bool.not_eq_false', Bool.and_eq_true, Bool.and_eq_false_iff, Bool.or_eq_true, Bool.or_eq_false_iff, decide_eq_true_eq, decide_eq_false_iff_not, bne_iff_ne, beq_iff_eq, beq_eq_false_iff_ne, bne_eq_false_iff_eq, ne_eq, Int.not_lt, Int.not_le, Decidable.not_not] at hq)) <;> (try (have hr := hg; simp only [decide_eq_true_eq, decide_eq_false_iff_not] at hr)) <;> (try (exfalso; omega)) <;> simp (config := {maxSteps := 10000000}) (disch := first | exact okYes (by kernel_rfl) | omega) only [ARun_nil, ARun_none, ARun_some, ARun_skip, AOpRun, AGo_f, AGo_ok, AG_tt, AG_ff, AG_tf, AG_ft, AG_un, aexec, run1, asI, elems, base, opt1, fillD, splice, abin, ash, isSh, foldI, mn2, mx2, ↓eget_h, eget_c, eget_n, eput_c, eput_n, putO, ↓hget_h, hget_c, hget_n, hput_c, hput_n, hdel_c, hdel_n, hups, cond_true, cond_false,  ups, St.F, St.app, FSt.ev, dropE_c, dropE_n, inL_c, inL_n, envOf, thenQ, blockQ, D.isBot, D.isAgg, D.cells, D.leaf, scalarEq, eqCells, isB, Option.map, List.map, List.length, List.all, List.append, List.take, List.drop, List.cons_append, List.nil_append, List.append_nil, Option.isSome, List.getElem?_cons_zero, List.getElem?_cons_succ, if_true, if_false, true_and, and_true, Bool.not_true, Bool.not_false, Bool.true_or, Bool.false_or, Bool.or_true, Bool.or_false, Bool.false_eq_true, ↓reduceIte, Nat.reduceAdd, Nat.reduceMul, Nat.reduceEqDiff, Nat.reduceBEq, Nat.reduceSub, Nat.zero_add, Nat.reduceLeDiff, Nat.reduceGT, Nat.reduceLT, Nat.reduceBNe, okLog_f, reduceCtorEq, or_self, or_false, false_or, or_true, true_or, and_self, and_false, false_and, not_true_eq_false, not_false_eq_true, ne_eq, Bool.and_true, Bool.true_and, Bool.and_false, Bool.false_and, decide_eq_true_eq, decide_true, decide_false, Int.reduceBEq, Int.reduceBNe, Int.reduceLT, Int.reduceLE, Int.reduceAdd, Int.reduceSub, Int.reduceMul, Int.reduceNeg, Int.reduceEq, Int.toNat_zero, Int.reduceToNat, Int.zero_lt_one, Nat.zero_le, Int.le_refl, beq_self_eq_true, bne_self_eq_false, cast_lit, fits, wrap_in, Int.toNat_natCast, Int.natCast_nonneg, dI, dB, hg, hr]) | ((first | refine aw_hide fun K hK => aw_region ?_ | refine acall0 (c1) ?_ | refine acall0 (c2) ?_ | refine acall0 (c3) ?_ | refine ago_if (by omega) ?_ | skip); simp (config := {maxSteps := 10000000}) (disch := first | exact okYes (by kernel_rfl) | omega) only [ARun_nil, ARun_none, ARun_some, ARun_skip, AOpRun, AGo_f, AGo_ok, AG_tt, AG_ff, AG_tf, AG_ft, AG_un, aexec, run1, asI, elems, base, opt1, fillD, splice, abin, ash, isSh, foldI, mn2, mx2, ↓eget_h, eget_c, eget_n, eput_c, eput_n, putO, ↓hget_h, hget_c, hget_n, hput_c, hput_n, hdel_c, hdel_n, hups, cond_true, cond_false,  ups, St.F, St.app, FSt.ev, dropE_c, dropE_n, inL_c, inL_n, envOf, thenQ, blockQ, D.isBot, D.isAgg, D.cells, D.leaf, scalarEq, eqCells, isB, Option.map, List.map, List.length, List.all, List.append, List.take, List.drop, List.cons_append, List.nil_append, List.append_nil, Option.isSome, List.getElem?_cons_zero, List.getElem?_cons_succ, if_true, if_false, true_and, and_true, Bool.not_true, Bool.not_false, Bool.true_or, Bool.false_or, Bool.or_true, Bool.or_false, Bool.false_eq_true, ↓reduceIte, Nat.reduceAdd, Nat.reduceMul, Nat.reduceEqDiff, Nat.reduceBEq, Nat.reduceSub, Nat.zero_add, Nat.reduceLeDiff, Nat.reduceGT, Nat.reduceLT, Nat.reduceBNe, okLog_f, reduceCtorEq, or_self, or_false, false_or, or_true, true_or, and_self, and_false, false_and, not_true_eq_false, not_false_eq_true, ne_eq, Bool.and_true, Bool.true_and, Bool.and_false, Bool.false_and, decide_eq_true_eq, decide_true, decide_false, Int.reduceBEq, Int.reduceBNe, Int.reduceLT, Int.reduceLE, Int.reduceAdd, Int.reduceSub, Int.reduceMul, Int.reduceNeg, Int.reduceEq, Int.toNat_zero, Int.reduceToNat, Int.zero_lt_one, Nat.zero_le, Int.le_refl, beq_self_eq_true, bne_self_eq_false, cast_lit, fits, wrap_in, Int.toNat_natCast, Int.natCast_nonneg, dI, dB, hg, hr]) | (subst hK; with_reducible repeat' (first | refine thenQ_n ?_ | refine blockQ_n ?_ | refine thenQ_e ?_ | refine blockQ_t ?_ | refine blockQ_f (by decide) ?_))))
    all_goals (refine end_to [] [] (by first | exact .inl rfl | exact .inr rfl) rfl (by kernel_rfl) (by kernel_rfl) (by kernel_rfl) ?_ ?_ <;> repeat' (first | exact trivial | exact vr_val _ | exact vr_list _ | exact vr_at _ | exact vr_nil | exact vr_cap0 | exact vr_vec _ _ _ _ rfl | exact vr_own _ _ _ _ _ rfl | exact vr_ptr _ _ _ rfl | exact vr_nilv _ _ _ rfl | exact vr_bot _ | exact vr_cap0v _ _ _ rfl | exact vr_cap0l | apply vr_agg | apply vr_tup | apply vr_fn | refine vr_yld _ _ _ rfl ?_ | exact Ren.bot _ | exact Ren.val _ | exact Ren.list _ | exact Ren.at_ _ | exact Ren.ptr _ _ _ rfl | refine Ren.yld _ _ _ _ _ rfl rfl (RenL.get ?_).2 (fun _ _ _ h => h) | refine vr_fl _ _ _ _ _ (by decide) rfl ?_ ?_ ?_ ?_ | refine And.intro ⟨_, rfl, .inl ⟨_, rfl, by decide, ?_⟩⟩ ?_ | refine And.intro ⟨_, rfl, _, rfl, by decide, ?_⟩ ?_ | refine And.intro ⟨_, rfl, .inr ⟨rfl, rfl, of_decide_eq_true (by kernel_rfl)⟩⟩ ?_ | apply And.intro | refine vr_valq ?_ | refine vr_listq ?_ | exact vrl_flat _ (by first | exact icells_in _ | exact rcells_in _ | exact scells_in _ | exact bcells_in _ | assumption)))
def flR (r : Rot) (a : Air) (s : Int × Int) : (Int × Int) × Int := if lvB r a s = true then partR (boundR r.c.x r.c.y r.c.v s a.w).1 r.bu 1000 else ((0, 0), 1)
set_option maxRecDepth 100000 in
set_option maxHeartbeats 4000000 in
theorem roFlow_ac (r : Rot) (a : Air) (s : Int × Int) (hs : RotSm r) (h0 : rotE r = 0) (hb : airB a = true) : AC Try.prog 12 [rotD r, airD a, .agg [dI s.1, dI s.2]] [] [] (.tup [.agg [dI (flR r a s).1.1, dI (flR r a s).1.2], dI (flR r a s).2]) := by
  refine krotor_Flow.ac (n0 := 0) (by simp) ⟨in_rotD _ _, in_airD _ _, in_sp _ _ _, trivial⟩ trivial rfl ?_
  have c1 := roLevel_ac r a s hs h0 hb
  have c2 := partS_ac (boundR r.c.x r.c.y r.c.v s a.w).1 r.bu 1000
  unfold crotor_Flow
  unfold lvR at c1
  unfold flR
  unfold rotD rotC airD airC spD at *
  generalize boundR r.c.x r.c.y r.c.v s a.w = B at *
  obtain ⟨⟨B1, B2⟩, B3⟩ := B
  simp only at c2 ⊢
  generalize partR (B1, B2) r.bu 1000 = Q at *
  obtain ⟨⟨Q1, Q2⟩, Q3⟩ := Q
  cases h : lvB r a s
  all_goals
    simp only [h, if_true, if_false, Bool.false_eq_true] at c1 ⊢
    (have hg : (987654321 : Nat) - 987654321 = 0 := rfl; have hr := hg; repeat' (first | refine aw_seq ?_ | (refine aw_skip ?_; with_reducible repeat' (first | refine thenQ_n ?_ | refine blockQ_n ?_ | refine thenQ_e ?_ | refine blockQ_t ?_ | refine blockQ_f (by decide) ?_)) | (refine aw_exit ?_; with_reducible repeat' (first | refine thenQ_n ?_ | refine blockQ_n ?_ | refine thenQ_e ?_ | refine blockQ_t ?_ | refine blockQ_f (by decide) ?_)) | refine aw_ret ?_ | refine aw_block ?_ | refine aw_condT rfl ?_ | refine aw_condF rfl ?_ | (refine aw_cond rfl (fun hg => ?_) (fun hg => ?_) <;> (try (have hq := hg; simp only [Bool.not_eq_true', Bool.not_eq_false', Bool.and_eq_true, Bool.and_eq_false_iff, Bool.or_eq_true, Bool.or_eq_false_iff, decide_eq_true_eq, decide_eq_false_iff_not, bne_iff_ne, beq_iff_eq, beq_eq_false_iff_ne, bne_eq_false_iff_eq, ne_eq, Int.not_lt, Int.not_le, Decidable.not_not] at hq)) <;> (try (have hr := hg; simp only [decide_eq_true_eq, decide_eq_false_iff_not] at hr)) <;> (try (exfalso; omega))) | (refine ag_bool (fun hg => ?_) (fun hg => ?_) <;> (try (have hq := hg; simp only [Bool.not_eq_true', Bool.not_eq_false', Bool.and_eq_true, Bool.and_eq_false_iff, Bool.or_eq_true, Bool.or_eq_false_iff, decide_eq_true_eq, decide_eq_false_iff_not, bne_iff_ne, beq_iff_eq, beq_eq_false_iff_ne, bne_eq_false_iff_eq, ne_eq, Int.not_lt, Int.not_le, Decidable.not_not] at hq)) <;> (try (have hr := hg; simp only [decide_eq_true_eq, decide_eq_false_iff_not] at hr)) <;> (try (exfalso; omega)) <;> simp (config := {maxSteps := 10000000}) (disch := first | exact okYes (by kernel_rfl) | omega) only [ARun_nil, ARun_none, ARun_some, ARun_skip, AOpRun, AGo_f, AGo_ok, AG_tt, AG_ff, AG_tf, AG_ft, AG_un, aexec, run1, asI, elems, base, opt1, fillD, splice, abin, ash, isSh, foldI, mn2, mx2, ↓eget_h, eget_c, eget_n, eput_c, eput_n, putO, ↓hget_h, hget_c, hget_n, hput_c, hput_n, hdel_c, hdel_n, hups, cond_true, cond_false,  ups, St.F, St.app, FSt.ev, dropE_c, dropE_n, inL_c, inL_n, envOf, thenQ, blockQ, D.isBot, D.isAgg, D.cells, D.leaf, scalarEq, eqCells, isB, Option.map, List.map, List.length, List.all, List.append, List.take, List.drop, List.cons_append, List.nil_append, List.append_nil, Option.isSome, List.getElem?_cons_zero, List.getElem?_cons_succ, if_true, if_false, true_and, and_true, Bool.not_true, Bool.not_false, Bool.true_or, Bool.false_or, Bool.or_true, Bool.or_false, Bool.false_eq_true, ↓reduceIte, Nat.reduceAdd, Nat.reduceMul, Nat.reduceEqDiff, Nat.reduceBEq, Nat.reduceSub, Nat.zero_add, Nat.reduceLeDiff, Nat.reduceGT, Nat.reduceLT, Nat.reduceBNe, okLog_f, reduceCtorEq, or_self, or_false, false_or, or_true, true_or, and_self, and_false, false_and, not_true_eq_false, not_false_eq_true, ne_eq, Bool.and_true, Bool.true_and, Bool.and_false, Bool.false_and, decide_eq_true_eq, decide_true, decide_false, Int.reduceBEq, Int.reduceBNe, Int.reduceLT, Int.reduceLE, Int.reduceAdd, Int.reduceSub, Int.reduceMul, Int.reduceNeg, Int.reduceEq, Int.toNat_zero, Int.reduceToNat, Int.zero_lt_one, Nat.zero_le, Int.le_refl, beq_self_eq_true, bne_self_eq_false, cast_lit, fits, wrap_in, Int.toNat_natCast, Int.natCast_nonneg, dI, dB, hg, hr]) | ((first | refine aw_hide fun K hK => aw_region ?_ | refine acall0 (c1) ?_ | refine acall0 (c2) ?_ | refine ago_if (by omega) ?_ | skip); simp (config := {maxSteps := 10000000}) (disch := first | exact okYes (by kernel_rfl) | omega) only [ARun_nil, ARun_none, ARun_some, ARun_skip, AOpRun, AGo_f, AGo_ok, AG_tt, AG_ff, AG_tf, AG_ft, AG_un, aexec, run1, asI, elems, base, opt1, fillD, splice, abin, ash, isSh, foldI, mn2, mx2, ↓eget_h, eget_c, eget_n, eput_c, eput_n, putO, ↓hget_h, hget_c, hget_n, hput_c, hput_n, hdel_c, hdel_n, hups, cond_true, cond_false,  ups, St.F, St.app, FSt.ev, dropE_c, dropE_n, inL_c, inL_n, envOf, thenQ, blockQ, D.isBot, D.isAgg, D.cells, D.leaf, scalarEq, eqCells, isB, Option.map, List.map, List.length, List.all, List.append, List.take, List.drop, List.cons_append, List.nil_append, List.append_nil, Option.isSome, List.getElem?_cons_zero, List.getElem?_cons_succ, if_true, if_false, true_and, and_true, Bool.not_true, Bool.not_false, Bool.true_or, Bool.false_or, Bool.or_true, Bool.or_false, Bool.false_eq_true, ↓reduceIte, Nat.reduceAdd, Nat.reduceMul, Nat.reduceEqDiff, Nat.reduceBEq, Nat.reduceSub, Nat.zero_add, Nat.reduceLeDiff, Nat.reduceGT, Nat.reduceLT, Nat.reduceBNe, okLog_f, reduceCtorEq, or_self, or_false, false_or, or_true, true_or, and_self, and_false, false_and, not_true_eq_false, not_false_eq_true, ne_eq, Bool.and_true, Bool.true_and, Bool.and_false, Bool.false_and, decide_eq_true_eq, decide_true, decide_false, Int.reduceBEq, Int.reduceBNe, Int.reduceLT, Int.reduceLE, Int.reduceAdd, Int.reduceSub, Int.reduceMul, Int.reduceNeg, Int.reduceEq, Int.toNat_zero, Int.reduceToNat, Int.zero_lt_one, Nat.zero_le, Int.le_refl, beq_self_eq_true, bne_self_eq_false, cast_lit, fits, wrap_in, Int.toNat_natCast, Int.natCast_nonneg, dI, dB, hg, hr]) | (subst hK; with_reducible repeat' (first | refine thenQ_n ?_ | refine blockQ_n ?_ | refine thenQ_e ?_ | refine blockQ_t ?_ | refine blockQ_f (by decide) ?_))))
    all_goals (refine end_to [] [] (by first | exact .inl rfl | exact .inr rfl) rfl (by kernel_rfl) (by kernel_rfl) (by kernel_rfl) ?_ ?_ <;> repeat' (first | exact trivial | exact vr_val _ | exact vr_list _ | exact vr_at _ | exact vr_nil | exact vr_cap0 | exact vr_vec _ _ _ _ rfl | exact vr_own _ _ _ _ _ rfl | exact vr_ptr _ _ _ rfl | exact vr_nilv _ _ _ rfl | exact vr_bot _ | exact vr_cap0v _ _ _ rfl | exact vr_cap0l | apply vr_agg | apply vr_tup | apply vr_fn | refine vr_yld _ _ _ rfl ?_ | exact Ren.bot _ | exact Ren.val _ | exact Ren.list _ | exact Ren.at_ _ | exact Ren.ptr _ _ _ rfl | refine Ren.yld _ _ _ _ _ rfl rfl (RenL.get ?_).2 (fun _ _ _ h => h) | refine vr_fl _ _ _ _ _ (by decide) rfl ?_ ?_ ?_ ?_ | refine And.intro ⟨_, rfl, .inl ⟨_, rfl, by decide, ?_⟩⟩ ?_ | refine And.intro ⟨_, rfl, _, rfl, by decide, ?_⟩ ?_ | refine And.intro ⟨_, rfl, .inr ⟨rfl, rfl, of_decide_eq_true (by kernel_rfl)⟩⟩ ?_ | apply And.intro | refine vr_valq ?_ | refine vr_listq ?_ | exact vrl_flat _ (by first | exact icells_in _ | exact rcells_in _ | exact scells_in _ | exact bcells_in _ | assumption)))
end Go.Proofs.Ytgibbaadjbohdaa
/- At each point of a box the value of a table lies between the ends of its bound. In numbers; no conditions. -/
namespace Go.Proofs.Ytgibbaadjbohdaa

def flo (xs ys : List Int) (vs : List (List Int)) (x y : Int) : Int := atN xs ys vs x y / atD xs ys x y
def cei (xs ys : List Int) (vs : List (List Int)) (x y : Int) : Int := -(-(atN xs ys vs x y) / atD xs ys x y)
theorem Axis.cell_or {l : List Int} (h : Axis l) {x : Int} {i : Nat} (hi : i + 2 ≤ l.length) (h1 : l[i]?.getD 0 ≤ x) (h2 : x ≤ l[i+1]?.getD 0) : cellI l x = i ∨ (i = cellI l x + 1 ∧ x = l[i]?.getD 0) := by
  by_cases hc : 0 < i → l[i]?.getD 0 < x
  · exact .inl (h.cellI_eq ⟨hi, hc, fun _ => h2⟩)
  · have hpos : 0 < i := by
      rcases Nat.eq_zero_or_pos i with h0 | h0
      · exact absurd (fun hh => by omega) hc
      · exact h0
    have hx : x = l[i]?.getD 0 := by
      by_cases hlt : l[i]?.getD 0 < x
      · exact absurd (fun _ => hlt) hc
      · omega
    obtain ⟨j, rfl⟩ := Nat.exists_eq_succ_of_ne_zero (by omega : i ≠ 0)
    refine .inr ⟨?_, hx⟩
    have := h.cellI_eq (x := x) (i := j) ⟨by omega, fun _ => by have := h.gap j (by omega); simp only [Nat.succ_eq_add_one] at hx; omega, fun _ => by simp only [Nat.succ_eq_add_one] at hx; omega⟩
    rw [this]
def nX (xs ys : List Int) (vs : List (List Int)) (i k : Nat) (x y : Int) : Int := numF (xs[i+1]?.getD 0 - x) (x - xs[i]?.getD 0) (ys[k+1]?.getD 0 - y) (y - ys[k]?.getD 0)
    ((vs[i]?.getD [])[k]?.getD 0) ((vs[i+1]?.getD [])[k]?.getD 0) ((vs[i]?.getD [])[k+1]?.getD 0) ((vs[i+1]?.getD [])[k+1]?.getD 0)
def dX (xs ys : List Int) (i k : Nat) : Int := (xs[i+1]?.getD 0 - xs[i]?.getD 0) * (ys[k+1]?.getD 0 - ys[k]?.getD 0)
theorem dX_pos {xs ys : List Int} (hx : Axis xs) (hy : Axis ys) {i k : Nat} (hi : i + 2 ≤ xs.length) (hk : k + 2 ≤ ys.length) : 1 ≤ dX xs ys i k := by
  have h1 := hx.gap i (by omega)
  have h2 := hy.gap k (by omega)
  unfold dX
  have := Int.mul_le_mul h1.1 h2.1 (by omega) (by omega)
  omega
/-- the value by whatever part of the axes that the point lies on -/
theorem val_any {xs ys : List Int} {vs : List (List Int)} (hT : Tbl xs ys vs) {x y : Int} {i k : Nat} (hi : i + 2 ≤ xs.length) (hk : k + 2 ≤ ys.length) (x1 : xs[i]?.getD 0 ≤ x) (x2 : x ≤ xs[i+1]?.getD 0) (y1 : ys[k]?.getD 0 ≤ y) (y2 : y ≤ ys[k+1]?.getD 0) :
    atN xs ys vs x y * dX xs ys i k = nX xs ys vs i k x y * atD xs ys x y := by
  have hx := hT.ax.cell_or hi x1 x2
  have hy := hT.ay.cell_or hk y1 y2
  unfold atN atD nX dX numF denF
  simp only
  clear x1 x2 y1 y2
  generalize cellI xs x = i' at *
  generalize cellI ys y = k' at *
  rcases hx with rfl | ⟨rfl, hx2⟩ <;> rcases hy with rfl | ⟨rfl, hy2⟩
  · grind
  · generalize xs[i']?.getD 0 = x0 at *
    generalize xs[i'+1]?.getD 0 = x1 at *
    generalize ys[k']?.getD 0 = y0 at *
    generalize ys[k'+1]?.getD 0 = y1 at *
    generalize ys[k'+1+1]?.getD 0 = y2 at *
    subst hy2
    grind
  · generalize xs[i']?.getD 0 = x0 at *
    generalize xs[i'+1]?.getD 0 = x1 at *
    generalize xs[i'+1+1]?.getD 0 = x2 at *
    generalize ys[k']?.getD 0 = y0 at *
    generalize ys[k'+1]?.getD 0 = y1 at *
    subst hx2
    grind
  · generalize xs[i']?.getD 0 = x0 at *
    generalize xs[i'+1]?.getD 0 = x1 at *
    generalize xs[i'+1+1]?.getD 0 = x2 at *
    generalize ys[k']?.getD 0 = y0 at *
    generalize ys[k'+1]?.getD 0 = y1 at *
    generalize ys[k'+1+1]?.getD 0 = y2 at *
    subst hx2 hy2
    grind
/-- neighbours among the stops of a span -/
theorem stops_near {l : List Int} (h : Axis l) {lo hi x : Int} (h1 : l[0]?.getD 0 ≤ lo) (h2 : hi ≤ l[l.length-1]?.getD 0) (h3 : lo ≤ x) (h4 : x ≤ hi) :
    ∃ (i : Nat) (x1 x2 : Int), i + 2 ≤ l.length ∧ x1 ∈ stopsL l lo hi ∧ x2 ∈ stopsL l lo hi ∧ l[i]?.getD 0 ≤ x1 ∧ x1 ≤ x ∧ x ≤ x2 ∧ x2 ≤ l[i+1]?.getD 0 := by
  obtain ⟨c1, c2, c3⟩ := h.cellI_at x
  generalize cellI l x = i at *
  have a1 : l[i]?.getD 0 ≤ x := by
    rcases Nat.eq_zero_or_pos i with h0 | h0
    · subst h0; omega
    · have := c2 h0; omega
  have a2 : x ≤ l[i+1]?.getD 0 := by
    by_cases hlt : i + 2 < l.length
    · exact c3 hlt
    · have : l.length - 1 = i + 1 := by omega
      rw [this] at h2; omega
  have m1 : l[i]?.getD 0 ∈ l := by simp [show i < l.length by omega]
  have m2 : l[i+1]?.getD 0 ∈ l := by simp [show i + 1 < l.length by omega]
  have hmem : ∀ z, z = lo ∨ (z ∈ l ∧ lo < z ∧ z < hi) ∨ (lo < hi ∧ z = hi) → z ∈ stopsL l lo hi := by
    intro z hz
    unfold stopsL midL
    simp only [List.cons_append, List.mem_cons, List.mem_append, List.mem_filter, Bool.and_eq_true, decide_eq_true_eq]
    rcases hz with hz | ⟨hz1, hz2, hz3⟩ | ⟨hz1, hz2⟩
    · exact .inl hz
    · exact .inr (.inl ⟨hz1, hz2, hz3⟩)
    · exact .inr (.inr (by rw [if_pos hz1]; simp [hz2]))
  refine ⟨i, max lo (l[i]?.getD 0), min hi (l[i+1]?.getD 0), c1, ?_, ?_, by omega, by omega, by omega, by omega⟩
  · by_cases q1 : l[i]?.getD 0 ≤ lo
    · exact hmem _ (.inl (by omega))
    · by_cases q2 : l[i]?.getD 0 < hi
      · have e : max lo (l[i]?.getD 0) = l[i]?.getD 0 := by omega
        rw [e]; exact hmem _ (.inr (.inl ⟨m1, by omega, q2⟩))
      · exact hmem _ (.inr (.inr ⟨by omega, by omega⟩))
  · by_cases q1 : hi ≤ l[i+1]?.getD 0
    · by_cases q2 : lo < hi
      · exact hmem _ (.inr (.inr ⟨q2, by omega⟩))
      · exact hmem _ (.inl (by omega))
    · by_cases q2 : lo < l[i+1]?.getD 0
      · have e : min hi (l[i+1]?.getD 0) = l[i+1]?.getD 0 := by omega
        rw [e]; exact hmem _ (.inr (.inl ⟨m2, q2, by omega⟩))
      · exact hmem _ (.inl (by omega))
/-- linear between two points: between the two values -/
theorem lin {P Q b a x1 x x2 : Int} (h1 : x1 ≤ x) (h2 : x ≤ x2) :
    ((b - x1) * P + (x1 - a) * Q ≤ (b - x) * P + (x - a) * Q ∧ (b - x) * P + (x - a) * Q ≤ (b - x2) * P + (x2 - a) * Q) ∨
    ((b - x2) * P + (x2 - a) * Q ≤ (b - x) * P + (x - a) * Q ∧ (b - x) * P + (x - a) * Q ≤ (b - x1) * P + (x1 - a) * Q) := by
  have e1 : ((b - x) * P + (x - a) * Q) - ((b - x1) * P + (x1 - a) * Q) = (x - x1) * (Q - P) := by grind
  have e2 : ((b - x2) * P + (x2 - a) * Q) - ((b - x) * P + (x - a) * Q) = (x2 - x) * (Q - P) := by grind
  by_cases hq : 0 ≤ Q - P
  · have p1 := Int.mul_nonneg (by omega : 0 ≤ x - x1) hq
    have p2 := Int.mul_nonneg (by omega : 0 ≤ x2 - x) hq
    exact .inl ⟨by omega, by omega⟩
  · have p1 := Int.mul_nonneg (by omega : 0 ≤ x - x1) (by omega : 0 ≤ -(Q - P))
    have p2 := Int.mul_nonneg (by omega : 0 ≤ x2 - x) (by omega : 0 ≤ -(Q - P))
    rw [Int.mul_neg] at p1 p2
    exact .inr ⟨by omega, by omega⟩
theorem fc_mono {n m D : Int} (hD : 1 ≤ D) (h : n ≤ m) : n / D ≤ m / D ∧ -(-n / D) ≤ -(-m / D) := by
  have h1 := Int.ediv_le_ediv (by omega : 0 < D) h
  have h2 := Int.ediv_le_ediv (by omega : 0 < D) (by omega : -m ≤ -n)
  exact ⟨h1, by omega⟩
theorem fc_eq {xs ys : List Int} {vs : List (List Int)} (hT : Tbl xs ys vs) {x y : Int} {i k : Nat} (hx : OnAx xs x) (hy : OnAx ys y) (hi : i + 2 ≤ xs.length) (hk : k + 2 ≤ ys.length) (x1 : xs[i]?.getD 0 ≤ x) (x2 : x ≤ xs[i+1]?.getD 0) (y1 : ys[k]?.getD 0 ≤ y) (y2 : y ≤ ys[k+1]?.getD 0) :
    flo xs ys vs x y = nX xs ys vs i k x y / dX xs ys i k ∧ cei xs ys vs x y = -(-(nX xs ys vs i k x y) / dX xs ys i k) := by
  have hv := val_any hT hi hk x1 x2 y1 y2
  have hb := at_bd hT hx hy
  have hd := dX_pos hT.ax hT.ay hi hk
  exact ⟨floor_cross hb.1 hd hv, ceil_cross hb.1 hd hv⟩
theorem onAx_in {l : List Int} (h : Axis l) {i : Nat} (hi : i + 2 ≤ l.length) {x : Int} (h1 : l[i]?.getD 0 ≤ x) (h2 : x ≤ l[i+1]?.getD 0) : OnAx l x :=
  ⟨by have := h.mono 0 i (by omega) (by omega); omega, by have := h.mono (i + 1) (l.length - 1) (by omega) (by omega); omega⟩
/-- a value lies between those at four stops around it -/
theorem inside {xs ys : List Int} {vs : List (List Int)} (hT : Tbl xs ys vs) {X Y : Int × Int} {x y L H : Int} (a1 : xs[0]?.getD 0 ≤ X.1) (a2 : X.2 ≤ xs[xs.length-1]?.getD 0) (a3 : X.1 ≤ x) (a4 : x ≤ X.2) (b1 : ys[0]?.getD 0 ≤ Y.1) (b2 : Y.2 ≤ ys[ys.length-1]?.getD 0) (b3 : Y.1 ≤ y) (b4 : y ≤ Y.2)
    (hall : ∀ u ∈ stopsL xs X.1 X.2, ∀ v ∈ stopsL ys Y.1 Y.2, L ≤ flo xs ys vs u v ∧ cei xs ys vs u v ≤ H) : L ≤ flo xs ys vs x y ∧ cei xs ys vs x y ≤ H := by
  obtain ⟨i, x1, x2, hi, hx1, hx2, c1, c2, c3, c4⟩ := stops_near hT.ax a1 a2 a3 a4
  obtain ⟨k, y1, y2, hk, hy1, hy2, d1, d2, d3, d4⟩ := stops_near hT.ay b1 b2 b3 b4
  have hD := dX_pos hT.ax hT.ay hi hk
  have val : ∀ u v, xs[i]?.getD 0 ≤ u → u ≤ xs[i+1]?.getD 0 → ys[k]?.getD 0 ≤ v → v ≤ ys[k+1]?.getD 0 → flo xs ys vs u v = nX xs ys vs i k u v / dX xs ys i k ∧ cei xs ys vs u v = -(-(nX xs ys vs i k u v) / dX xs ys i k) :=
    fun u v p1 p2 p3 p4 => fc_eq hT (onAx_in hT.ax hi p1 p2) (onAx_in hT.ay hk p3 p4) hi hk p1 p2 p3 p4
  have hx : ∀ v, (nX xs ys vs i k x1 v ≤ nX xs ys vs i k x v ∧ nX xs ys vs i k x v ≤ nX xs ys vs i k x2 v) ∨ (nX xs ys vs i k x2 v ≤ nX xs ys vs i k x v ∧ nX xs ys vs i k x v ≤ nX xs ys vs i k x1 v) := fun v => by
    have e : ∀ z, nX xs ys vs i k z v = (xs[i+1]?.getD 0 - z) * ((ys[k+1]?.getD 0 - v) * ((vs[i]?.getD [])[k]?.getD 0) + (v - ys[k]?.getD 0) * ((vs[i]?.getD [])[k+1]?.getD 0)) + (z - xs[i]?.getD 0) * ((ys[k+1]?.getD 0 - v) * ((vs[i+1]?.getD [])[k]?.getD 0) + (v - ys[k]?.getD 0) * ((vs[i+1]?.getD [])[k+1]?.getD 0)) := fun z => by
      unfold nX numF; grind
    rw [e, e, e]
    exact lin c2 c3
  have hy : ∀ u, (nX xs ys vs i k u y1 ≤ nX xs ys vs i k u y ∧ nX xs ys vs i k u y ≤ nX xs ys vs i k u y2) ∨ (nX xs ys vs i k u y2 ≤ nX xs ys vs i k u y ∧ nX xs ys vs i k u y ≤ nX xs ys vs i k u y1) := fun u => by
    have e : ∀ z, nX xs ys vs i k u z = (ys[k+1]?.getD 0 - z) * ((xs[i+1]?.getD 0 - u) * ((vs[i]?.getD [])[k]?.getD 0) + (u - xs[i]?.getD 0) * ((vs[i+1]?.getD [])[k]?.getD 0)) + (z - ys[k]?.getD 0) * ((xs[i+1]?.getD 0 - u) * ((vs[i]?.getD [])[k+1]?.getD 0) + (u - xs[i]?.getD 0) * ((vs[i+1]?.getD [])[k+1]?.getD 0)) := fun z => by
      unfold nX numF; grind
    rw [e, e, e]
    exact lin d2 d3
  have at4 : ∀ u v, u ∈ stopsL xs X.1 X.2 → v ∈ stopsL ys Y.1 Y.2 → xs[i]?.getD 0 ≤ u → u ≤ xs[i+1]?.getD 0 → ys[k]?.getD 0 ≤ v → v ≤ ys[k+1]?.getD 0 → L ≤ nX xs ys vs i k u v / dX xs ys i k ∧ -(-(nX xs ys vs i k u v) / dX xs ys i k) ≤ H := fun u v hu hv p1 p2 p3 p4 => by
    have := hall u hu v hv
    rwa [(val u v p1 p2 p3 p4).1, (val u v p1 p2 p3 p4).2] at this
  have row : ∀ u, u ∈ stopsL xs X.1 X.2 → xs[i]?.getD 0 ≤ u → u ≤ xs[i+1]?.getD 0 → L ≤ nX xs ys vs i k u y / dX xs ys i k ∧ -(-(nX xs ys vs i k u y) / dX xs ys i k) ≤ H := fun u hu p1 p2 => by
    have q1 := at4 u y1 hu hy1 p1 p2 d1 (by omega)
    have q2 := at4 u y2 hu hy2 p1 p2 (by omega) d4
    rcases hy u with ⟨r1, r2⟩ | ⟨r1, r2⟩
    · have s1 := fc_mono hD r1; have s2 := fc_mono hD r2; omega
    · have s1 := fc_mono hD r1; have s2 := fc_mono hD r2; omega
  rw [(val x y (by omega) (by omega) (by omega) (by omega)).1, (val x y (by omega) (by omega) (by omega) (by omega)).2]
  have q1 := row x1 hx1 c1 (by omega)
  have q2 := row x2 hx2 (by omega) c4
  rcases hx y with ⟨r1, r2⟩ | ⟨r1, r2⟩
  · have s1 := fc_mono hD r1; have s2 := fc_mono hD r2; omega
  · have s1 := fc_mono hD r1; have s2 := fc_mono hD r2; omega
end Go.Proofs.Ytgibbaadjbohdaa
/- The ends of a bound: no value at a point of the box is beyond them, and each is one. In numbers; no conditions. -/
namespace Go.Proofs.Ytgibbaadjbohdaa

theorem stepE_low (l p : Pt) : (if cmpV p.n p.d l.n l.d < 0 then p else l).n / (if cmpV p.n p.d l.n l.d < 0 then p else l).d ≤ l.n / l.d ∧ (if cmpV p.n p.d l.n l.d < 0 then p else l).n / (if cmpV p.n p.d l.n l.d < 0 then p else l).d ≤ p.n / p.d := by
  rw [← step_low l p, mn_eq]; omega
theorem stepE_top (m p : Pt) : -(-m.n / m.d) ≤ -(-(if 0 < cmpV p.n p.d m.n m.d then p else m).n / (if 0 < cmpV p.n p.d m.n m.d then p else m).d) ∧ -(-p.n / p.d) ≤ -(-(if 0 < cmpV p.n p.d m.n m.d then p else m).n / (if 0 < cmpV p.n p.d m.n m.d then p else m).d) := by
  rw [← step_top m p, mx_eq]; omega
theorem fold_ext : ∀ (ps : List Pt) (l0 m0 l m : Pt), ps.foldl stepE (some (l0, m0)) = some (l, m) →
    (l = l0 ∨ l ∈ ps) ∧ (m = m0 ∨ m ∈ ps) ∧ l.n / l.d ≤ l0.n / l0.d ∧ -(-m0.n / m0.d) ≤ -(-m.n / m.d) ∧ ∀ p ∈ ps, l.n / l.d ≤ p.n / p.d ∧ -(-p.n / p.d) ≤ -(-m.n / m.d)
  | [], l0, m0, l, m, h => by
    simp only [List.foldl_nil, Option.some.injEq, Prod.mk.injEq] at h
    obtain ⟨rfl, rfl⟩ := h
    exact ⟨.inl rfl, .inl rfl, by omega, by omega, by simp⟩
  | q :: ps, l0, m0, l, m, h => by
    rw [List.foldl_cons, stepE_some] at h
    obtain ⟨h1, h2, h3, h4, h5⟩ := fold_ext ps _ _ l m h
    have a := stepE_low l0 q
    have b := stepE_top m0 q
    refine ⟨?_, ?_, by omega, by omega, fun p hp => ?_⟩
    · rcases h1 with h1 | h1
      · by_cases c : cmpV q.n q.d l0.n l0.d < 0
        · rw [if_pos c] at h1; exact .inr (h1 ▸ List.mem_cons_self ..)
        · rw [if_neg c] at h1; exact .inl h1
      · exact .inr (List.mem_cons_of_mem _ h1)
    · rcases h2 with h2 | h2
      · by_cases c : 0 < cmpV q.n q.d m0.n m0.d
        · rw [if_pos c] at h2; exact .inr (h2 ▸ List.mem_cons_self ..)
        · rw [if_neg c] at h2; exact .inl h2
      · exact .inr (List.mem_cons_of_mem _ h2)
    · rcases List.mem_cons.1 hp with rfl | hp
      · exact ⟨by omega, by omega⟩
      · exact h5 p hp
theorem extr_is {ps : List Pt} {l m : Pt} (h : extrE ps = some (l, m)) : l ∈ ps ∧ m ∈ ps ∧ ∀ p ∈ ps, l.n / l.d ≤ p.n / p.d ∧ -(-p.n / p.d) ≤ -(-m.n / m.d) := by
  cases ps with
  | nil => simp [extrE] at h
  | cons q ps =>
    have h' : ps.foldl stepE (some (q, q)) = some (l, m) := h
    obtain ⟨h1, h2, h3, h4, h5⟩ := fold_ext ps q q l m h'
    refine ⟨?_, ?_, fun p hp => ?_⟩
    · rcases h1 with rfl | h1
      · exact List.mem_cons_self ..
      · exact List.mem_cons_of_mem _ h1
    · rcases h2 with rfl | h2
      · exact List.mem_cons_self ..
      · exact List.mem_cons_of_mem _ h2
    · rcases List.mem_cons.1 hp with rfl | hp
      · exact ⟨h3, h4⟩
      · exact h5 p hp
theorem pts_mem {xs ys : List Int} {vs : List (List Int)} {x y : Int × Int} {p : Pt} : p ∈ pts xs ys vs x y ↔ ∃ u ∈ stopsL xs x.1 x.2, ∃ v ∈ stopsL ys y.1 y.2, p = ptAt xs ys vs u v := by
  unfold pts allPts rowPts
  simp only [List.mem_flatMap, List.mem_map]
  constructor
  · rintro ⟨u, hu, v, hv, rfl⟩; exact ⟨u, hu, v, hv, rfl⟩
  · rintro ⟨u, hu, v, hv, rfl⟩; exact ⟨u, hu, v, hv, rfl⟩
theorem stops_in {l : List Int} {lo hi x : Int} (h : lo ≤ hi) (hx : x ∈ stopsL l lo hi) : lo ≤ x ∧ x ≤ hi := by
  unfold stopsL midL at hx
  simp only [List.cons_append, List.mem_cons, List.mem_append, List.mem_filter, Bool.and_eq_true, decide_eq_true_eq] at hx
  rcases hx with rfl | ⟨_, h3, h4⟩ | h5
  · exact ⟨by omega, h⟩
  · omega
  · split at h5
    · simp at h5; omega
    · simp at h5
/-- what a bound is -/
structure BndIs (xs ys : List Int) (vs : List (List Int)) (x y b : Int × Int) : Prop where
  all : ∀ u v, x.1 ≤ u → u ≤ x.2 → y.1 ≤ v → v ≤ y.2 → b.1 ≤ flo xs ys vs u v ∧ cei xs ys vs u v ≤ b.2
  low : ∃ u v, x.1 ≤ u ∧ u ≤ x.2 ∧ y.1 ≤ v ∧ v ≤ y.2 ∧ flo xs ys vs u v = b.1
  top : cei xs ys vs (wst xs ys vs x y).1 (wst xs ys vs x y).2 = b.2 ∧ x.1 ≤ (wst xs ys vs x y).1 ∧ (wst xs ys vs x y).1 ≤ x.2 ∧ y.1 ≤ (wst xs ys vs x y).2 ∧ (wst xs ys vs x y).2 ≤ y.2
theorem bnd_is {xs ys : List Int} {vs : List (List Int)} {x y : Int × Int} (hO : OnT xs ys vs x y) : BndIs xs ys vs x y (bnd xs ys vs x y) := by
  obtain ⟨l, m, hlm⟩ := extrE_ne (pts xs ys vs x y) (allPts_ne xs ys vs x.1 x.2 y.1 y.2)
  obtain ⟨h1, h2, h3⟩ := extr_is hlm
  rw [bnd_eq hlm]
  have val : ∀ u v, u ∈ stopsL xs x.1 x.2 → v ∈ stopsL ys y.1 y.2 → flo xs ys vs u v = (ptAt xs ys vs u v).n / (ptAt xs ys vs u v).d ∧ cei xs ys vs u v = -(-(ptAt xs ys vs u v).n / (ptAt xs ys vs u v).d) ∧ (ptAt xs ys vs u v).x = u ∧ (ptAt xs ys vs u v).y = v := fun u v hu hv => by
    obtain ⟨e1, e2, e3, e4⟩ := ptAt_is (vs := vs) hO.t (OnAx_stops hO.x1 hO.x2 hO.x3 hu) (OnAx_stops hO.y1 hO.y2 hO.y3 hv)
    rw [e1, e2]
    exact ⟨rfl, rfl, e3, e4⟩
  refine ⟨fun u v u1 u2 v1 v2 => ?_, ?_, ?_⟩
  · refine inside hO.t hO.x1 hO.x2 u1 u2 hO.y1 hO.y2 v1 v2 fun a ha b hb => ?_
    obtain ⟨e1, e2, _, _⟩ := val a b ha hb
    rw [e1, e2]
    exact h3 _ (pts_mem.2 ⟨a, ha, b, hb, rfl⟩)
  · obtain ⟨a, ha, b, hb, rfl⟩ := pts_mem.1 h1
    obtain ⟨e1, e2, _, _⟩ := val a b ha hb
    exact ⟨a, b, (stops_in hO.x3 ha).1, (stops_in hO.x3 ha).2, (stops_in hO.y3 hb).1, (stops_in hO.y3 hb).2, e1⟩
  · rw [wst_eq hlm]
    obtain ⟨a, ha, b, hb, rfl⟩ := pts_mem.1 h2
    obtain ⟨e1, e2, e3, e4⟩ := val a b ha hb
    simp only [e3, e4]
    exact ⟨e2, (stops_in hO.x3 ha).1, (stops_in hO.x3 ha).2, (stops_in hO.y3 hb).1, (stops_in hO.y3 hb).2⟩
/-- a part of the box has no wider bound -/
theorem bnd_part {xs ys : List Int} {vs : List (List Int)} {x y x' y' : Int × Int} (hO : OnT xs ys vs x y) (hx1 : x.1 ≤ x'.1) (hx2 : x'.2 ≤ x.2) (hx3 : x'.1 ≤ x'.2) (hy1 : y.1 ≤ y'.1) (hy2 : y'.2 ≤ y.2) (hy3 : y'.1 ≤ y'.2) :
    (bnd xs ys vs x y).1 ≤ (bnd xs ys vs x' y').1 ∧ (bnd xs ys vs x' y').2 ≤ (bnd xs ys vs x y).2 := by
  have hO' : OnT xs ys vs x' y' := ⟨hO.t, by have := hO.x1; omega, by have := hO.x2; omega, hx3, by have := hO.y1; omega, by have := hO.y2; omega, hy3⟩
  have b := bnd_is hO
  have b' := bnd_is hO'
  obtain ⟨u, v, u1, u2, v1, v2, e⟩ := b'.low
  obtain ⟨e2, w1, w2, w3, w4⟩ := b'.top
  have p := (b.all u v (by omega) (by omega) (by omega) (by omega)).1
  have q := (b.all _ _ (by omega : x.1 ≤ (wst xs ys vs x' y').1) (by omega) (by omega : y.1 ≤ (wst xs ys vs x' y').2) (by omega)).2
  rw [e] at p
  rw [e2] at q
  exact ⟨p, q⟩
end Go.Proofs.Ytgibbaadjbohdaa
/- Less air, less fuel: the law in numbers. No conditions. -/
namespace Go.Proofs.Ytgibbaadjbohdaa

theorem at_nn {xs ys : List Int} {vs : List (List Int)} {x y : Int} (hT : Tbl xs ys vs) (hx : OnAx xs x) (hy : OnAx ys y) (h0 : ∀ i k : Nat, 0 ≤ (vs[i]?.getD [])[k]?.getD 0) : 0 ≤ atN xs ys vs x y := by
  have q1 := hT.ax.cell_on hx
  have q2 := hT.ay.cell_on hy
  unfold atN
  generalize cellI xs x = i at *
  generalize cellI ys y = k at *
  have b00 := h0 i k
  have b01 := h0 i (k+1)
  have b10 := h0 (i+1) k
  have b11 := h0 (i+1) (k+1)
  simp only
  obtain ⟨hi, hx0, hx1, hgx, hgx'⟩ := q1
  obtain ⟨hk, hy0, hy1, hgy, hgy'⟩ := q2
  generalize xs[i]?.getD 0 = x0 at *
  generalize xs[i+1]?.getD 0 = x1 at *
  generalize ys[k]?.getD 0 = y0 at *
  generalize ys[k+1]?.getD 0 = y1 at *
  generalize (vs[i]?.getD [])[k]?.getD 0 = z00 at *
  generalize (vs[i]?.getD [])[k+1]?.getD 0 = z01 at *
  generalize (vs[i+1]?.getD [])[k]?.getD 0 = z10 at *
  generalize (vs[i+1]?.getD [])[k+1]?.getD 0 = z11 at *
  have s1 := Int.mul_nonneg (Int.mul_nonneg (show 0 ≤ x1 - x by omega) (show 0 ≤ y1 - y by omega)) b00
  have s2 := Int.mul_nonneg (Int.mul_nonneg (show 0 ≤ x - x0 by omega) (show 0 ≤ y1 - y by omega)) b10
  have s3 := Int.mul_nonneg (Int.mul_nonneg (show 0 ≤ x1 - x by omega) (show 0 ≤ y - y0 by omega)) b01
  have s4 := Int.mul_nonneg (Int.mul_nonneg (show 0 ≤ x - x0 by omega) (show 0 ≤ y - y0 by omega)) b11
  unfold numF
  omega
theorem flo_cei {n d : Int} (h : 1 ≤ d) : n / d ≤ -(-n / d) := by
  have h1 := Int.ediv_mul_le n (b := d) (by omega)
  have h2 : -n / d ≤ -(n / d) := Int.ediv_le_of_le_mul (by omega) (by rw [Int.neg_mul]; omega)
  omega
theorem lyB_on {t : Tb} {x y : Int × Int} (ht : Tbl t.x t.y t.v) (hx : x.1 ≤ x.2) (hy : y.1 ≤ y.2) (hl : lyB t x y = true) : OnT t.x t.y t.v x y := by
  unfold lyB at hl
  simp only [Bool.and_eq_true, decide_eq_true_eq] at hl
  exact ⟨ht, hl.1, hl.2.1, hx, hl.2.2.1, hl.2.2.2, hy⟩
theorem spVB_t {x : Int × Int} (h : spVB x = true) : -1000000 ≤ x.1 ∧ x.1 ≤ x.2 ∧ x.2 ≤ 1000000 := by
  unfold spVB wI at h
  simp only [Bool.and_eq_true, decide_eq_true_eq] at h
  omega
theorem spVB_y {x : Int × Int} (h1 : -1000000 ≤ x.1) (h2 : x.1 ≤ x.2) (h3 : x.2 ≤ 1000000) : spVB x = true := by
  unfold spVB wI
  simp only [Bool.and_eq_true, decide_eq_true_eq]
  omega
theorem bound_on {t : Tb} {x y : Int × Int} (h0 : tabErr t.x t.y t.v = 0) (hx : spVB x = true) (hy : spVB y = true) (hl : lyB t x y = true) : boundR t.x t.y t.v x y = (bnd t.x t.y t.v x y, 0) := by
  have ht : tabB t.x t.y t.v = true := by
    unfold tabErr at h0
    cases h : tabB t.x t.y t.v
    · rw [h] at h0; cases h0
    · rfl
  have hx' : vB x = true := hx
  have hy' : vB y = true := hy
  have hs : spErr [x, y] = 0 := by unfold spErr; simp [hx', hy']
  have hz : (liesB t.x x && liesB t.y y) = true := by
    unfold lyB iat at hl
    unfold liesB
    simp only [Bool.and_eq_true, decide_eq_true_eq] at hl ⊢
    exact ⟨⟨hl.1, hl.2.1⟩, hl.2.2.1, hl.2.2.2⟩
  have hc : cpErr t.x t.y t.v x y = 0 := by
    unfold cpErr
    rw [ht, hs, hz]; rfl
  unfold boundR
  rw [hc]; rfl
theorem flow_less {r : Rot} {a a' : Air} {s : Int × Int} (hr : RotOk r) (hb : spVB a.w = true) (hb' : spVB a'.w = true) (h1 : a.w.1 ≤ a'.w.1) (h2 : a'.w.2 ≤ a.w.2) (h : (flR r a s).2 = 0) :
    (flR r a' s).2 = 0 ∧ 0 ≤ (flR r a' s).1.1 ∧ (flR r a' s).1.2 ≤ (flR r a s).1.2 ∧ (flR r a s).1.2 ≤ 1000000 ∧ (flR r a' s).1.1 ≤ (flR r a' s).1.2 := by
  have hlim := hr.lim 2 (by omega)
  have ht : Tbl r.c.x r.c.y r.c.v := limB_tbl hlim
  have h0 : tabErr r.c.x r.c.y r.c.v = 0 := by
    have : limB r.c 0 100000 = true := hlim
    unfold limB at this
    rw [Bool.and_eq_true] at this
    exact of_decide_eq_true this.1
  have hv : ∀ i k : Nat, 0 ≤ (r.c.v[i]?.getD [])[k]?.getD 0 := fun i k => by
    by_cases hi : i < r.c.v.length
    · by_cases hk : k < (r.c.v[i]?.getD []).length
      · exact (limB_val (t := r.c) (lo := 0) (hi := 100000) hlim i k hi hk).1
      · rw [List.getElem?_eq_none (by omega)]; simp
    · have e : r.c.v[i]? = none := List.getElem?_eq_none (by omega)
      rw [e]; simp
  have hlv : lvB r a s = true := by
    cases hl : lvB r a s
    · unfold flR at h; rw [hl] at h; cases h
    · rfl
  have hl' := hlv
  unfold lvB at hl'
  rw [Bool.and_eq_true] at hl'
  obtain ⟨hs, hl⟩ := hl'
  have w := spVB_t hb
  have w' := spVB_t hb'
  have ws := spVB_t hs
  have hl2 : lyB r.c s a'.w = true := by
    unfold lyB at hl ⊢
    simp only [Bool.and_eq_true, decide_eq_true_eq] at hl ⊢
    omega
  have hlv' : lvB r a' s = true := by unfold lvB; rw [hs, hl2]; rfl
  have e1 := bound_on h0 hs hb hl
  have e2 := bound_on h0 hs hb' hl2
  have hO := lyB_on ht ws.2.1 w.2.1 hl
  have hO' := lyB_on ht ws.2.1 w'.2.1 hl2
  have bp := bnd_part hO (x' := s) (y' := a'.w) (by omega) (by omega) ws.2.1 h1 h2 w'.2.1
  have bi := bnd_is hO'
  obtain ⟨u, v, u1, u2, v1, v2, e⟩ := bi.low
  have ba := bi.all u v u1 u2 v1 v2
  have ox : OnAx r.c.x u := ⟨by have := hO'.x1; omega, by have := hO'.x2; omega⟩
  have oy : OnAx r.c.y v := ⟨by have := hO'.y1; omega, by have := hO'.y2; omega⟩
  have ad := (at_bd (vs := r.c.v) ht ox oy).1
  have an := at_nn ht ox oy hv
  have nn : 0 ≤ (bnd r.c.x r.c.y r.c.v s a'.w).1 := by
    rw [← e]; exact Int.ediv_nonneg an (by omega)
  have le : (bnd r.c.x r.c.y r.c.v s a'.w).1 ≤ (bnd r.c.x r.c.y r.c.v s a'.w).2 := by
    rw [← e]
    exact Int.le_trans (flo_cei ad) ba.2
  unfold flR at h ⊢
  rw [if_pos hlv] at h ⊢
  rw [if_pos hlv']
  rw [e1] at h ⊢
  rw [e2]
  simp only at h ⊢
  have hbu : wI r.bu 1 1000 = true := hr.bu
  have hbu := wI_t hbu
  generalize bnd r.c.x r.c.y r.c.v s a.w = S at *
  generalize bnd r.c.x r.c.y r.c.v s a'.w = T at *
  obtain ⟨S1, S2⟩ := S
  obtain ⟨T1, T2⟩ := T
  generalize r.bu = bu at *
  have hwb : (wB bu 0 1000 && wB 1000 1 1000) = true := by
    unfold wB; simp only [Bool.and_eq_true, decide_eq_true_eq]; omega
  simp only at *
  unfold partR at h ⊢
  have hS : vB (S1, S2) = true := by
    cases hq : vB (S1, S2)
    · rw [hq] at h; cases h
    · rfl
  rw [hS, hwb] at h ⊢
  simp only [if_true] at h ⊢
  have hm : vB (S1 * bu / 1000, -(-(S2 * bu) / 1000)) = true := by
    unfold madeR at h
    cases hq : vB (S1 * bu / 1000, -(-(S2 * bu) / 1000))
    · rw [hq] at h; cases h
    · rfl
  have vS := spVB_t hS
  have vM := spVB_t hm
  simp only at vS vM
  have hT : vB (T1, T2) = true := spVB_y (by simp only; omega) (by simp only; omega) (by simp only; omega)
  rw [hT]
  simp only [if_true]
  have m1 : T1 * bu ≤ T2 * bu := Int.mul_le_mul_of_nonneg_right le (by omega)
  have m2 : T2 * bu ≤ S2 * bu := Int.mul_le_mul_of_nonneg_right bp.2 (by omega)
  have m0 : 0 ≤ T1 * bu := Int.mul_nonneg nn (by omega)
  generalize T1 * bu = t1 at *
  generalize T2 * bu = t2 at *
  generalize S2 * bu = s2 at *
  generalize S1 * bu = s1 at *
  have hn : vB (t1 / 1000, -(-t2 / 1000)) = true := spVB_y (by simp only; omega) (by simp only; omega) (by simp only; omega)
  unfold madeR
  rw [hn, hm]
  simp only [if_true, true_and]
  omega
/-- a part of a span -/
def wthn (n : Int) (a : Int × Int) : Int := a.1 + n % (a.2 - a.1 + 1)
theorem wthn_in {n : Int} {a : Int × Int} (h : a.1 ≤ a.2) : a.1 ≤ wthn n a ∧ wthn n a ≤ a.2 := by
  unfold wthn
  have := Int.emod_nonneg n (show a.2 - a.1 + 1 ≠ 0 by omega)
  have := Int.emod_lt_of_pos n (show 0 < a.2 - a.1 + 1 by omega)
  omega
def prt (a : Int × Int) (m n : Int) : Int × Int := (min (wthn m a) (wthn n a), max (wthn m a) (wthn n a))
theorem prt_in {a : Int × Int} (m n : Int) (h : spVB a = true) : spVB (prt a m n) = true ∧ a.1 ≤ (prt a m n).1 ∧ (prt a m n).2 ≤ a.2 := by
  have w := spVB_t h
  have h1 := wthn_in (n := m) w.2.1
  have h2 := wthn_in (n := n) w.2.1
  unfold prt
  refine ⟨spVB_y ?_ ?_ ?_, ?_, ?_⟩ <;> simp only <;> omega
theorem tmodTw (n d : Int) (hd : 1 ≤ d) : (n.tmod d + d).tmod d = n % d := by
  have e5 := Int.tmod_lt_of_pos n (show 0 < d by omega)
  have e6 := Int.lt_tmod_of_pos n (show 0 < d by omega)
  rw [Int.tmod_eq_emod_of_nonneg (by omega)]
  rw [Int.add_emod_right]
  have e1 := Int.mul_tdiv_add_tmod n d
  have : n.tmod d = n - d * (n.tdiv d) := by omega
  rw [this, Int.sub_mul_emod_self_left]
end Go.Proofs.Ytgibbaadjbohdaa
/- The functions' bodies, translated. Written by a program; no conditions. -/
namespace Go.Proofs.Ytgibbaadjbohdaa
open Go.RowKit Lift

/-- top_measures -/
def ctop_measures : ACode :=
  (.seq
   (.region false [⟨some 0, .mv (.const (.bool false)), none, []⟩] [])
  (.seq
   (.region false [⟨some 4, .buildSl 1 3 [(.val (.int .i64 0)), (.val (.int .i64 0)), (.val (.int .i64 0))] [(0, 1, (.const (.int .i64 0))), (1, 1, (.const (.int .i64 10))), (2, 1, (.const (.int .i64 20)))], none, []⟩,
     ⟨some 5, .buildSl 1 2 [(.val (.int .i64 0)), (.val (.int .i64 0))] [(0, 1, (.const (.int .i64 0))), (1, 1, (.const (.int .i64 5)))], none, []⟩,
     ⟨some 6, .buildSl 1 2 [(.val (.int .i64 0)), (.val (.int .i64 0))] [(0, 1, (.const (.int .i64 0))), (1, 1, (.const (.int .i64 10)))], none, []⟩,
     ⟨some 7, .buildSl 1 2 [(.val (.int .i64 0)), (.val (.int .i64 0))] [(0, 1, (.const (.int .i64 20))), (1, 1, (.const (.int .i64 30)))], none, []⟩,
     ⟨some 8, .buildSl 1 2 [(.val (.int .i64 0)), (.val (.int .i64 0))] [(0, 1, (.const (.int .i64 10))), (1, 1, (.const (.int .i64 50)))], none, []⟩,
     ⟨some 9, .buildSl 1 3 [(.val (.slice none 0 0)), (.val (.slice none 0 0)), (.val (.slice none 0 0))] [(0, 1, (.tmp 6)), (1, 1, (.tmp 7)), (2, 1, (.tmp 8))], none, []⟩,
     ⟨some 10, .build [(.val (.slice none 0 0)), (.val (.slice none 0 0)), (.val (.slice none 0 0))] [(0, 1, (.tmp 4)), (1, 1, (.tmp 5)), (2, 1, (.tmp 9))], none, []⟩,
     ⟨some 1, .mem [(.val (.slice none 0 0)), (.val (.slice none 0 0)), (.val (.slice none 0 0))], none, []⟩,
     ⟨none, .store 3 (.tmp 1) (.tmp 10), none, []⟩] [4, 5, 6, 7, 8, 9, 10])
  (.seq
   (.region false [⟨some 12, .loadN 3 (.tmp 1), none, []⟩,
     ⟨some 13, .build [(.val (.int .i64 0)), (.val (.int .i64 0))] [(0, 1, (.const (.int .i64 5))), (1, 1, (.const (.int .i64 15)))], none, []⟩,
     ⟨some 14, .build [(.val (.int .i64 0)), (.val (.int .i64 0))] [(1, 1, (.const (.int .i64 5)))], none, []⟩,
     ⟨some 15, .call (.func 33) [(.tmp 12), (.tmp 13), (.tmp 14)], none, []⟩,
     ⟨some 11, .mv (.tmp 15), none, []⟩,
     ⟨some 16, .ext (.tmp 11) 0, none, []⟩,
     ⟨some 17, .ext (.tmp 11) 1, none, []⟩,
     ⟨some 2, .mem [(.val (.int .i64 0)), (.val (.int .i64 0))], none, []⟩,
     ⟨none, .store 2 (.tmp 2) (.tmp 16), none, []⟩,
     ⟨some 3, .mv (.tmp 17), none, []⟩] [12, 13, 14, 15, 11, 16, 17])
  (.seq
   (.region false [⟨some 18, .mv (.tmp 3), none, []⟩,
     ⟨some 19, .bin .eql (.tmp 18) (.const (.int .i64 0)), none, []⟩,
     ⟨some 20, .mv (.tmp 19), none, []⟩,
     ⟨some 21, .loadN 2 (.tmp 2), (some (some 20, true)), []⟩,
     ⟨some 22, .build [(.val (.int .i64 0)), (.val (.int .i64 0))] [(0, 1, (.const (.int .i64 10))), (1, 1, (.const (.int .i64 40)))], (some (some 20, true)), []⟩,
     ⟨some 23, .eqa false [false, false] (.tmp 21) (.tmp 22), (some (some 20, true)), []⟩,
     ⟨some 24, .pick (.tmp 20) (.tmp 23) (.const (.bool false)), none, []⟩,
     ⟨some 0, .mv (.tmp 24), none, []⟩] [18, 19, 20, 21, 22, 23, 24])
  .ret))))
set_option maxRecDepth 100000 in
theorem ktop_measures : IsCode Try.prog 9 25 ctop_measures [.tmp 0] :=
  ⟨Try.f9, _, [1, 3, 2, 0], Try.func9, rfl, by decide, rfl, by kernel_rfl, by kernel_rfl⟩
end Go.Proofs.Ytgibbaadjbohdaa
/- The tops' look at a table. No conditions. -/
set_option linter.unusedSimpArgs false
set_option linter.unusedVariables false
namespace Go.Proofs.Ytgibbaadjbohdaa
open Go.RowKit Lift

theorem top_bound : boundR [0, 10, 20] [0, 5] [[0, 10], [20, 30], [10, 50]] (5, 15) (0, 5) = ((10, 40), 0) := by decide +kernel
set_option maxRecDepth 100000 in
set_option maxHeartbeats 4000000 in
theorem measures_ac : AC Try.prog 9 [] [] [] (dB true) := by
  refine ktop_measures.ac (n0 := 0) (by simp) trivial trivial rfl ?_
  unfold ctop_measures
  have bd := bound_ac (xs := [0, 10, 20]) (ys := [0, 5]) (vs := [[0, 10], [20, 30], [10, 50]]) (5, 15) (0, 5) ⟨by decide, by decide, by decide, by intro r hr; simp at hr; rcases hr with rfl | rfl | rfl <;> decide⟩
  rw [top_bound] at bd
  unfold spD dI at bd
  refine aw_seq (aw_region ?_)
  simp (config := {maxSteps := 10000000}) (disch := first | exact okYes (by kernel_rfl) | omega) only [thenQ, List.map, dB, List.length, Nat.zero_add, Nat.reduceMul, envOf, ARun_none, AOpRun, aexec, FSt.ev, AGo_ok, St.app, putO, eput_n, hups, ARun_nil, dropE_c, inL_n, dropE_n, cond_false]
  refine aw_seq (aw_region ?_)
  simp (config := {maxSteps := 10000000}) (disch := first | exact okYes (by kernel_rfl) | omega) only [thenQ, List.length, Nat.zero_add, Nat.reduceAdd, Nat.reduceMul, ARun_none, AOpRun, aexec, Option.isSome, hget_n, Bool.false_eq_true, ↓reduceIte, Option.map, fillD, D.isBot, FSt.ev, D.cells, ne_eq, not_true_eq_false, Nat.reduceGT, or_self, splice, List.take, List.nil_append, List.drop, List.cons_append, List.append_nil, AGo_ok, St.app, putO, eput_c, Nat.reduceBEq, eput_n, cond_false, hups, hput_n, List.map, hget_c, hput_c, St.F, eget_c, ↓eget_h, ↓hget_h, Nat.reduceLeDiff, List.all, D.leaf, Bool.and_true, and_self, beq_self_eq_true, cond_true, ARun_nil, dropE_c, inL_c, inL_n, dropE_n]
  refine aw_wk (s' := ⟨[(1, .ptr 0 0)], [(0, [.list (ints [0, 10, 20]), .list (ints [0, 5]), .vec 40 3 1]), (40, [.list (ints [0, 10]), .list (ints [20, 30]), .list (ints [10, 50])])], 400⟩) ?_ ?_
  · refine wk_to [8, 16, 24, 32, 40] [(0, 64), (40, 48)] (by kernel_rfl) (by kernel_rfl) (by kernel_rfl) (by kernel_rfl) (by kernel_rfl) ?_ ?_ <;> repeat' (first | exact trivial | exact vr_vec _ _ _ _ rfl | exact vr_ptr _ _ _ rfl | refine vr_fl _ _ _ _ _ (by decide) rfl ?_ ?_ ?_ ?_ | refine And.intro ⟨_, rfl, .inl ⟨_, rfl, by decide, ?_⟩⟩ ?_ | apply And.intro)
    all_goals first | exact ints_one _ | rfl | exact icells_in [_, _] | exact icells_in [_, _, _]
  refine aw_wk (s' := ⟨[(1, .ptr 0 0)], [(0, [.list (ints [0, 10, 20]), .list (ints [0, 5]), .list (rows [[0, 10], [20, 30], [10, 50]])])], 400⟩) ?_ ?_
  · refine wk_to [40] [(0, 0)] (by kernel_rfl) (by kernel_rfl) (by kernel_rfl) (by kernel_rfl) (by kernel_rfl) ?_ ?_ <;> repeat' (first | exact trivial | exact vr_list _ | exact vr_ptr _ _ _ rfl | refine vr_fl _ _ _ _ _ (by decide) rfl ?_ ?_ ?_ ?_ | refine And.intro ⟨_, rfl, .inl ⟨_, rfl, by decide, ?_⟩⟩ ?_ | apply And.intro)
    all_goals first | exact rows_one [[0, 10], [20, 30], [10, 50]] | rfl | exact rcells_in [[0, 10], [20, 30], [10, 50]]
  unfold tabD at bd
  (have hg : (987654321 : Nat) - 987654321 = 0 := rfl; have hr := hg; repeat' (first | refine aw_seq ?_ | (refine aw_skip ?_; with_reducible repeat' (first | refine thenQ_n ?_ | refine blockQ_n ?_ | refine thenQ_e ?_ | refine blockQ_t ?_ | refine blockQ_f (by decide) ?_)) | (refine aw_exit ?_; with_reducible repeat' (first | refine thenQ_n ?_ | refine blockQ_n ?_ | refine thenQ_e ?_ | refine blockQ_t ?_ | refine blockQ_f (by decide) ?_)) | refine aw_ret ?_ | refine aw_block ?_ | refine aw_condT rfl ?_ | refine aw_condF rfl ?_ | ((first | refine aw_hide fun K hK => aw_region ?_ | refine acall0 (bd) ?_ | refine ago_if (by omega) ?_ | skip); simp (config := {maxSteps := 10000000}) (disch := first | exact okYes (by kernel_rfl) | omega) only [List.length, Nat.zero_add, Nat.reduceAdd, Nat.reduceMul, ARun_none, AOpRun, aexec, FSt.ev, St.F, ↓eget_h, hget_c, beq_self_eq_true, hget_n, cond_true, Nat.reduceLeDiff, ↓reduceIte, List.drop, List.take, AGo_ok, St.app, putO, eput_c, Nat.reduceBEq, eput_n, cond_false, hups, List.map, Option.map, fillD, D.isBot, Bool.false_eq_true, D.cells, ne_eq, not_true_eq_false, Nat.reduceGT, or_self, splice, List.nil_append, List.cons_append, List.append_nil, eget_c, opt1, List.getElem?_cons_zero, List.getElem?_cons_succ, Option.isSome, hput_c, hput_n, ↓hget_h, List.all, D.leaf, Bool.and_true, and_self, ARun_nil, dropE_c, inL_c, inL_n, dropE_n, isSh, abin, ARun_some, AG_tt, D.isAgg, isB, eqCells, scalarEq]) | (subst hK; with_reducible repeat' (first | refine thenQ_n ?_ | refine blockQ_n ?_ | refine thenQ_e ?_ | refine blockQ_t ?_ | refine blockQ_f (by decide) ?_))))
  all_goals (refine end_to [] [] (by first | exact .inl rfl | exact .inr rfl) rfl (by kernel_rfl) (by kernel_rfl) (by kernel_rfl) ?_ ?_ <;> repeat' (first | exact trivial | exact vr_val _))
end Go.Proofs.Ytgibbaadjbohdaa
