/- Texts of the law RecordAll, part 13. No conditions. -/
import Derived.Test.YtdcodicoclecnaaPRecordAll12
import Derived.Test.YtdcodicoclecnaaRows
import Derived.ProofKit
import Derived.OpenShut
import Derived.ChangeOld
import Derived.Below
import Derived.Lib.SmallJoins
set_option linter.unusedSimpArgs false
set_option linter.unusedVariables false
/- law12: the example and what is made of it. No conditions. -/
namespace Go.Proofs.Ytdcodicoclecnaa
open Go Go.RowKit Lift

def exL : Lay := ⟨4, 100, 200, 300, 400, [⟨1, 0, 8, true, 1, 2, 10, 1, 0⟩, ⟨2, 4, 3, false, 5, 1, 0, 2, 1⟩, ⟨3, 0, 1, false, 1, 1, 0, 1, 0⟩]⟩
def exF : List (List Int) := [[100, 4, 0, 0], [200, 254, 48, 1], [300, 6, 0, 0]]
def exC : Cas := ⟨[⟨[], [0, 1], false⟩, ⟨[0], [2], true⟩, ⟨[0, 1], [], false⟩], [(0, 10), (5, 20), (8, 30)]⟩
theorem exC_ok : CasOk exC := ⟨by decide, by decide, by decide, by decide⟩
theorem exC_in : CasIn exC := ⟨by decide, by decide, fun i => by
  rcases i with _ | _ | _ | i <;> simp [exC, clAt, cl0], fun i => by
  rcases i with _ | _ | _ | i <;> simp [exC, clAt, cl0]⟩
theorem exU : untT exC 1 5 = 31 := by decide
theorem exE : clmE exC ((1 : Nat) : Int) ((5 : Nat) : Int) 122 1 = 0 := by
  unfold clmE
  rw [casE_ok exC_ok]
  decide
theorem exL_in : LayIn exL := ⟨by decide, fun k hk => by
  rcases (by have : exL.fl.length = 3 := rfl
             omega : k = 0 ∨ k = 1 ∨ k = 2) with rfl | rfl | rfl <;> decide⟩
def isV : D → Bool
  | .val _ => true
  | .list _ => true
  | _ => false
theorem vals_in {S : Nat → Prop} {c : List D} (h : c.all isV = true) : ∀ d ∈ c, In S d := fun d hd => by
  have := List.all_eq_true.1 h d hd
  cases d <;> first | exact .val _ | exact .list _ | (simp [isV] at this)
set_option maxRecDepth 100000 in
set_option maxHeartbeats 4000000 in
theorem example_ac : AC Try.prog 64 [] [] [] (.tup [layD exL, .list (rows exF), casD exC]) := by
  refine klaw12_Example.ac (n0 := 0) (by simp) trivial trivial rfl ?_
  unfold claw12_Example
  refine aw_seq (aw_region ?_)
  simp (disch := first | exact okY | omega) only [thenQ, List.map, List.length, Nat.zero_add, Nat.reduceAdd, Nat.reduceMul, envOf, ARun_none, AOpRun, aexec, Option.isSome, hget_n, Bool.false_eq_true, ↓reduceIte, AGo_ok, St.app, putO, eput_n, hups, hput_n, FSt.ev, eput_c, Nat.reduceBEq, cond_false, hget_c, hput_c, ARun_nil, dropE_c, inL_n, dropE_n]
  refine aw_seq (aw_region ?_)
  simp (disch := first | exact okY | omega) only [thenQ, List.length, Nat.zero_add, Nat.reduceAdd, Nat.reduceMul, ARun_none, AOpRun, aexec, Option.map, fillD, D.isBot, FSt.ev, Bool.false_eq_true, D.cells, ne_eq, not_true_eq_false, Nat.reduceGT, or_self, ↓reduceIte, splice, List.take, List.nil_append, List.drop, List.cons_append, List.append_nil, AGo_ok, St.app, putO, eput_c, Nat.reduceBEq, eput_n, cond_false, hups, List.map, Option.isSome, hget_c, hget_n, St.F, eget_c, ↓eget_h, hput_c, hput_n, ↓hget_h, Nat.reduceLeDiff, List.all, D.leaf, Bool.and_true, and_self, beq_self_eq_true, cond_true, ARun_nil, dropE_c, inL_c, inL_n, dropE_n]
  refine aw_wk (s' := ⟨[(0, .ptr 0 0), (2, .ptr 16 0), (3, .ptr 32 0)], [(0, [.val (.int .i64 0), .val (.int .i64 0), .val (.int .i64 0), .val (.int .i64 0), .val (.int .i64 0), .val (.slice none 0 0)]), (16, [.val (.slice none 0 0), .val (.slice none 0 0)]), (32, layC exL)], 100⟩) ?_ ?_
  · unfold layC dI exL
    refine wk_q [56] [(0, 0), (16, 16), (32, 72)] ?_ ?_ <;> repeat' (first | exact trivial | exact vr_val _ | exact vr_ptr _ _ _ rfl | refine vr_fl _ _ _ _ _ (by decide) rfl ?_ ?_ ?_ ?_ | refine And.intro ⟨_, rfl, .inl ⟨_, rfl, by decide, ?_⟩⟩ ?_ | apply And.intro)
    all_goals first | exact fls_nine _ | exact rfl | exact vals_in rfl
  refine aw_seq (aw_region_cut [⟨some 11, .buildSl 1 2 [(.val (.int .i64 0)), (.val (.int .i64 0))] [(0, 1, (.const (.int .i64 0))), (1, 1, (.const (.int .i64 1)))], none, []⟩,
     ⟨some 12, .build [(.val (.slice none 0 0)), (.val (.slice none 0 0)), (.val (.bool false))] [(1, 1, (.tmp 11))], none, []⟩,
     ⟨some 13, .buildSl 1 1 [(.val (.int .i64 0))] [(0, 1, (.const (.int .i64 0)))], none, []⟩,
     ⟨some 14, .buildSl 1 1 [(.val (.int .i64 0))] [(0, 1, (.const (.int .i64 2)))], none, []⟩,
     ⟨some 15, .build [(.val (.slice none 0 0)), (.val (.slice none 0 0)), (.val (.bool false))] [(0, 1, (.tmp 13)), (1, 1, (.tmp 14)), (2, 1, (.const (.bool true)))], none, []⟩,
     ⟨some 16, .buildSl 1 2 [(.val (.int .i64 0)), (.val (.int .i64 0))] [(0, 1, (.const (.int .i64 0))), (1, 1, (.const (.int .i64 1)))], none, []⟩,
     ⟨some 17, .build [(.val (.slice none 0 0)), (.val (.slice none 0 0)), (.val (.bool false))] [(0, 1, (.tmp 16))], none, []⟩]
    [⟨some 18, .buildSl 3 3 [(.val (.slice none 0 0)), (.val (.slice none 0 0)), (.val (.bool false)), (.val (.slice none 0 0)), (.val (.slice none 0 0)), (.val (.bool false)), (.val (.slice none 0 0)), (.val (.slice none 0 0)), (.val (.bool false))] [(0, 3, (.tmp 12)), (3, 3, (.tmp 15)), (6, 3, (.tmp 17))], none, []⟩,
     ⟨some 19, .build [(.val (.int .i64 0)), (.val (.int .i64 0))] [(1, 1, (.const (.int .i64 10)))], none, []⟩,
     ⟨some 20, .build [(.val (.int .i64 0)), (.val (.int .i64 0))] [(0, 1, (.const (.int .i64 5))), (1, 1, (.const (.int .i64 20)))], none, []⟩,
     ⟨some 21, .build [(.val (.int .i64 0)), (.val (.int .i64 0))] [(0, 1, (.const (.int .i64 8))), (1, 1, (.const (.int .i64 30)))], none, []⟩,
     ⟨some 22, .buildSl 2 3 [(.val (.int .i64 0)), (.val (.int .i64 0)), (.val (.int .i64 0)), (.val (.int .i64 0)), (.val (.int .i64 0)), (.val (.int .i64 0))] [(0, 2, (.tmp 19)), (2, 2, (.tmp 20)), (4, 2, (.tmp 21))], none, []⟩,
     ⟨some 23, .build [(.val (.slice none 0 0)), (.val (.slice none 0 0))] [(0, 1, (.tmp 18)), (1, 1, (.tmp 22))], none, []⟩,
     ⟨some 4, .mem [(.val (.slice none 0 0)), (.val (.slice none 0 0))], none, []⟩,
     ⟨none, .store 2 (.tmp 4) (.tmp 23), none, []⟩] ?_)
  simp (disch := first | exact okY | omega) only [List.length, Nat.zero_add, Nat.reduceAdd, Nat.reduceMul, thenQ, ARun_none, AOpRun, aexec, Option.isSome, Option.map, fillD, D.isBot, FSt.ev, St.F, D.cells, ne_eq, Nat.reduceGT, or_false, splice, List.take, List.nil_append, hget_c, Nat.reduceBEq, hget_n, cond_false, Bool.false_eq_true, ↓reduceIte, not_true_eq_false, or_self, List.drop, List.cons_append, List.append_nil, AGo_ok, St.app, putO, eput_c, eput_n, hups, hput_c, hput_n, List.map, eget_c, ↓eget_h, ARun_nil]
  refine ⟨⟨[(0, .ptr 0 0), (2, .ptr 16 0), (3, .ptr 32 0), (12, .agg [.list (ints []), .list (ints [0, 1]), dB false]), (15, .agg [.list (ints [0]), .list (ints [2]), dB true]), (17, .agg [.list (ints [0, 1]), .list (ints []), dB false])], [(0, [.val (.int .i64 0), .val (.int .i64 0), .val (.int .i64 0), .val (.int .i64 0), .val (.int .i64 0), .val (.slice none 0 0)]), (16, [.val (.slice none 0 0), .val (.slice none 0 0)]), (32, layC exL)], 200⟩, ?_, of_decide_eq_true (by kernel_rfl), ?_⟩
  · unfold dB
    refine wk_q [100, 116, 124, 140] [(0, 0), (16, 16), (32, 32)] ?_ ?_ <;> repeat' (first | exact trivial | exact vr_val _ | exact vr_list _ | exact vr_nil | exact vr_ptr _ _ _ rfl | apply vr_agg | refine vr_fl _ _ _ _ _ (by decide) rfl ?_ ?_ ?_ ?_ | refine And.intro ⟨_, rfl, .inl ⟨_, rfl, by decide, ?_⟩⟩ ?_ | apply And.intro)
    all_goals first | exact ints_one _ | exact rfl | exact vals_in rfl | exact vrl_flat _ (vals_in rfl)
  simp (disch := first | exact okY | omega) only [Nat.reduceSub, Nat.reduceAdd, hget_c, Nat.reduceBEq, hget_n, cond_false, Bool.false_eq_true, ↓reduceIte, eget_c, ↓eget_h, List.length, Nat.zero_add, not_true_eq_false, or_self, List.drop, List.cons_append, List.nil_append, Nat.reduceGT, List.take, List.append_nil, AGo_ok, St.app, putO, eput_c, eput_n, hups, hput_c, hput_n, List.map, ARun_none, AOpRun, aexec, Option.map, fillD, D.isBot, FSt.ev, D.cells, ne_eq, splice, Option.isSome, Nat.reduceMul, St.F, ↓hget_h, Nat.reduceLeDiff, List.all, D.leaf, Bool.and_true, and_self, beq_self_eq_true, cond_true, ARun_nil, dropE_c, inL_c, inL_n, dropE_n]
  refine aw_wk (s' := ⟨[(0, .ptr 0 0), (2, .ptr 16 0), (3, .ptr 32 0), (4, .ptr 40 0)], [(0, [.val (.int .i64 0), .val (.int .i64 0), .val (.int .i64 0), .val (.int .i64 0), .val (.int .i64 0), .val (.slice none 0 0)]), (16, [.val (.slice none 0 0), .val (.slice none 0 0)]), (32, layC exL), (40, [.list (cls exC.cl), .list (sps exC.pf)])], 400⟩) ?_ ?_
  · refine wk_q [200, 232] [(0, 0), (16, 16), (32, 32), (40, 248)] ?_ ?_ <;> repeat' (first | exact trivial | exact vr_val _ | exact vr_list _ | exact vr_ptr _ _ _ rfl | refine vr_fl _ _ _ _ _ (by decide) rfl ?_ ?_ ?_ ?_ | refine And.intro ⟨_, rfl, .inl ⟨_, rfl, by decide, ?_⟩⟩ ?_ | apply And.intro)
    all_goals first | exact cls_three _ | exact sps_two _ | exact rfl | exact vals_in rfl | exact vrl_flat _ (vals_in rfl)
  unfold layC exL
  refine aw_seq (aw_region ?_)
  simp (disch := first | exact okY | omega) only [thenQ, List.length, Nat.zero_add, Nat.reduceAdd, Nat.reduceMul, dI, ARun_none, AOpRun, aexec, FSt.ev, St.F, eget_c, Nat.reduceBEq, ↓eget_h, cond_false, hget_c, ↓hget_h, Nat.reduceLeDiff, ↓reduceIte, List.drop, List.take, AGo_ok, St.app, putO, eput_c, eput_n, hups, List.map, Option.isSome, hget_n, Bool.false_eq_true, Option.map, fillD, D.isBot, D.cells, ne_eq, not_true_eq_false, Nat.reduceGT, or_self, splice, List.nil_append, List.cons_append, List.append_nil, hput_c, hput_n, beq_self_eq_true, cond_true, List.all, D.leaf, Bool.and_true, and_self, ARun_nil, dropE_c, inL_c, inL_n, dropE_n]
  refine aw_wk (s' := ⟨[(0, .ptr 0 0), (1, .vec 432 3 1), (2, .ptr 16 0)], [(0, layC exL), (16, [.list (cls exC.cl), .list (sps exC.pf)]), (432, [.list (ints [100, 4, 0, 0]), .list (ints [200, 254, 48, 1]), .list (ints [300, 6, 0, 0])])], 500⟩) ?_ ?_
  · unfold layC dI exL
    refine wk_q [408, 416, 424] [(0, 0), (16, 16), (432, 432)] ?_ ?_ <;> repeat' (first | exact trivial | exact vr_val _ | exact vr_list _ | exact vr_vec _ _ _ _ rfl | exact vr_ptr _ _ _ rfl | refine vr_fl _ _ _ _ _ (by decide) rfl ?_ ?_ ?_ ?_ | refine And.intro ⟨_, rfl, .inl ⟨_, rfl, by decide, ?_⟩⟩ ?_ | apply And.intro)
    all_goals first | exact ints_one _ | exact rfl | exact vals_in rfl | exact vrl_flat _ (vals_in rfl)
  refine aw_ret ?_
  unfold layD casD
  refine end_q [432] [] ?_ ?_ <;> repeat' (first | exact trivial | exact vr_val _ | exact vr_list _ | apply vr_agg | apply vr_tup | refine vr_fl _ _ _ _ _ (by decide) rfl ?_ ?_ ?_ ?_ | apply And.intro)
  all_goals first | exact vals_in rfl | exact vrl_flat _ (vals_in rfl) | exact rfl | (intro e he; simp [rows, exF] at he; rcases he with rfl | rfl | rfl <;> rfl)
theorem exL_ok : LayOk exL := ⟨by decide, by decide, by decide, by decide, by decide, fun k hk => by
  rcases (by have : exL.fl.length = 3 := rfl
             omega : k = 0 ∨ k = 1 ∨ k = 2) with rfl | rfl | rfl <;> exact ⟨by decide, by decide, by decide, by decide, by decide, by decide, by decide, by decide, by decide, by decide, by decide, by decide, by decide, by decide⟩, fun i hi k hk s hs h1 h2 h3 => by
  have : exL.fl.length = 3 := rfl
  have h4 := h3.1
  rcases (by omega : i = 1 ∧ k = 0 ∨ i = 2 ∧ k = 0 ∨ i = 2 ∧ k = 1) with ⟨rfl, rfl⟩ | ⟨rfl, rfl⟩ | ⟨rfl, rfl⟩ <;> exact absurd h4 (by decide)⟩
theorem exF_in : FrIn exF := ⟨by decide, fun k => by
  unfold frm
  rcases k with _ | _ | _ | k <;> simp [exF, maxLen]⟩
theorem exP : pkS exL (fAt exL 0) exF 3 = (2, 26) := by decide
theorem exPk : peakR exL exF ((0 : Nat) : Int) = (2, 26, 0) := by
  have h : wfE exL exF [((0 : Nat) : Int)] = 0 := by
    unfold wfE
    rw [if_pos (tpE_ok exL_ok (by decide)), if_pos (by decide)]
  unfold peakR
  rw [if_pos h]
  have : pkS exL (fAt exL ((0 : Nat) : Int).toNat) exF exF.length = (2, 26) := exP
  rw [this, if_neg (by decide)]
set_option maxRecDepth 100000 in
set_option maxHeartbeats 4000000 in
theorem works_ac : AC Try.prog 16 [] [] [] (dB true) := by
  refine klaw12_works.ac (n0 := 0) (by simp) trivial trivial rfl ?_
  have ex := example_ac
  have pk := peak_ac exL exF ((0 : Nat) : Int) exL_in exF_in
  rw [exPk] at pk
  have un := until_ok exC exC_in 1 5 exE
  rw [exU, if_neg (by decide)] at un
  unfold claw12_works
  unfold layD casD layC at *
  (repeat' (first | apply aw_seq | ((first | apply aw_skip | apply aw_exit); try simp only [thenQ, blockQ, if_true, if_false, Nat.reduceEqDiff, reduceCtorEq]) | apply aw_ret | apply aw_block | apply aw_condT rfl | apply aw_condF rfl | ((first | refine aw_region ?_ | refine acall0 (ex) ?_ | refine acall0 (pk) ?_ | refine acall0 (un) ?_ | refine ago_if (by omega) ?_ | skip); simp (disch := first | exact okY | omega) only [thenQ, List.map, dB, List.length, Nat.zero_add, Nat.reduceMul, envOf, ARun_none, AOpRun, aexec, FSt.ev, AGo_ok, St.app, putO, eput_n, hups, ARun_nil, dropE_c, inL_n, dropE_n, cond_false, Nat.reduceAdd, dI, eput_c, Nat.reduceBEq, St.F, eget_c, ↓eget_h, opt1, Option.map, List.getElem?_cons_zero, List.getElem?_cons_succ, Option.isSome, hget_n, Bool.false_eq_true, ↓reduceIte, hput_n, hget_c, hput_c, beq_self_eq_true, cond_true, D.isBot, D.cells, Nat.reduceLeDiff, List.all, D.leaf, Bool.and_true, and_self, splice, List.take, List.nil_append, List.drop, List.append_nil, ↓hget_h, inL_c, cast_lit, Int.reduceSub, isSh, abin, ARun_some, AG_tt])))
  all_goals (refine end_q [] [] ?_ ?_ <;> repeat' (first | exact trivial | exact vr_val _))
end Go.Proofs.Ytdcodicoclecnaa
/- law12: copies, comparisons, what is too large. No conditions. -/
namespace Go.Proofs.Ytdcodicoclecnaa
open Go Go.RowKit Lift

theorem fc_all : ∀ l : List Fl, (flcells l).all isV = true
  | [] => rfl
  | f :: l => by
    have := fc_all l
    unfold flcells at *
    rw [List.flatMap_cons, List.all_append, this]; rfl
theorem fc_leaf : ∀ l : List Fl, (flcells l).all D.leaf = true
  | [] => rfl
  | f :: l => by
    have := fc_leaf l
    unfold flcells at *
    rw [List.flatMap_cons, List.all_append, this]; rfl
set_option maxRecDepth 100000 in
set_option maxHeartbeats 2000000 in
theorem copyL_ac (l : Lay) (hn : l.fl.length ≤ 1000) : AC Try.prog 31 [layD l] [] [] (layD l) := by
  refine kref12_CopyLayout.ac (n0 := 0) (by simp) ⟨in_layD _ _, trivial⟩ trivial rfl ?_
  unfold cref12_CopyLayout layD layC
  have a1 := fls_len l.fl
  have a2 := fls_all l.fl
  have a3 := fls_flat l.fl
  have a4 := fc_leaf l.fl
  refine aw_seq (aw_region ?_)
  simp (disch := first | exact okY | omega) only [thenQ, List.map, dI, List.length, Nat.zero_add, Nat.reduceAdd, Nat.reduceMul, envOf, ARun_none, AOpRun, aexec, D.isBot, FSt.ev, St.F, ↓eget_h, Bool.false_eq_true, Option.isSome, hget_n, or_self, ↓reduceIte, D.cells, AGo_ok, St.app, putO, eput_c, Nat.reduceBEq, eput_n, cond_false, hups, hput_n, hget_c, hput_c, ARun_nil, dropE_c, inL_n, dropE_n]
  refine aw_seq (aw_region ?_)
  simp (disch := first | exact okY | omega) only [thenQ, List.length, Nat.zero_add, Nat.reduceAdd, Nat.reduceMul, ARun_none, AOpRun, aexec, FSt.ev, St.F, eget_c, Nat.reduceBEq, ↓eget_h, cond_false, hget_c, beq_self_eq_true, hget_n, cond_true, Nat.reduceLeDiff, ↓reduceIte, List.drop, List.take, AGo_ok, St.app, putO, eput_c, eput_n, hups, List.map, Option.isSome, Bool.false_eq_true, hput_c, hput_n, ↓hget_h, D.isBot, D.cells, List.all, D.leaf, Bool.and_true, and_self, splice, List.nil_append, List.append_nil, ARun_nil, dropE_c, inL_c, inL_n, dropE_n]
  refine aw_seq (aw_region ?_)
  simp (disch := first | exact okY | omega) only [thenQ, List.length, Nat.zero_add, Nat.reduceAdd, Nat.reduceMul, ARun_none, AOpRun, aexec, Option.isSome, hget_c, Nat.reduceBEq, hget_n, cond_false, Bool.false_eq_true, ↓reduceIte, Option.map, fillD, AGo_ok, St.app, putO, eput_c, eput_n, hups, hput_c, hput_n, List.map, FSt.ev, St.F, eget_c, ↓eget_h, run1, beq_self_eq_true, cond_true, List.getElem?_cons_succ, List.getElem?_cons_zero, base, ↓hget_h, Nat.zero_le, and_self, List.take, elems, a2, a1, a3, a4, and_true, ups, List.nil_append, List.cons_append]
  refine ago_if (by omega) ?_
  simp (disch := first | exact okY | omega) only [AGo_ok, Nat.reduceAdd, St.app, putO, eput_c, Nat.reduceBEq, eput_n, cond_false, hups, hput_c, hput_n, hdel_c, beq_self_eq_true, hdel_n, cond_true, List.map, ARun_none, AOpRun, aexec, FSt.ev, St.F, eget_c, ↓eget_h, Nat.zero_add, hget_c, ↓hget_h, D.isBot, D.cells, List.length, Nat.reduceLeDiff, List.all, D.leaf, Bool.and_true, and_self, ↓reduceIte, splice, List.take, List.cons_append, List.nil_append, List.drop, List.append_nil, ARun_nil, dropE_c, inL_c, inL_n, dropE_n]
  refine aw_seq (aw_region ?_)
  simp (disch := first | exact okY | omega) only [thenQ, List.length, Nat.zero_add, Nat.reduceAdd, Nat.reduceMul, ARun_none, AOpRun, aexec, FSt.ev, St.F, eget_c, Nat.reduceBEq, ↓eget_h, cond_false, hget_c, ↓hget_h, Nat.reduceLeDiff, ↓reduceIte, List.drop, List.take, AGo_ok, St.app, putO, eput_c, eput_n, hups, List.map, D.isBot, D.cells, List.all, D.leaf, Bool.and_true, and_self, splice, List.nil_append, List.append_nil, hput_c, beq_self_eq_true, hput_n, cond_true, ARun_nil, dropE_c, inL_c, inL_n, dropE_n]
  refine aw_ret ?_
  refine end_q [64] [] ?_ ?_ <;> repeat' (first | exact trivial | exact vr_val _ | apply vr_agg | refine vr_fl _ _ _ _ _ (by decide) rfl ?_ ?_ ?_ ?_ | apply And.intro)
  all_goals first | exact fls_nine _ | exact fls_len _ | exact fls_flat _ | exact vals_in (fc_all _)
set_option maxRecDepth 100000 in
set_option maxHeartbeats 2000000 in
theorem copyF_ac (frs : List (List Int)) (hn : frs.length ≤ 1000) (hm : ∀ k, (frm frs k).length ≤ 1000000) : AC Try.prog 65 [.list (rows frs)] [] [] (.list (rows frs)) := by
  refine kref12_CopyFrames.ac (n0 := 0) (by simp) ⟨.list _, trivial⟩ trivial rfl ?_
  unfold cref12_CopyFrames
  refine aw_seq (aw_region ?_)
  simp (disch := first | exact okY | omega) only [thenQ, List.map, List.length, Nat.zero_add, Nat.reduceMul, envOf, ARun_none, AOpRun, aexec, FSt.ev, AGo_ok, St.app, putO, eput_c, Nat.reduceBEq, eput_n, cond_false, hups, ARun_nil, dropE_c, inL_n, dropE_n]
  refine aw_seq (aw_region ?_)
  simp (disch := first | exact okY | omega) only [thenQ, List.length, Nat.zero_add, Nat.reduceMul, Nat.reduceAdd, ARun_none, AOpRun, aexec, FSt.ev, AGo_ok, St.app, putO, eput_c, Nat.reduceBEq, eput_n, cond_false, hups, List.map, ARun_nil, dropE_c, inL_n, dropE_n]
  refine aw_seq (aw_seq (aw_region ?_))
  simp (disch := first | exact okY | omega) only [thenQ, List.length, Nat.zero_add, Nat.reduceMul, Nat.reduceAdd, ARun_none, AOpRun, aexec, FSt.ev, AGo_ok, St.app, putO, eput_c, Nat.reduceBEq, eput_n, cond_false, hups, List.map, ARun_nil, dropE_c, inL_n, dropE_n]
  refine aw_block (aw_loop (fun k : Nat => ⟨[(0, .list (rows frs)), (3, .vec 40 k 1), (4, dI k)], [(40, rcells (frs.take k))], 400⟩) (fun k => k ≤ frs.length) (fun k => frs.length - k) ⟨0, by omega, ?_⟩ ?_)
  · show Wk _ _ ⟨_, [(40, [])], _⟩
    refine wk_q [] [(40, 900)] ?_ ?_ <;> repeat' (first | exact trivial | exact vr_val _ | exact vr_list _ | exact vr_nilv _ _ _ rfl | refine And.intro ⟨_, rfl, .inr ⟨rfl, rfl, of_decide_eq_true (by kernel_rfl)⟩⟩ ?_ | apply And.intro)
  intro k hk
  by_cases hk2 : k < frs.length
  case neg =>
    obtain rfl : k = frs.length := by omega
    have e : frs.take frs.length = frs := List.take_of_length_le (by omega)
    rw [e]
    (have hg : (987654321 : Nat) - 987654321 = 0 := rfl; have hr := hg; repeat' (first | apply aw_seq | ((first | apply aw_skip | apply aw_exit); try simp only [thenQ, blockQ, if_true, if_false, Nat.reduceEqDiff, reduceCtorEq]) | apply aw_ret | apply aw_block | apply aw_condT rfl | apply aw_condF rfl | (refine aw_cond rfl (fun hg => ?_) (fun hg => ?_) <;> (try (have hq := hg; simp only [Bool.not_eq_true', Bool.not_eq_false', Bool.and_eq_true, Bool.and_eq_false_iff, Bool.or_eq_true, Bool.or_eq_false_iff, decide_eq_true_eq, decide_eq_false_iff_not, bne_iff_ne, beq_iff_eq, beq_eq_false_iff_ne, bne_eq_false_iff_eq, ne_eq, Int.not_lt, Int.not_le, Decidable.not_not] at hq)) <;> (try (have hr := hg; simp only [decide_eq_true_eq, decide_eq_false_iff_not] at hr)) <;> (try (exfalso; omega))) | ((first | refine aw_region ?_ | refine ago_if (by omega) ?_ | skip); simp (disch := first | exact okY | omega) only [thenQ, dI, List.length, Nat.zero_add, Nat.reduceAdd, Nat.reduceMul, ARun_none, AOpRun, aexec, FSt.ev, St.F, eget_c, Nat.reduceBEq, ↓eget_h, cond_false, AGo_ok, St.app, putO, eput_c, eput_n, hups, List.map, rows_len, isSh, Bool.false_eq_true, ↓reduceIte, Option.map, abin, ARun_nil, dropE_c, inL_c, inL_n, beq_self_eq_true, cond_true, dropE_n, hr, decide_false])))
    refine end_q [40] [] ?_ ?_ <;> repeat' (first | exact trivial | refine vr_fl _ _ _ _ _ (by decide) rfl ?_ ?_ ?_ ?_)
    all_goals first | exact rows_one _ | exact rows_len _ | exact rows_flat _ | exact rcells_in _
  have g1 := rows_gd frs k hk2
  rw [show frs[k]?.getD [] = frm frs k from rfl] at g1
  have hfl := hm k
  have e : rcells (frs.take (k + 1)) = rcells (frs.take k) ++ [.list (ints (frm frs k))] := by
    unfold rcells
    rw [List.take_add_one, List.map_append]
    simp [hk2, frm]
  have hcin := rcells_in (frs.take (k + 1))
  have hrl : (rcells (frs.take k)).length = k := by rw [rcells_len, List.length_take]; omega
  have hrt : (rcells (frs.take k)).take k = rcells (frs.take k) := List.take_of_length_le (by omega)
  have ki : (k : Int) < (frs.length : Int) := by omega
  rw [e] at hcin
  generalize frm frs k = fr at *
  generalize rcells (frs.take k) = R at *
  refine aw_seq (aw_seq (aw_region ?_))
  simp (disch := first | exact okY | omega) only [thenQ, dI, List.length, Nat.zero_add, Nat.reduceAdd, Nat.reduceMul, ARun_none, AOpRun, aexec, FSt.ev, St.F, eget_c, Nat.reduceBEq, ↓eget_h, cond_false, AGo_ok, St.app, putO, eput_c, eput_n, hups, List.map, rows_len, isSh, Bool.false_eq_true, ↓reduceIte, Option.map, abin, ki, decide_true, ARun_nil, dropE_c, inL_c, inL_n, beq_self_eq_true, cond_true, dropE_n]
  refine aw_condT rfl (aw_skip ?_)
  refine aw_seq (aw_block ?_)
  refine aw_region_cut [⟨some 11, .mv (.tmp 3), none, []⟩,
            ⟨some 12, .buildSl 1 0 [] [], none, []⟩,
            ⟨some 13, .mv (.tmp 0), none, []⟩,
            ⟨some 14, .mv (.tmp 4), none, []⟩,
            ⟨some 15, .iadS 1 (.tmp 13) (.tmp 14), none, []⟩,
            ⟨some 16, .load1 (.tmp 15), none, []⟩,
            ⟨some 17, .app 1 8 (.tmp 12) (.tmp 16), none, []⟩] [⟨some 18, .buildSl 1 1 [(.val (.slice none 0 0))] [(0, 1, (.tmp 17))], none, []⟩,
            ⟨some 19, .app 1 24 (.tmp 11) (.tmp 18), none, []⟩,
            ⟨some 3, .mv (.tmp 19), none, []⟩] ?_
  simp (disch := first | exact okY | omega) only [List.length, Nat.zero_add, Nat.reduceAdd, Nat.reduceMul, blockQ, thenQ, ARun_none, AOpRun, aexec, Option.isSome, Option.map, fillD, D.isBot, FSt.ev, St.F, D.cells, ne_eq, Nat.reduceGT, or_false, splice, List.take, List.nil_append, eget_c, Nat.reduceBEq, ↓eget_h, cond_false, AGo_ok, St.app, putO, eput_c, eput_n, hups, List.map, hget_c, hget_n, Bool.false_eq_true, ↓reduceIte, hput_c, hput_n, Int.natCast_nonneg, rows_all, and_self, opt1, Int.toNat_natCast, g1, run1, List.getElem?_cons_zero, base, ↓hget_h, Nat.zero_le, elems, ints_all, ints_len, ints_flat, icells_leaf, and_true, ups, List.cons_append]
  refine ago_if (by omega) ?_
  simp (disch := first | exact okY | omega) only [AGo_ok, Nat.reduceAdd, St.app, putO, eput_c, Nat.reduceBEq, eput_n, cond_false, hups, hput_c, hput_n, hdel_c, beq_self_eq_true, hdel_n, cond_true, List.map, ARun_nil]
  refine ⟨⟨[(0, .list (rows frs)), (4, dI k), (11, .vec 40 k 1), (17, .list (ints fr))], [(40, R)], 600⟩, ?_, of_decide_eq_true (by kernel_rfl), ?_⟩
  · unfold dI
    refine wk_q [480] [(40, 40)] ?_ ?_ <;> repeat' (first | exact trivial | exact vr_val _ | exact vr_list _ | exact vr_vec _ _ _ _ rfl | refine vr_fl _ _ _ _ _ (by decide) rfl ?_ ?_ ?_ ?_ | refine And.intro ⟨_, rfl, .inl ⟨_, rfl, by decide, ?_⟩⟩ ?_ | apply And.intro)
    all_goals first | exact ints_one _ | exact ints_len _ | exact ints_flat _ | exact icells_in _ | (refine vrl_flat _ fun d hd => hcin d ?_; simp [hd])
  simp (disch := first | exact okY | omega) only [Nat.reduceSub, Nat.reduceAdd, hget_c, Nat.reduceBEq, hget_n, cond_false, Bool.false_eq_true, ↓reduceIte, dI, eget_c, ↓eget_h, List.length, Nat.zero_add, not_true_eq_false, or_self, List.drop, List.append_nil, AGo_ok, St.app, putO, eput_c, eput_n, hups, hput_c, hput_n, List.map, ARun_none, AOpRun, aexec, base, FSt.ev, St.F, beq_self_eq_true, cond_true, Nat.mul_one, hrl, Nat.le_refl, and_self, hrt, elems, ↓hget_h, List.take, Option.isSome, Nat.reduceMul, List.all, D.leaf, Bool.and_true, and_true, ups, List.cons_append, List.nil_append]
  refine ago_if (by omega) ?_
  simp (disch := first | exact okY | omega) only [AGo_ok, Nat.reduceAdd, St.app, putO, eput_c, Nat.reduceBEq, eput_n, cond_false, hups, hput_c, hput_n, hdel_c, beq_self_eq_true, hdel_n, cond_true, List.map, ARun_none, AOpRun, aexec, FSt.ev, St.F, eget_c, ↓eget_h, ARun_nil, dropE_c, inL_c, inL_n, dropE_n]
  refine aw_region ?_
  simp (disch := first | exact okY | omega) only [thenQ, List.length, Nat.zero_add, Nat.reduceAdd, Nat.reduceMul, ARun_none, AOpRun, aexec, FSt.ev, St.F, eget_c, Nat.reduceBEq, ↓eget_h, cond_false, AGo_ok, St.app, putO, eput_c, eput_n, hups, List.map, isSh, Bool.false_eq_true, ↓reduceIte, Option.map, abin, fits, beq_self_eq_true, cond_true, ARun_nil, dropE_c, inL_c, inL_n, dropE_n]
  refine ⟨k + 1, by omega, by omega, ?_⟩
  rw [e]
  refine wk_q [] [(40, 608)] ?_ ?_ <;> repeat' (first | exact trivial | exact vr_val _ | exact vr_list _ | exact vr_vec _ _ _ _ rfl | refine And.intro ⟨_, rfl, .inl ⟨_, rfl, by decide, ?_⟩⟩ ?_ | apply And.intro | exact vrl_flat _ (by first | exact icells_in _ | exact rcells_in _ | exact scells_in _ | exact bcells_in _ | assumption) | fail)
  all_goals exact vrl_flat _ hcin
def tpD (l : Lay) (frs : List (List Int)) : D := .agg [dI l.words, dI l.s0, dI l.s1, dI l.s2, dI l.s3, .list (fls l.fl), .list (rows frs)]
theorem in_tpD (S : Nat → Prop) (l : Lay) (frs : List (List Int)) : In S (tpD l frs) := .agg _ (vals_in rfl)
set_option maxRecDepth 100000 in
set_option maxHeartbeats 2000000 in
theorem own_ac (l : Lay) (frs : List (List Int)) (h1 : l.fl.length ≤ 1000) (hn : frs.length ≤ 1000) (hm : ∀ k, (frm frs k).length ≤ 1000000) : AC Try.prog 17 [tpD l frs] [] [] (tpD l frs) := by
  refine klaw12_own.ac (n0 := 0) (by simp) ⟨in_tpD _ _ _, trivial⟩ trivial rfl ?_
  have c1 := copyL_ac l h1
  have c2 := copyF_ac frs hn hm
  unfold claw12_own
  unfold tpD
  unfold layD layC at c1
  (repeat' (first | apply aw_seq | ((first | apply aw_skip | apply aw_exit); try simp only [thenQ, blockQ, if_true, if_false, Nat.reduceEqDiff, reduceCtorEq]) | apply aw_ret | apply aw_block | apply aw_condT rfl | apply aw_condF rfl | ((first | refine aw_region ?_ | refine acall0 (c1) ?_ | refine acall0 (c2) ?_ | refine ago_if (by omega) ?_ | skip); simp (disch := first | exact okY | omega) only [thenQ, List.map, dI, List.length, Nat.zero_add, Nat.reduceAdd, Nat.reduceMul, envOf, ARun_none, AOpRun, aexec, D.isBot, FSt.ev, St.F, ↓eget_h, Bool.false_eq_true, Option.isSome, hget_n, or_self, ↓reduceIte, D.cells, AGo_ok, St.app, putO, eput_c, Nat.reduceBEq, eput_n, cond_false, hups, hput_n, hget_c, hput_c, ARun_nil, dropE_c, inL_n, dropE_n, eget_c, beq_self_eq_true, cond_true, Nat.reduceLeDiff, List.drop, List.take, Option.map, run1, List.getElem?_cons_succ, List.getElem?_cons_zero, fillD, ne_eq, not_true_eq_false, Nat.reduceGT, splice, List.nil_append, List.cons_append, List.append_nil, ↓hget_h, List.all, D.leaf, Bool.and_true, and_self, inL_c])))
  all_goals (refine end_q [] [] ?_ ?_ <;> repeat' (first | exact trivial | exact vr_val _ | exact vr_list _ | apply vr_agg | apply And.intro))
def farTp (l : Lay) (frs : List (List Int)) : Bool := decide ((l.fl.length : Int) > 20) || decide ((frs.length : Int) > 220) || frs.any fun f => decide ((f.length : Int) > 50)
theorem far_small {l : Lay} {frs : List (List Int)} (h : farTp l frs = false) : l.fl.length ≤ 20 ∧ frs.length ≤ 220 ∧ ∀ k, (frm frs k).length ≤ 50 := by
  unfold farTp at h
  simp only [Bool.or_eq_false_iff, decide_eq_false_iff_not, List.any_eq_false] at h
  obtain ⟨⟨h1, h2⟩, h3⟩ := h
  refine ⟨by omega, by omega, fun k => ?_⟩
  unfold frm
  by_cases hk : k < frs.length
  · have := h3 _ (List.getElem_mem hk)
    simp [hk] at this ⊢
    omega
  · simp [List.getElem?_eq_none (by omega : frs.length ≤ k)]
set_option maxRecDepth 100000 in
set_option maxHeartbeats 2000000 in
theorem far_ac (l : Lay) (frs : List (List Int)) (m1 : l.fl.length ≤ maxLen) (m2 : frs.length ≤ maxLen) (m3 : ∀ k, (frm frs k).length ≤ maxLen) : AC Try.prog 15 [tpD l frs] [] [] (dB (farTp l frs)) := by
  refine klaw12_Far.ac (n0 := 0) (by simp) ⟨in_tpD _ _ _, trivial⟩ trivial rfl ?_
  unfold claw12_Far tpD farTp
  have hmax : maxLen = 9223372036854775807 := rfl
  cases q1 : decide ((l.fl.length : Int) > 20) with
  | true =>
    simp only [Bool.true_or]
    (repeat' (first | apply aw_seq | ((first | apply aw_skip | apply aw_exit); try simp only [thenQ, blockQ, if_true, if_false, Nat.reduceEqDiff, reduceCtorEq]) | apply aw_ret | apply aw_block | apply aw_condT rfl | apply aw_condF rfl | ((first | refine aw_region ?_ | refine ago_if (by omega) ?_ | skip); simp (disch := first | exact okY | omega) only [thenQ, List.map, dB, List.length, Nat.zero_add, Nat.reduceAdd, Nat.reduceMul, envOf, dI, ARun_none, AOpRun, aexec, D.isBot, FSt.ev, St.F, ↓eget_h, Bool.false_eq_true, Option.isSome, hget_n, or_self, ↓reduceIte, D.cells, AGo_ok, St.app, putO, eput_c, Nat.reduceBEq, eput_n, cond_false, hups, hput_n, ARun_nil, dropE_c, inL_n, dropE_n, eget_c, Option.map, run1, hget_c, beq_self_eq_true, cond_true, List.getElem?_cons_succ, List.getElem?_cons_zero, fls_len, isSh, abin, q1, ARun_some, AG_tf, inL_c])))
    all_goals (refine end_q [] [] ?_ ?_ <;> repeat' (first | exact trivial | exact vr_val _))
  | false =>
  cases q2 : decide ((frs.length : Int) > 220) with
  | true =>
    simp only [Bool.true_or, Bool.or_true]
    (repeat' (first | apply aw_seq | ((first | apply aw_skip | apply aw_exit); try simp only [thenQ, blockQ, if_true, if_false, Nat.reduceEqDiff, reduceCtorEq]) | apply aw_ret | apply aw_block | apply aw_condT rfl | apply aw_condF rfl | ((first | refine aw_region ?_ | refine ago_if (by omega) ?_ | skip); simp (disch := first | exact okY | omega) only [thenQ, List.map, dB, List.length, Nat.zero_add, Nat.reduceAdd, Nat.reduceMul, envOf, dI, ARun_none, AOpRun, aexec, D.isBot, FSt.ev, St.F, ↓eget_h, Bool.false_eq_true, Option.isSome, hget_n, or_self, ↓reduceIte, D.cells, AGo_ok, St.app, putO, eput_c, Nat.reduceBEq, eput_n, cond_false, hups, hput_n, ARun_nil, dropE_c, inL_n, dropE_n, eget_c, Option.map, run1, hget_c, beq_self_eq_true, cond_true, List.getElem?_cons_succ, List.getElem?_cons_zero, fls_len, isSh, abin, q1, ARun_some, AG_ff, rows_len, q2, inL_c])))
    all_goals (refine end_q [] [] ?_ ?_ <;> repeat' (first | exact trivial | exact vr_val _))
  | false =>
  simp only [Bool.or_self, Bool.false_or]
  refine aw_seq (aw_region ?_)
  simp (disch := first | exact okY | omega) only [thenQ, List.map, List.length, Nat.zero_add, Nat.reduceAdd, Nat.reduceMul, envOf, dI, ARun_none, AOpRun, aexec, D.isBot, FSt.ev, St.F, ↓eget_h, Bool.false_eq_true, Option.isSome, hget_n, or_self, ↓reduceIte, D.cells, AGo_ok, St.app, putO, eput_c, Nat.reduceBEq, eput_n, cond_false, hups, hput_n, ARun_nil, dropE_c, inL_n, dropE_n]
  refine aw_seq (aw_seq (aw_region ?_))
  simp (disch := first | exact okY | omega) only [thenQ, List.length, Nat.zero_add, Nat.reduceAdd, Nat.reduceMul, ARun_none, AOpRun, aexec, FSt.ev, St.F, eget_c, Nat.reduceBEq, ↓eget_h, cond_false, AGo_ok, St.app, putO, eput_c, eput_n, hups, List.map, Option.map, run1, hget_c, beq_self_eq_true, hget_n, cond_true, List.getElem?_cons_succ, List.getElem?_cons_zero, fls_len, isSh, Bool.false_eq_true, ↓reduceIte, abin, q1, ARun_some, AG_ff, rows_len, q2, ARun_nil, dropE_c, inL_c, inL_n, dropE_n]
  refine aw_condF rfl (aw_skip ?_)
  refine aw_seq (aw_seq (aw_region ?_))
  simp (disch := first | exact okY | omega) only [thenQ, List.length, Nat.zero_add, Nat.reduceMul, Nat.reduceAdd, ARun_none, AOpRun, aexec, FSt.ev, AGo_ok, St.app, putO, eput_c, Nat.reduceBEq, eput_n, cond_false, hups, List.map, ARun_nil, dropE_c, inL_n, dropE_n]
  refine aw_block (aw_loop (fun k : Nat => ⟨[(1, .ptr 0 0), (3, dI k)], [(0, [dI l.words, dI l.s0, dI l.s1, dI l.s2, dI l.s3, .list (fls l.fl), .list (rows frs)])], 400⟩) (fun k => k ≤ frs.length ∧ ∀ j, j < k → decide (((frm frs j).length : Int) > 50) = false) (fun k => frs.length - k) ⟨0, ⟨by omega, fun j hj => by omega⟩, ?_⟩ ?_)
  · unfold dI
    refine wk_q [] [(0, 0)] ?_ ?_ <;> repeat' (first | exact trivial | exact vr_val _ | exact vr_list _ | exact vr_ptr _ _ _ rfl | refine And.intro ⟨_, rfl, .inl ⟨_, rfl, by decide, ?_⟩⟩ ?_ | apply And.intro)
  rintro k ⟨hk, hin⟩
  have hm := m3 k
  by_cases hk2 : k < frs.length
  case neg =>
    obtain rfl : k = frs.length := by omega
    have e : frs.any (fun f => decide ((f.length : Int) > 50)) = false := List.any_eq_false.2 fun x hx => by
      obtain ⟨j, hj, rfl⟩ := List.getElem_of_mem hx
      have := hin j hj
      simp only [frm, hj, List.getElem?_eq_getElem, Option.getD_some] at this
      rw [this]; simp
    rw [e]
    (have hg : (987654321 : Nat) - 987654321 = 0 := rfl; have hr := hg; repeat' (first | apply aw_seq | ((first | apply aw_skip | apply aw_exit); try simp only [thenQ, blockQ, if_true, if_false, Nat.reduceEqDiff, reduceCtorEq]) | apply aw_ret | apply aw_block | apply aw_condT rfl | apply aw_condF rfl | (refine aw_cond rfl (fun hg => ?_) (fun hg => ?_) <;> (try (have hq := hg; simp only [Bool.not_eq_true', Bool.not_eq_false', Bool.and_eq_true, Bool.and_eq_false_iff, Bool.or_eq_true, Bool.or_eq_false_iff, decide_eq_true_eq, decide_eq_false_iff_not, bne_iff_ne, beq_iff_eq, beq_eq_false_iff_ne, bne_eq_false_iff_eq, ne_eq, Int.not_lt, Int.not_le, Decidable.not_not] at hq)) <;> (try (have hr := hg; simp only [decide_eq_true_eq, decide_eq_false_iff_not] at hr)) <;> (try (exfalso; omega))) | ((first | refine aw_region ?_ | refine ago_if (by omega) ?_ | skip); simp (disch := first | exact okY | omega) only [thenQ, dI, dB, List.length, Nat.zero_add, Nat.reduceAdd, Nat.reduceMul, ARun_none, AOpRun, aexec, FSt.ev, St.F, eget_c, Nat.reduceBEq, ↓eget_h, cond_false, AGo_ok, St.app, putO, eput_c, eput_n, hups, List.map, Option.map, run1, hget_c, beq_self_eq_true, hget_n, cond_true, List.getElem?_cons_succ, List.getElem?_cons_zero, rows_len, isSh, Bool.false_eq_true, ↓reduceIte, abin, ARun_nil, dropE_c, inL_c, inL_n, dropE_n, hr, decide_false])))
    all_goals (refine end_q [] [] ?_ ?_ <;> repeat' (first | exact trivial | exact vr_val _))
  have g1 := rows_gd frs k hk2
  rw [show frs[k]?.getD [] = frm frs k from rfl] at g1
  cases he : decide (((frm frs k).length : Int) > 50) with
  | true =>
    have e : frs.any (fun f => decide ((f.length : Int) > 50)) = true := List.any_eq_true.2 ⟨frs[k], List.getElem_mem hk2, by
      simp only [frm, hk2, List.getElem?_eq_getElem, Option.getD_some] at he
      exact he⟩
    rw [e]
    (have hg : (987654321 : Nat) - 987654321 = 0 := rfl; have hr := hg; repeat' (first | apply aw_seq | ((first | apply aw_skip | apply aw_exit); try simp only [thenQ, blockQ, if_true, if_false, Nat.reduceEqDiff, reduceCtorEq]) | apply aw_ret | apply aw_block | apply aw_condT rfl | apply aw_condF rfl | (refine aw_cond rfl (fun hg => ?_) (fun hg => ?_) <;> (try (have hq := hg; simp only [Bool.not_eq_true', Bool.not_eq_false', Bool.and_eq_true, Bool.and_eq_false_iff, Bool.or_eq_true, Bool.or_eq_false_iff, decide_eq_true_eq, decide_eq_false_iff_not, bne_iff_ne, beq_iff_eq, beq_eq_false_iff_ne, bne_eq_false_iff_eq, ne_eq, Int.not_lt, Int.not_le, Decidable.not_not] at hq)) <;> (try (have hr := hg; simp only [decide_eq_true_eq, decide_eq_false_iff_not] at hr)) <;> (try (exfalso; omega))) | ((first | refine aw_region ?_ | refine ago_if (by omega) ?_ | skip); simp (disch := first | exact okY | omega) only [thenQ, dI, dB, List.length, Nat.zero_add, Nat.reduceAdd, Nat.reduceMul, ARun_none, AOpRun, aexec, FSt.ev, St.F, eget_c, Nat.reduceBEq, ↓eget_h, cond_false, AGo_ok, St.app, putO, eput_c, eput_n, hups, List.map, Option.map, run1, hget_c, beq_self_eq_true, hget_n, cond_true, List.getElem?_cons_succ, List.getElem?_cons_zero, rows_len, isSh, Bool.false_eq_true, ↓reduceIte, abin, ARun_nil, dropE_c, inL_c, inL_n, dropE_n, hr, decide_true, Int.natCast_nonneg, rows_all, and_self, opt1, Int.toNat_natCast, g1, ints_len, he, blockQ])))
    all_goals (refine end_q [] [] ?_ ?_ <;> repeat' (first | exact trivial | exact vr_val _))
  | false =>
    (have hg : (987654321 : Nat) - 987654321 = 0 := rfl; have hr := hg; repeat' (first | apply aw_seq | ((first | apply aw_skip | apply aw_exit); try simp only [thenQ, blockQ, if_true, if_false, Nat.reduceEqDiff, reduceCtorEq]) | apply aw_ret | apply aw_block | apply aw_condT rfl | apply aw_condF rfl | (refine aw_cond rfl (fun hg => ?_) (fun hg => ?_) <;> (try (have hq := hg; simp only [Bool.not_eq_true', Bool.not_eq_false', Bool.and_eq_true, Bool.and_eq_false_iff, Bool.or_eq_true, Bool.or_eq_false_iff, decide_eq_true_eq, decide_eq_false_iff_not, bne_iff_ne, beq_iff_eq, beq_eq_false_iff_ne, bne_eq_false_iff_eq, ne_eq, Int.not_lt, Int.not_le, Decidable.not_not] at hq)) <;> (try (have hr := hg; simp only [decide_eq_true_eq, decide_eq_false_iff_not] at hr)) <;> (try (exfalso; omega))) | ((first | refine aw_region ?_ | refine ago_if (by omega) ?_ | skip); simp (disch := first | exact okY | omega) only [thenQ, dI, dB, List.length, Nat.zero_add, Nat.reduceAdd, Nat.reduceMul, ARun_none, AOpRun, aexec, FSt.ev, St.F, eget_c, Nat.reduceBEq, ↓eget_h, cond_false, AGo_ok, St.app, putO, eput_c, eput_n, hups, List.map, Option.map, run1, hget_c, beq_self_eq_true, hget_n, cond_true, List.getElem?_cons_succ, List.getElem?_cons_zero, rows_len, isSh, Bool.false_eq_true, ↓reduceIte, abin, ARun_nil, dropE_c, inL_c, inL_n, dropE_n, hr, decide_true, Int.natCast_nonneg, rows_all, and_self, opt1, Int.toNat_natCast, g1, ints_len, he, fits])))
    refine ⟨k + 1, ⟨by omega, fun j hj => ?_⟩, by omega, ?_⟩
    · rcases (by omega : j < k ∨ j = k) with h | rfl
      · exact hin j h
      · exact he
    · refine wk_q [] [(0, 0)] ?_ ?_ <;> repeat' (first | exact trivial | exact vr_val _ | exact vr_list _ | exact vr_ptr _ _ _ rfl | refine And.intro ⟨_, rfl, .inl ⟨_, rfl, by decide, ?_⟩⟩ ?_ | apply And.intro)
end Go.Proofs.Ytdcodicoclecnaa
/- The law of Events (views last). No conditions. -/
namespace Go.Proofs.Ytdcodicoclecnaa
open Go Go.RowKit Lift

theorem cc_all : ∀ l : List Cd, (cdcells l).all isV = true
  | [] => rfl
  | f :: l => by
    have := cc_all l
    unfold cdcells at *
    rw [List.flatMap_cons, List.all_append, this]; rfl
theorem cc_leaf : ∀ l : List Cd, (cdcells l).all D.leaf = true
  | [] => rfl
  | f :: l => by
    have := cc_leaf l
    unfold cdcells at *
    rw [List.flatMap_cons, List.all_append, this]; rfl
set_option maxRecDepth 100000 in
set_option maxHeartbeats 2000000 in
theorem copied_ac (cs : List Cd) (h : Int) (hn : cs.length ≤ 1000) : AC Try.prog 46 [evD cs h] [] [] (evD cs h) := by
  refine klaw12_copied.ac (n0 := 0) (by simp) ⟨in_ev _ _ _, trivial⟩ trivial rfl ?_
  unfold claw12_copied evD
  have a1 := cds_len cs
  have a2 := cds_all cs
  have a3 := cds_flat cs
  have a4 := cc_leaf cs
  refine aw_seq (aw_region ?_)
  simp (disch := first | exact okY | omega) only [thenQ, List.map, dI, List.length, Nat.zero_add, Nat.reduceAdd, Nat.reduceMul, envOf, ARun_none, AOpRun, aexec, D.isBot, FSt.ev, St.F, ↓eget_h, Bool.false_eq_true, Option.isSome, hget_n, or_self, ↓reduceIte, D.cells, AGo_ok, St.app, putO, eput_c, Nat.reduceBEq, eput_n, cond_false, hups, hput_n, hget_c, hput_c, ARun_nil, dropE_c, inL_n, dropE_n]
  refine aw_seq (aw_region ?_)
  simp (disch := first | exact okY | omega) only [thenQ, List.length, Nat.zero_add, Nat.reduceAdd, Nat.reduceMul, ARun_none, AOpRun, aexec, Option.isSome, hget_c, Nat.reduceBEq, hget_n, cond_false, Bool.false_eq_true, ↓reduceIte, Option.map, fillD, AGo_ok, St.app, putO, eput_c, eput_n, hups, hput_c, hput_n, List.map, FSt.ev, St.F, eget_c, ↓eget_h, run1, beq_self_eq_true, cond_true, List.getElem?_cons_zero, base, ↓hget_h, Nat.zero_le, and_self, List.take, elems, a2, a1, a3, a4, and_true, ups, List.nil_append, List.cons_append]
  refine ago_if (by omega) ?_
  simp (disch := first | exact okY | omega) only [AGo_ok, Nat.reduceAdd, St.app, putO, eput_c, Nat.reduceBEq, eput_n, cond_false, hups, hput_c, hput_n, hdel_c, beq_self_eq_true, hdel_n, cond_true, List.map, ARun_none, AOpRun, aexec, FSt.ev, St.F, eget_c, ↓eget_h, Nat.zero_add, Option.map, run1, hget_c, hget_n, List.getElem?_cons_succ, List.getElem?_cons_zero, fillD, D.isBot, Bool.false_eq_true, D.cells, List.length, ne_eq, not_true_eq_false, Nat.reduceGT, or_self, ↓reduceIte, splice, List.take, List.nil_append, List.drop, List.cons_append, List.append_nil, ↓hget_h, Nat.reduceLeDiff, List.all, D.leaf, Bool.and_true, and_self, ARun_nil, dropE_c, inL_c, inL_n, dropE_n]
  refine aw_ret ?_
  refine end_q [40] [] ?_ ?_ <;> repeat' (first | exact trivial | exact vr_val _ | apply vr_agg | refine vr_fl _ _ _ _ _ (by decide) rfl ?_ ?_ ?_ ?_ | apply And.intro)
  all_goals first | exact cds_three _ | exact cds_len _ | exact cds_flat _ | exact vals_in (cc_all _)
set_option maxRecDepth 100000 in
set_option maxHeartbeats 1000000 in
theorem farE_ac (cs : List Cd) (h : Int) (hn : cs.length ≤ maxLen) : AC Try.prog 44 [evD cs h] [] [] (dB (decide ((cs.length : Int) > 8))) := by
  refine klaw12_farEvent.ac (n0 := 0) (by simp) ⟨in_ev _ _ _, trivial⟩ trivial rfl ?_
  unfold claw12_farEvent evD
  have hmax : maxLen = 9223372036854775807 := rfl
  cases q : decide ((cs.length : Int) > 8)
  all_goals
    (repeat' (first | apply aw_seq | ((first | apply aw_skip | apply aw_exit); try simp only [thenQ, blockQ, if_true, if_false, Nat.reduceEqDiff, reduceCtorEq]) | apply aw_ret | apply aw_block | apply aw_condT rfl | apply aw_condF rfl | ((first | refine aw_region ?_ | refine ago_if (by omega) ?_ | skip); simp (disch := first | exact okY | omega) only [thenQ, List.map, dB, List.length, Nat.zero_add, Nat.reduceAdd, Nat.reduceMul, envOf, dI, ARun_none, AOpRun, aexec, D.isBot, FSt.ev, St.F, ↓eget_h, Bool.false_eq_true, Option.isSome, hget_n, or_self, ↓reduceIte, D.cells, AGo_ok, St.app, putO, eput_c, Nat.reduceBEq, eput_n, cond_false, hups, hput_n, ARun_nil, dropE_c, inL_n, dropE_n, eget_c, Option.map, run1, hget_c, beq_self_eq_true, cond_true, List.getElem?_cons_zero, cds_len, isSh, abin, q, inL_c])))
    all_goals (refine end_q [] [] ?_ ?_ <;> repeat' (first | exact trivial | exact vr_val _))
end Go.Proofs.Ytdcodicoclecnaa
/- The law of all events (views last). No conditions. -/
namespace Go.Proofs.Ytdcodicoclecnaa
open Go Go.RowKit Lift

theorem evls_take (x : List Evt) (k : Nat) (h : k < x.length) : evls (x.take (k + 1)) = evls (x.take k) ++ [[.list (cds (evAt x k).1), dI (evAt x k).2]] := by
  rw [show x.take (k + 1) = x.take k ++ [x[k]] from (List.take_append_getElem h).symm]
  show List.map _ (x.take k ++ [x[k]]) = _
  rw [List.map_append]
  congr 1
  simp [evAt, h]
def ecells (x : List Evt) : List D := (evls x).flatten
theorem ecells_take (x : List Evt) (k : Nat) (h : k < x.length) : ecells (x.take (k + 1)) = ecells (x.take k) ++ [.list (cds (evAt x k).1), .val (.int .i64 (evAt x k).2)] := by
  unfold ecells
  rw [evls_take x k h]; simp [dI]
theorem ecells_len (x : List Evt) : (ecells x).length = x.length * 2 := by
  unfold ecells
  induction x with
  | nil => rfl
  | cons e l ih =>
    show (([.list (cds e.1), dI e.2] : List D) ++ (evls l).flatten).length = _
    rw [List.length_append, ih]; simp only [List.length_cons, List.length_nil]; omega
theorem ecells_in (x : List Evt) (S : Nat → Prop) : ∀ d ∈ ecells x, In S d := fun d hd => by
  unfold ecells at hd
  rw [List.mem_flatten] at hd
  obtain ⟨c, hc, hd⟩ := hd
  obtain ⟨e, _, rfl⟩ := List.mem_map.1 hc
  simp only [List.mem_cons, List.not_mem_nil, or_false] at hd
  rcases hd with rfl | rfl
  · exact .list _
  · exact .val _
theorem evls_two (x : List Evt) : ∀ e ∈ evls x, e.length = 2 := fun e he => by
  obtain ⟨q, _, rfl⟩ := List.mem_map.1 he
  rfl
theorem allL_le {S : Nat → List (Int × Int)} {M : Nat} (h : ∀ i, (S i).length ≤ M) : ∀ n, (allL S n).length ≤ M * n
  | 0 => by simp [allL]
  | n + 1 => by
    have h1 := allL_le h n
    have h2 := h n
    show (allL S n ++ fnd n (S n)).length ≤ _
    rw [List.length_append, fnd_len, Nat.mul_succ]; omega
theorem alR_len (l : Lay) (frs : List (List Int)) (x : List Evt) (h : frs.length ≤ 220) : (alR l frs x).length ≤ 221 * x.length := by
  unfold alR
  split
  · rw [isrt_len _ _ rfl]
    refine allL_le (fun k => ?_) _
    have hb := (evK_bd (isJ l frs (evAt x k).1) (evAt x k).2 (frs.length + 1))
    unfold evS
    omega
  · simp
theorem fdL_all (L : List Fd) : (fdL L).all (fun y => y.length == 3) = true := by
  refine List.all_eq_true.2 fun y hy => ?_
  obtain ⟨q, _, rfl⟩ := List.mem_map.1 hy
  rfl
theorem fdL_gd (L : List Fd) (k : Nat) (h : k < L.length) : (fdL L)[k]? = some [.val (.int .i64 (fat L k).1), .val (.int .i64 (fat L k).2.1), .val (.int .i64 (fat L k).2.2)] := by simp [fdL, fat, h, fc, dI]
set_option maxRecDepth 100000 in
set_option maxHeartbeats 16000000 in
theorem lawAll_ac (l : Lay) (frs : List (List Int)) (x : List Evt) (hl : LayIn l) (hf : FrIn frs) (hn : ∀ k, (evAt x k).1.length ≤ maxLen) : AC Try.prog 14 [tpD l frs, .list (evls x)] [] [] (dB true) := by
  refine klaw12_RecordAll.ac (n0 := 0) (by simp) ⟨in_tpD _ _ _, .list _, trivial⟩ trivial rfl ?_
  unfold claw12_RecordAll
  have hmax : maxLen = 9223372036854775807 := rfl
  have fa := far_ac l frs hl.nf hf.n hf.m
  have ll := evls_len x
  have la := evls_all x
  have gd := evls_gd x
  unfold tpD at *
  cases hb : farTp l frs with
  | true =>
    rw [hb] at fa
    (repeat' (first | (with_reducible first | refine thenQ_n ?_ | refine blockQ_n ?_ | refine thenQ_e ?_ | refine blockQ_t ?_ | refine blockQ_f (by decide) ?_) | apply aw_seq | apply aw_skip | apply aw_exit | apply aw_ret | apply aw_block | apply aw_condT rfl | apply aw_condF rfl | ((first | refine aw_hide fun K hK => aw_region ?_ | refine acall0 (fa) ?_ | refine acall0 (works_ac) ?_ | refine ago_if (by omega) ?_ | skip); simp (disch := first | exact okY | omega) only [List.length, Nat.zero_add, Nat.reduceAdd, Nat.reduceMul, envOf, dI, ARun_none, AOpRun, aexec, D.isBot, FSt.ev, St.F, ↓eget_h, Bool.false_eq_true, Option.isSome, hget_n, or_self, ↓reduceIte, D.cells, AGo_ok, St.app, putO, eput_c, Nat.reduceBEq, eput_n, cond_false, hups, hput_n, List.map, ARun_nil, dropE_c, inL_n, dropE_n, eget_c, hget_c, beq_self_eq_true, cond_true, Nat.reduceLeDiff, List.drop, List.take, dB, ARun_some, AG_tf, inL_c, thenQ]) | subst hK))
    all_goals (refine end_q [] [] ?_ ?_ <;> repeat' (first | exact trivial | exact vr_val _))
  | false =>
  rw [hb] at fa
  cases q : decide ((x.length : Int) > 12) with
  | true =>
    generalize evls x = XX at *
    (repeat' (first | (with_reducible first | refine thenQ_n ?_ | refine blockQ_n ?_ | refine thenQ_e ?_ | refine blockQ_t ?_ | refine blockQ_f (by decide) ?_) | apply aw_seq | apply aw_skip | apply aw_exit | apply aw_ret | apply aw_block | apply aw_condT rfl | apply aw_condF rfl | ((first | refine aw_hide fun K hK => aw_region ?_ | refine acall0 (fa) ?_ | refine acall0 (works_ac) ?_ | refine ago_if (by omega) ?_ | skip); simp (disch := first | exact okY | omega) only [List.length, Nat.zero_add, Nat.reduceAdd, Nat.reduceMul, envOf, dI, ARun_none, AOpRun, aexec, D.isBot, FSt.ev, St.F, ↓eget_h, Bool.false_eq_true, Option.isSome, hget_n, or_self, ↓reduceIte, D.cells, AGo_ok, St.app, putO, eput_c, Nat.reduceBEq, eput_n, cond_false, hups, hput_n, List.map, ARun_nil, dropE_c, inL_n, dropE_n, eget_c, hget_c, beq_self_eq_true, cond_true, Nat.reduceLeDiff, List.drop, List.take, dB, ARun_some, AG_ff, ll, isSh, Option.map, abin, q, inL_c, thenQ]) | subst hK))
    all_goals (refine end_q [] [] ?_ ?_ <;> repeat' (first | exact trivial | exact vr_val _))
  | false =>
  have n12 := of_decide_eq_false q
  obtain ⟨f1, f2, f3⟩ := far_small hb
  have fe := fun k => farE_ac (evAt x k).1 (evAt x k).2 (hn k)
  have co := fun k h => copied_ac (evAt x k).1 (evAt x k).2 h
  have ow := own_ac l frs (by omega) (by omega) (fun k => by have := f3 k; omega)
  have c1 := fun h => recAll_ac l frs x hl hf (by omega) h
  have c2 := fun h => refAll_ac l frs x hl hf (by omega) h
  unfold tpD layD layC evD at *
  generalize hX : evls x = XX at *
  (repeat' (first | (with_reducible first | refine thenQ_n ?_ | refine blockQ_n ?_ | refine thenQ_e ?_ | refine blockQ_t ?_ | refine blockQ_f (by decide) ?_) | apply aw_seq | apply aw_skip | apply aw_exit | apply aw_ret | apply aw_block | apply aw_condT rfl | apply aw_condF rfl | ((first | refine aw_hide fun K hK => aw_region ?_ | refine acall0 (fa) ?_ | refine ago_if (by omega) ?_ | skip); simp (disch := first | exact okY | omega) only [List.length, Nat.zero_add, Nat.reduceAdd, Nat.reduceMul, envOf, dI, ARun_none, AOpRun, aexec, D.isBot, FSt.ev, St.F, ↓eget_h, Bool.false_eq_true, Option.isSome, hget_n, or_self, ↓reduceIte, D.cells, AGo_ok, St.app, putO, eput_c, Nat.reduceBEq, eput_n, cond_false, hups, hput_n, List.map, ARun_nil, dropE_c, inL_n, dropE_n, eget_c, hget_c, beq_self_eq_true, cond_true, Nat.reduceLeDiff, List.drop, List.take, dB, ARun_some, AG_ff, ll, isSh, Option.map, abin, q, inL_c]) | subst hK))
  clear fa
  refine aw_loop (fun i : Nat => ⟨[(1, .list XX), (2, .ptr 0 0), (5, .vec 40 i 2), (6, dI i)], [(0, [dI l.words, dI l.s0, dI l.s1, dI l.s2, dI l.s3, .list (fls l.fl), .list (rows frs)]), (40, ecells (x.take i))], 1000⟩) (fun i => i ≤ x.length ∧ ∀ k, k < i → (evAt x k).1.length ≤ 8) (fun i => x.length - i) ⟨0, ⟨by omega, fun k h => by omega⟩, ?_⟩ ?_
  · show Wk _ _ ⟨[_, _, (5, .vec 40 0 2), _], [_, (40, [])], _⟩
    unfold dI
    refine wk_q [] [(0, 0), (40, 900)] ?_ ?_ <;> repeat' (first | exact trivial | exact vr_val _ | exact vr_list _ | exact vr_ptr _ _ _ rfl | exact vr_nilv _ _ _ rfl | refine And.intro ⟨_, rfl, .inl ⟨_, rfl, by decide, ?_⟩⟩ ?_ | refine And.intro ⟨_, rfl, .inr ⟨rfl, rfl, of_decide_eq_true (by kernel_rfl)⟩⟩ ?_ | apply And.intro)
  rintro i ⟨hi, hin⟩
  by_cases hi2 : i < x.length
  case pos =>
    have d0 : decide ((i : Int) < (x.length : Int)) = true := decide_eq_true (by omega)
    have ki : (i : Int) < (x.length : Int) := by omega
    have gd := gd i hi2
    have fe := fe i
    cases q8 : decide (((evAt x i).1.length : Int) > 8) with
    | true =>
      rw [q8] at fe
      clear co c1 c2 hin
      generalize evAt x i = ee at *
      (repeat' (first | (with_reducible first | refine thenQ_n ?_ | refine blockQ_n ?_ | refine thenQ_e ?_ | refine blockQ_t ?_ | refine blockQ_f (by decide) ?_) | apply aw_seq | apply aw_skip | apply aw_exit | apply aw_ret | apply aw_block | apply aw_condT rfl | apply aw_condF rfl | ((first | refine aw_hide fun K hK => aw_region ?_ | refine acall0 (fe) ?_ | refine acall0 (works_ac) ?_ | refine ago_if (by omega) ?_ | skip); simp (disch := first | exact okY | omega) only [List.length, Nat.zero_add, Nat.reduceAdd, Nat.reduceMul, dI, ARun_none, AOpRun, aexec, FSt.ev, St.F, eget_c, Nat.reduceBEq, ↓eget_h, cond_false, AGo_ok, St.app, putO, eput_c, eput_n, hups, List.map, ll, isSh, Bool.false_eq_true, ↓reduceIte, Option.map, abin, ki, decide_true, ARun_nil, dropE_c, inL_c, inL_n, beq_self_eq_true, cond_true, dropE_n, Int.natCast_nonneg, la, and_self, opt1, Int.toNat_natCast, gd, Nat.reduceLeDiff, List.take, dB, thenQ, blockQ]) | subst hK))
      all_goals (refine end_q [] [] ?_ ?_ <;> repeat' (first | exact trivial | exact vr_val _))
    | false =>
      have n8 := of_decide_eq_false q8
      rw [q8] at fe
      have co := co i (by omega)
      have nx : ∃ i', (i' ≤ x.length ∧ ∀ k, k < i' → (evAt x k).1.length ≤ 8) ∧ x.length - i' < x.length - i ∧ i' = i + 1 := ⟨i + 1, ⟨by omega, fun k hk => by
        rcases (by omega : k < i ∨ k = i) with h | rfl
        · exact hin k h
        · omega⟩, by omega, rfl⟩
      obtain ⟨i', n1, n2, rfl⟩ := nx
      have et := ecells_take x i hi2
      have el := ecells_len (x.take i)
      rw [List.length_take, Nat.min_eq_left hi] at el
      have ett : (ecells (x.take i)).take (i * 2) = ecells (x.take i) := List.take_of_length_le (by omega)
      have ein := ecells_in (x.take (i + 1)) (fun _ => False)
      rw [et] at ein
      clear c1 c2 hin
      generalize evAt x i = ee at *
      generalize ecells (x.take i) = W at *
      (repeat' (first | (with_reducible first | refine thenQ_n ?_ | refine blockQ_n ?_ | refine thenQ_e ?_ | refine blockQ_t ?_ | refine blockQ_f (by decide) ?_) | apply aw_seq | apply aw_skip | apply aw_exit | apply aw_ret | apply aw_block | apply aw_condT rfl | apply aw_condF rfl | ((first | refine aw_hide fun K hK => aw_region ?_ | refine acall0 (fe) ?_ | refine acall0 (co) ?_ | refine ago_if (by omega) ?_ | skip); simp (disch := first | exact okY | omega) only [List.length, Nat.zero_add, Nat.reduceAdd, Nat.reduceMul, dI, ARun_none, AOpRun, aexec, FSt.ev, St.F, eget_c, Nat.reduceBEq, ↓eget_h, cond_false, AGo_ok, St.app, putO, eput_c, eput_n, hups, List.map, ll, isSh, Bool.false_eq_true, ↓reduceIte, Option.map, abin, ki, decide_true, ARun_nil, dropE_c, inL_c, inL_n, beq_self_eq_true, cond_true, dropE_n, Int.natCast_nonneg, la, and_self, opt1, Int.toNat_natCast, gd, Nat.le_refl, List.take, dB, Option.isSome, hget_c, hget_n, fillD, D.isBot, D.cells, ne_eq, not_true_eq_false, Nat.reduceGT, or_self, splice, List.nil_append, List.drop, List.append_nil, hput_c, hput_n, base, ↓hget_h, el, ett, elems, List.all, D.leaf, Bool.and_true, and_true, ups, List.cons_append, hdel_c, hdel_n, fits]) | subst hK))
      refine ⟨i + 1, n1, n2, ?_⟩
      simp only [et]
      refine wk_q [] [(0, 0), (40, 1128)] ?_ ?_ <;> repeat' (first | exact trivial | exact vr_val _ | exact vr_list _ | exact vr_vec _ _ _ _ rfl | exact vr_ptr _ _ _ rfl | refine And.intro ⟨_, rfl, .inl ⟨_, rfl, by decide, ?_⟩⟩ ?_ | apply And.intro | exact vrl_flat _ (by first | exact icells_in _ | exact rcells_in _ | exact scells_in _ | exact bcells_in _ | assumption) | fail)
      all_goals exact vrl_flat _ ein
  obtain rfl : i = x.length := by omega
  have hc : ∀ k, (evAt x k).1.length ≤ 1000000 := fun k => by
    by_cases hk : k < x.length
    · have := hin k hk; omega
    · simp [evAt, List.getElem?_eq_none (Nat.le_of_not_lt hk)]
  have c1 := c1 hc
  have c2 := c2 hc
  have d0 : decide ((x.length : Int) < (x.length : Int)) = false := decide_eq_false (by omega)
  clear co fe gd hin hc
  refine aw_wk (s' := ⟨[(1, .list XX), (2, .ptr 0 0), (5, .list XX), (6, dI x.length)], [(0, [dI l.words, dI l.s0, dI l.s1, dI l.s2, dI l.s3, .list (fls l.fl), .list (rows frs)])], 2000⟩) ?_ ?_
  · rw [List.take_length]
    have ein := ecells_in x (fun _ => False)
    have el := ecells_len x
    have e2 : (evls x).flatten = ecells x := rfl
    have e3 := evls_two x
    have e4 := evls_len x
    rw [hX] at e2 e3 e4
    unfold dI
    refine wk_q [40] [(0, 0)] ?_ ?_ <;> repeat' (first | exact trivial | exact vr_val _ | exact vr_list _ | exact vr_ptr _ _ _ rfl | refine vr_fl _ _ _ _ _ (by decide) rfl ?_ ?_ ?_ ?_ | refine And.intro ⟨_, rfl, .inl ⟨_, rfl, by decide, ?_⟩⟩ ?_ | apply And.intro)
    all_goals first | exact e3 | exact e4 | (rw [List.take_of_length_le (by omega)]; exact e2) | exact e2 | exact ein
  have hLl := alR_len l frs x f2
  generalize alR l frs x = L at *
  generalize alE l frs x = E at *
  have f0 := fdL_len L
  have fa := fdL_all L
  have fg := fdL_gd L
  generalize fdL L = FF at *
  have b1 : ((L.length : Int) != (L.length : Int)) = false := by simp
  have b2 : (E != E) = false := by simp
  (repeat' (first | (with_reducible first | refine thenQ_n ?_ | refine blockQ_n ?_ | refine thenQ_e ?_ | refine blockQ_t ?_ | refine blockQ_f (by decide) ?_) | apply aw_seq | apply aw_skip | apply aw_exit | apply aw_ret | apply aw_block | apply aw_condT rfl | apply aw_condF rfl | ((first | refine aw_hide fun K hK => aw_region ?_ | refine acall0 (ow) ?_ | refine acall0 (c1) ?_ | refine acall0 (c2) ?_ | refine ago_if (by omega) ?_ | skip); simp (disch := first | exact okY | omega) only [List.length, Nat.zero_add, Nat.reduceAdd, Nat.reduceMul, dI, ARun_none, AOpRun, aexec, FSt.ev, St.F, eget_c, Nat.reduceBEq, ↓eget_h, cond_false, AGo_ok, St.app, putO, eput_c, eput_n, hups, List.map, ll, isSh, Bool.false_eq_true, ↓reduceIte, Option.map, abin, d0, ARun_nil, dropE_c, inL_c, inL_n, beq_self_eq_true, cond_true, dropE_n, hget_c, hget_n, Nat.reduceLeDiff, List.drop, List.take, Option.isSome, hput_c, hput_n, ↓hget_h, D.isBot, D.cells, List.all, D.leaf, Bool.and_true, and_self, splice, List.nil_append, List.append_nil, run1, List.getElem?_cons_succ, List.getElem?_cons_zero, opt1, f0, bne_self_eq_false, ARun_some, AG_ff]) | subst hK))
  refine aw_loop (fun k : Nat => ⟨[(8, .list FF), (10, .list FF), (12, dI k)], [], 4000⟩) (fun k => k ≤ L.length) (fun k => L.length - k) ⟨0, by omega, ?_⟩ ?_
  · unfold dI
    refine wk_q [] [] ?_ ?_ <;> repeat' (first | exact trivial | exact vr_val _ | exact vr_list _ | apply And.intro)
  intro k hk
  by_cases hk2 : k < L.length
  case neg =>
    obtain rfl : k = L.length := by omega
    have d1 : decide ((L.length : Int) < (L.length : Int)) = false := decide_eq_false (by omega)
    (repeat' (first | (with_reducible first | refine thenQ_n ?_ | refine blockQ_n ?_ | refine thenQ_e ?_ | refine blockQ_t ?_ | refine blockQ_f (by decide) ?_) | apply aw_seq | apply aw_skip | apply aw_exit | apply aw_ret | apply aw_block | apply aw_condT rfl | apply aw_condF rfl | ((first | refine aw_hide fun K hK => aw_region ?_ | refine acall0 (works_ac) ?_ | refine ago_if (by omega) ?_ | skip); simp (disch := first | exact okY | omega) only [List.length, Nat.zero_add, Nat.reduceAdd, Nat.reduceMul, dI, ARun_none, AOpRun, aexec, FSt.ev, St.F, eget_c, Nat.reduceBEq, ↓eget_h, cond_false, AGo_ok, St.app, putO, eput_c, eput_n, hups, List.map, f0, isSh, Bool.false_eq_true, ↓reduceIte, Option.map, abin, d1, ARun_nil, dropE_c, inL_c, inL_n, beq_self_eq_true, cond_true, dropE_n, dB]) | subst hK))
    all_goals (refine end_q [] [] ?_ ?_ <;> repeat' (first | exact trivial | exact vr_val _))
  have d1 : decide ((k : Int) < (L.length : Int)) = true := decide_eq_true (by omega)
  have kj : (k : Int) < (L.length : Int) := by omega
  have fg := fg k hk2
  generalize fat L k = y at *
  have y1 : (y.1 == y.1) = true := by simp
  have y2 : (y.2.1 == y.2.1) = true := by simp
  have y3 : (y.2.2 == y.2.2) = true := by simp
  have kb : (k : Int) ≤ 100000 := by omega
  (repeat' (first | (with_reducible first | refine thenQ_n ?_ | refine blockQ_n ?_ | refine thenQ_e ?_ | refine blockQ_t ?_ | refine blockQ_f (by decide) ?_) | apply aw_seq | apply aw_skip | apply aw_exit | apply aw_ret | apply aw_block | apply aw_condT rfl | apply aw_condF rfl | ((first | refine aw_hide fun K hK => aw_region ?_ | refine ago_if (by omega) ?_ | skip); simp (disch := first | exact okY | omega) only [List.length, Nat.zero_add, Nat.reduceAdd, Nat.reduceMul, dI, ARun_none, AOpRun, aexec, FSt.ev, St.F, eget_c, Nat.reduceBEq, ↓eget_h, cond_false, AGo_ok, St.app, putO, eput_c, eput_n, hups, List.map, f0, isSh, Bool.false_eq_true, ↓reduceIte, Option.map, abin, kj, decide_true, ARun_nil, dropE_c, inL_c, inL_n, beq_self_eq_true, cond_true, dropE_n, Int.natCast_nonneg, fa, and_self, opt1, Int.toNat_natCast, fg, Nat.reduceLeDiff, List.take, D.isAgg, D.cells, isB, eqCells, scalarEq, Bool.and_true, bne_self_eq_false, fits]) | subst hK))
  refine ⟨k + 1, by omega, by omega, ?_⟩
  refine wk_q [] [] ?_ ?_ <;> repeat' (first | exact trivial | exact vr_val _ | exact vr_list _ | apply And.intro)
end Go.Proofs.Ytdcodicoclecnaa
/- Arguments that came in: what their cells are. No conditions. -/
namespace Go.Proofs.Ytdcodicoclecnaa
open Go.RowKit Lift

theorem in_ints {l : List (List D)} (h : ∀ x ∈ l, CfL [.int] x) : ∃ xs, l = ints xs ∧ ∀ x ∈ xs, -9223372036854775808 ≤ x ∧ x ≤ 9223372036854775807 := by
  induction l with
  | nil => exact ⟨[], rfl, by simp⟩
  | cons x l ih =>
    obtain ⟨xs, rfl, hx⟩ := ih fun y hy => h y (List.mem_cons_of_mem _ hy)
    have h0 := h x (List.mem_cons_self ..)
    cases h0 with
    | int n ss ds h1 h2 h3 =>
      cases h3
      exact ⟨n :: xs, rfl, fun y hy => by
        rcases List.mem_cons.1 hy with rfl | hy
        · exact ⟨h1, h2⟩
        · exact hx y hy⟩
theorem in_rows {l : List (List D)} (h : ∀ x ∈ l, CfL [.sl [.int]] x) : ∃ vs, l = rows vs ∧ ∀ r ∈ vs, r.length ≤ maxLen := by
  induction l with
  | nil => exact ⟨[], rfl, by simp⟩
  | cons x l ih =>
    obtain ⟨vs, rfl, hx⟩ := ih fun y hy => h y (List.mem_cons_of_mem _ hy)
    have h0 := h x (List.mem_cons_self ..)
    cases h0 with
    | sl e k ss ds h1 h2 h3 =>
      cases h3
      obtain ⟨xs, rfl, _⟩ := in_ints h2
      exact ⟨xs :: vs, rfl, fun y hy => by
        rcases List.mem_cons.1 hy with rfl | hy
        · simpa [ints] using h1
        · exact hx y hy⟩
end Go.Proofs.Ytdcodicoclecnaa
/- Arguments that came in: layouts, frames, cases. No conditions. -/
namespace Go.Proofs.Ytdcodicoclecnaa
open Go.RowKit Lift

theorem inc_int {ss : List Sh} {ds : List D} (h : CfL (.int :: ss) ds) : ∃ (a : Int) (r : List D), ds = dI a :: r ∧ CfL ss r ∧ -9223372036854775808 ≤ a ∧ a ≤ 9223372036854775807 := by
  cases h with
  | int a ss ds h1 h2 h3 => exact ⟨a, ds, rfl, h3, h1, h2⟩
theorem inc_bool {ss : List Sh} {ds : List D} (h : CfL (.bool :: ss) ds) : ∃ (a : Bool) (r : List D), ds = dB a :: r ∧ CfL ss r := by
  cases h with
  | bool a ss ds h3 => exact ⟨a, ds, rfl, h3⟩
theorem inc_sl {e ss : List Sh} {ds : List D} (h : CfL (.sl e :: ss) ds) : ∃ (l : List (List D)) (r : List D), ds = .list l :: r ∧ CfL ss r ∧ l.length ≤ maxLen ∧ ∀ x ∈ l, CfL e x := by
  cases h with
  | sl e l ss ds h1 h2 h3 => exact ⟨l, ds, rfl, h3, h1, h2⟩
theorem inc_nil {ds : List D} (h : CfL [] ds) : ds = [] := by cases h; rfl
theorem in_fls {l : List (List D)} (h : ∀ x ∈ l, CfL [.int, .int, .int, .bool, .int, .int, .int, .int, .int] x) : ∃ fs : List Fl, l = fls fs ∧ ∀ f ∈ fs, f.size ≤ 9223372036854775807 := by
  induction l with
  | nil => exact ⟨[], rfl, by simp⟩
  | cons x l ih =>
    obtain ⟨fs, rfl, hx⟩ := ih fun y hy => h y (List.mem_cons_of_mem _ hy)
    obtain ⟨a1, _, rfl, e1, _, _⟩ := inc_int (h x (List.mem_cons_self ..))
    obtain ⟨a2, _, rfl, e2, _, _⟩ := inc_int e1
    obtain ⟨a3, _, rfl, e3, _, b3⟩ := inc_int e2
    obtain ⟨a4, _, rfl, e4⟩ := inc_bool e3
    obtain ⟨a5, _, rfl, e5, _, _⟩ := inc_int e4
    obtain ⟨a6, _, rfl, e6, _, _⟩ := inc_int e5
    obtain ⟨a7, _, rfl, e7, _, _⟩ := inc_int e6
    obtain ⟨a8, _, rfl, e8, _, _⟩ := inc_int e7
    obtain ⟨a9, _, rfl, e9, _, _⟩ := inc_int e8
    obtain rfl := inc_nil e9
    exact ⟨⟨a1, a2, a3, a4, a5, a6, a7, a8, a9⟩ :: fs, rfl, fun y hy => by
      rcases List.mem_cons.1 hy with rfl | hy
      · exact b3
      · exact hx y hy⟩
theorem in_lay {ss : List Sh} {ds : List D} (h : CfL (.int :: .int :: .int :: .int :: .int :: .sl [.int, .int, .int, .bool, .int, .int, .int, .int, .int] :: ss) ds) : ∃ (l : Lay) (r : List D), ds = dI l.words :: dI l.s0 :: dI l.s1 :: dI l.s2 :: dI l.s3 :: .list (fls l.fl) :: r ∧ CfL ss r ∧ LayIn l := by
  obtain ⟨w, _, rfl, e1, _, _⟩ := inc_int h
  obtain ⟨s0, _, rfl, e2, _, _⟩ := inc_int e1
  obtain ⟨s1, _, rfl, e3, _, _⟩ := inc_int e2
  obtain ⟨s2, _, rfl, e4, _, _⟩ := inc_int e3
  obtain ⟨s3, _, rfl, e5, _, _⟩ := inc_int e4
  obtain ⟨l, r, rfl, e6, h1, h2⟩ := inc_sl e5
  obtain ⟨fs, rfl, h3⟩ := in_fls h2
  refine ⟨⟨w, s0, s1, s2, s3, fs⟩, r, rfl, e6, ⟨by simpa [fls] using h1, fun k hk => ?_⟩⟩
  have hk' : k < fs.length := hk
  show (fs[k]?.getD fl0).size ≤ _
  rw [List.getElem?_eq_getElem hk']
  exact h3 _ (List.getElem_mem hk')
theorem in_frames {ss : List Sh} {ds : List D} (h : CfL (.sl [.sl [.int]] :: ss) ds) : ∃ (frs : List (List Int)) (r : List D), ds = .list (rows frs) :: r ∧ CfL ss r ∧ FrIn frs := by
  obtain ⟨l, r, rfl, e1, h1, h2⟩ := inc_sl h
  obtain ⟨frs, rfl, h3⟩ := in_rows h2
  refine ⟨frs, r, rfl, e1, ⟨by simpa [rows] using h1, fun k => ?_⟩⟩
  unfold frm
  by_cases hk : k < frs.length
  · rw [List.getElem?_eq_getElem hk]; exact h3 _ (List.getElem_mem hk)
  · rw [List.getElem?_eq_none (by omega)]; simp
theorem in_tape {ds : List D} (h : CfL [.int, .int, .int, .int, .int, .sl [.int, .int, .int, .bool, .int, .int, .int, .int, .int], .sl [.sl [.int]]] ds) : ∃ (l : Lay) (frs : List (List Int)), ds = [dI l.words, dI l.s0, dI l.s1, dI l.s2, dI l.s3, .list (fls l.fl), .list (rows frs)] ∧ LayIn l ∧ FrIn frs := by
  obtain ⟨l, _, rfl, e1, hl⟩ := in_lay h
  obtain ⟨frs, _, rfl, e2, hf⟩ := in_frames e1
  obtain rfl := inc_nil e2
  exact ⟨l, frs, rfl, hl, hf⟩
end Go.Proofs.Ytdcodicoclecnaa
/- Arguments that came in: events. No conditions. -/
namespace Go.Proofs.Ytdcodicoclecnaa
open Go.RowKit Lift

theorem in_cds {l : List (List D)} (h : ∀ x ∈ l, CfL [.int, .int, .bool] x) : ∃ cs : List Cd, l = cds cs := by
  induction l with
  | nil => exact ⟨[], rfl⟩
  | cons x l ih =>
    obtain ⟨cs, rfl⟩ := ih fun y hy => h y (List.mem_cons_of_mem _ hy)
    obtain ⟨a1, _, rfl, e1, _, _⟩ := inc_int (h x (List.mem_cons_self ..))
    obtain ⟨a2, _, rfl, e2, _, _⟩ := inc_int e1
    obtain ⟨a3, _, rfl, e3⟩ := inc_bool e2
    obtain rfl := inc_nil e3
    exact ⟨⟨a1, a2, a3⟩ :: cs, rfl⟩
theorem in_evt {ss : List Sh} {ds : List D} (h : CfL (.sl [.int, .int, .bool] :: .int :: ss) ds) : ∃ (cs : List Cd) (n : Int) (r : List D), ds = .list (cds cs) :: dI n :: r ∧ CfL ss r ∧ cs.length ≤ maxLen := by
  obtain ⟨l, _, rfl, e1, h1, h2⟩ := inc_sl h
  obtain ⟨cs, rfl⟩ := in_cds h2
  obtain ⟨n, r, rfl, e2, _, _⟩ := inc_int e1
  exact ⟨cs, n, r, rfl, e2, by simpa [cds] using h1⟩
theorem in_event {ds : List D} (h : CfL [.sl [.int, .int, .bool], .int] ds) : ∃ (cs : List Cd) (n : Int), ds = [.list (cds cs), dI n] ∧ cs.length ≤ maxLen := by
  obtain ⟨cs, n, _, rfl, e, hn⟩ := in_evt h
  obtain rfl := inc_nil e
  exact ⟨cs, n, rfl, hn⟩
end Go.Proofs.Ytdcodicoclecnaa
/- Arguments that came in: a list of events. No conditions. -/
namespace Go.Proofs.Ytdcodicoclecnaa
open Go.RowKit Lift

theorem in_evl {l : List (List D)} (h : ∀ x ∈ l, CfL [.sl [.int, .int, .bool], .int] x) : ∃ x : List Evt, l = evls x ∧ ∀ e ∈ x, e.1.length ≤ maxLen := by
  induction l with
  | nil => exact ⟨[], rfl, by simp⟩
  | cons y l ih =>
    obtain ⟨x, rfl, hx⟩ := ih fun z hz => h z (List.mem_cons_of_mem _ hz)
    obtain ⟨cs, n, rfl, hn⟩ := in_event (h y (List.mem_cons_self ..))
    exact ⟨(cs, n) :: x, rfl, fun e he => by
      rcases List.mem_cons.1 he with rfl | he
      · exact hn
      · exact hx e he⟩
theorem in_events {ds : List D} (h : CfL [.sl [.sl [.int, .int, .bool], .int]] ds) : ∃ x : List Evt, ds = [.list (evls x)] ∧ ∀ k, (evAt x k).1.length ≤ maxLen := by
  obtain ⟨l, _, rfl, e1, h1, h2⟩ := inc_sl h
  obtain rfl := inc_nil e1
  obtain ⟨x, rfl, hx⟩ := in_evl h2
  refine ⟨x, rfl, fun k => ?_⟩
  by_cases hk : k < x.length
  · have : evAt x k = x[k] := by simp [evAt, hk]
    rw [this]; exact hx _ (List.getElem_mem hk)
  · simp [evAt, List.getElem?_eq_none (Nat.le_of_not_lt hk)]
end Go.Proofs.Ytdcodicoclecnaa
/- Arguments opened: what a row needs. No conditions. -/
namespace Go.Proofs.Ytdcodicoclecnaa
open Go.ChangeShapes Go.WideShapes Go.ChangeAt Go.RowKit Go.Joins

theorem Try.own : ownKnob Try.prog.godebug = none := by kernel_rfl
theorem Try.laidOut : laidOutB Try.prog = true := by kernel_rfl
theorem agg_struct {P : Program} {w : World} {r : Reach} {b0 : Nat} {v : Value} {t : TypeId} {fs : Array Field} (ht : P.underlying t = some (.struct fs)) (hv : Value.okWide P w r b0 t v) : ∃ cs, v = .agg cs := by
  cases v <;> first | exact ⟨_, rfl⟩ | (simp [Value.okWide, Cell.okWide, Cell.ok, ht] at hv)
theorem notagg_slice {P : Program} {w : World} {r : Reach} {b0 : Nat} {t e : TypeId} {v : Value} (ht : P.underlying t = some (.slice e)) (hv : Value.okWide P w r b0 t v) : ∀ cs, v ≠ .agg cs := by
  rintro cs rfl
  simp [Value.okWide, Cell.okWide, Cell.ok, ht] at hv
end Go.Proofs.Ytdcodicoclecnaa
