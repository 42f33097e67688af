/- Texts of the law RecordProofs, part 11. No conditions. -/
import Derived.Test.YtdcodicoclecnaaPRecordProofs10
import Derived.Test.YtdcodicoclecnaaRows
/- law12: a case in new memory, its proofs still to be changed. No conditions. -/
set_option linter.unusedSimpArgs false
set_option linter.unusedVariables false
namespace Go.Proofs.Ytdcodicoclecnaa
open Go Go.RowKit Lift

set_option maxRecDepth 100000 in
set_option maxHeartbeats 4000000 in
theorem copyV_ac (c : Cas) (hf : farCas c = false) : AC Try.prog 34 [casD c] [] [(296, some (scells c.pf))] (.agg [.list (cls c.cl), .vec 296 c.pf.length 2]) := by
  refine kref12_CopyCase.ac (n0 := 0) (by simp) ⟨in_cas _ _, trivial⟩ trivial rfl ?_
  unfold cref12_CopyCase casD
  obtain ⟨h1, h2, h3⟩ := far_no hf
  have cll := cls_len c.cl
  have cla := cls_all c.cl
  have pfl := sps_len c.pf
  have pfa := sps_all c.pf
  have pff := sps_flat c.pf
  have pfc := sc_leaf c.pf
  refine aw_seq (aw_region ?_)
  simp (config := {maxSteps := 10000000}) (disch := first | exact okYes (by kernel_rfl) | omega) only [thenQ, List.map, List.length, Nat.zero_add, Nat.reduceAdd, Nat.reduceMul, envOf, ARun_none, AOpRun, aexec, D.isBot, FSt.ev, St.F, ↓eget_h, Bool.false_eq_true, Option.isSome, hget_n, or_self, ↓reduceIte, D.cells, AGo_ok, St.app, putO, eput_c, Nat.reduceBEq, eput_n, cond_false, hups, hput_n, hget_c, hput_c, ARun_nil, dropE_c, inL_n, dropE_n]
  refine aw_seq (aw_region ?_)
  simp (config := {maxSteps := 10000000}) (disch := first | exact okYes (by kernel_rfl) | omega) only [thenQ, List.length, Nat.zero_add, Nat.reduceAdd, Nat.reduceMul, ARun_none, AOpRun, aexec, Option.isSome, hget_c, Nat.reduceBEq, hget_n, cond_false, Bool.false_eq_true, ↓reduceIte, Option.map, fillD, AGo_ok, St.app, putO, eput_c, eput_n, hups, hput_c, hput_n, List.map, FSt.ev, St.F, eget_c, ↓eget_h, run1, beq_self_eq_true, cond_true, List.getElem?_cons_succ, List.getElem?_cons_zero, base, ↓hget_h, Nat.zero_le, and_self, List.take, elems, pfa, pfl, pff, pfc, and_true, ups, List.nil_append, List.cons_append]
  refine ago_if (by omega) ?_
  simp (config := {maxSteps := 10000000}) (disch := first | exact okYes (by kernel_rfl) | omega) only [AGo_ok, Nat.reduceAdd, St.app, putO, eput_c, Nat.reduceBEq, eput_n, cond_false, hups, hput_c, hput_n, hdel_c, beq_self_eq_true, hdel_n, cond_true, List.map, ARun_none, AOpRun, aexec, Option.map, fillD, D.isBot, FSt.ev, St.F, eget_c, ↓eget_h, Bool.false_eq_true, D.cells, List.length, Nat.zero_add, ne_eq, not_true_eq_false, Nat.reduceGT, or_self, ↓reduceIte, splice, List.take, List.cons_append, List.nil_append, List.drop, List.append_nil, Option.isSome, Nat.reduceMul, hget_c, hget_n, ↓hget_h, Nat.reduceLeDiff, List.all, D.leaf, Bool.and_true, and_self, ARun_nil, dropE_c, inL_c, inL_n, dropE_n]
  refine aw_seq (aw_seq (aw_region ?_))
  simp (config := {maxSteps := 10000000}) (disch := first | exact okYes (by kernel_rfl) | omega) only [thenQ, List.length, Nat.zero_add, Nat.reduceMul, Nat.reduceAdd, ARun_none, AOpRun, aexec, FSt.ev, AGo_ok, St.app, putO, eput_c, Nat.reduceBEq, eput_n, cond_false, hups, List.map, ARun_nil, dropE_c, inL_n, dropE_n]
  refine aw_block ?_
  refine aw_loop (fun k : Nat => ⟨[(1, .ptr 0 0), (2, .ptr 8 0), (3, .ptr 16 0), (4, dI k)], [(0, [.list (cls c.cl), .list (sps c.pf)]), (8, [.val (.slice none 0 0), .val (.slice none 0 0)]), (16, [.vec 24 k 3, .vec 40 c.pf.length 2]), (24, clcells (c.cl.take k)), (40, scells c.pf)], 400⟩) (fun k => k ≤ c.cl.length) (fun k => c.cl.length - k) ⟨0, by omega, ?_⟩ ?_
  · show Wk _ _ ⟨_, [_, _, _, (24, []), _], _⟩
    have hsci := scells_in c.pf
    unfold dI
    refine wk_to [] [(0, 0), (8, 8), (16, 56), (24, 900), (40, 40)] (by kernel_rfl) (by kernel_rfl) (by kernel_rfl) (by kernel_rfl) (by kernel_rfl) ?_ ?_ <;> repeat' (first | exact trivial | exact vr_val _ | exact vr_list _ | exact vr_vec _ _ _ _ rfl | exact vr_ptr _ _ _ rfl | exact vr_nilv _ _ _ rfl | refine And.intro ⟨_, rfl, .inl ⟨_, rfl, by decide, ?_⟩⟩ ?_ | refine And.intro ⟨_, rfl, .inr ⟨rfl, rfl, of_decide_eq_true (by kernel_rfl)⟩⟩ ?_ | apply And.intro | exact vrl_flat _ (by first | exact icells_in _ | exact rcells_in _ | exact scells_in _ | exact bcells_in _ | assumption))
  intro k hk
  by_cases hk2 : k < c.cl.length
  case neg =>
    obtain rfl : k = c.cl.length := by omega
    rw [List.take_of_length_le (Nat.le_refl _)]
    (have hg : (987654321 : Nat) - 987654321 = 0 := rfl; have hr := hg; repeat' (first | refine aw_seq ?_ | (refine aw_skip ?_; repeat' (first | with_reducible refine thenQ_n ?_ | with_reducible refine blockQ_n ?_ | with_reducible refine thenQ_e ?_ | with_reducible refine blockQ_t ?_ | with_reducible refine blockQ_f (by decide) ?_)) | (refine aw_exit ?_; repeat' (first | with_reducible refine thenQ_n ?_ | with_reducible refine blockQ_n ?_ | with_reducible refine thenQ_e ?_ | with_reducible refine blockQ_t ?_ | with_reducible refine blockQ_f (by decide) ?_)) | refine aw_ret ?_ | refine aw_block ?_ | refine aw_condT rfl ?_ | refine aw_condF rfl ?_ | (refine aw_cond rfl (fun hg => ?_) (fun hg => ?_) <;> (try (have hq := hg; simp only [Bool.not_eq_true', Bool.not_eq_false', Bool.and_eq_true, Bool.and_eq_false_iff, Bool.or_eq_true, Bool.or_eq_false_iff, decide_eq_true_eq, decide_eq_false_iff_not, bne_iff_ne, beq_iff_eq, beq_eq_false_iff_ne, bne_eq_false_iff_eq, ne_eq, Int.not_lt, Int.not_le, Decidable.not_not] at hq)) <;> (try (have hr := hg; simp only [decide_eq_true_eq, decide_eq_false_iff_not] at hr)) <;> (try (exfalso; omega))) | ((first | refine aw_hide fun K hK => aw_region ?_ | refine ago_if (by omega) ?_ | skip); simp (config := {maxSteps := 10000000}) (disch := first | exact okYes (by kernel_rfl) | omega) only [List.length, Nat.zero_add, Nat.reduceAdd, Nat.reduceMul, dI, ARun_none, AOpRun, aexec, FSt.ev, St.F, eget_c, Nat.reduceBEq, ↓eget_h, cond_false, AGo_ok, St.app, putO, eput_c, eput_n, hups, List.map, Option.map, run1, hget_c, beq_self_eq_true, hget_n, cond_true, List.getElem?_cons_zero, cll, isSh, Bool.false_eq_true, ↓reduceIte, abin, ARun_nil, dropE_c, inL_c, inL_n, dropE_n, hr, decide_false, ↓hget_h, Nat.reduceLeDiff, List.drop, List.take, D.isBot, D.cells, List.all, D.leaf, Bool.and_true, and_self, splice, List.nil_append, List.append_nil, hput_c, hput_n]) | (subst hK; repeat' (first | with_reducible refine thenQ_n ?_ | with_reducible refine blockQ_n ?_ | with_reducible refine thenQ_e ?_ | with_reducible refine blockQ_t ?_ | with_reducible refine blockQ_f (by decide) ?_))))
    have hsci := scells_in c.pf
    refine end_to [24] [(296, 40)] (by first | exact .inl rfl | exact .inr rfl) rfl (by kernel_rfl) (by kernel_rfl) (by kernel_rfl) ?_ ?_ <;> repeat' (first | exact trivial | exact vr_vec _ _ _ _ rfl | apply vr_agg | refine vr_fl _ _ _ _ _ (by decide) rfl ?_ ?_ ?_ ?_ | refine And.intro ⟨_, rfl, _, rfl, by decide, ?_⟩ ?_ | apply And.intro | exact vrl_flat _ (by first | exact icells_in _ | exact rcells_in _ | exact scells_in _ | exact bcells_in _ | assumption))
    all_goals first | exact cls_three _ | exact cls_len _ | exact cls_flat _ | exact clcells_in _
  have g1 : (cls c.cl)[k]? = some (clC (clAt c k)) := cls_gd c.cl k hk2
  unfold clC at g1
  obtain ⟨l1, l2⟩ := h3 k
  have ki : (k : Int) < (c.cl.length : Int) := by omega
  have hsn : clcells (c.cl.take (k + 1)) = clcells (c.cl.take k) ++ [.list (ints (clAt c k).needs), .list (ints (clAt c k).proofs), dB (clAt c k).any] := by
    rw [← clcells_snoc, List.take_add_one]
    unfold clAt
    simp [hk2]
  have hcl1 : (clcells (c.cl.take k)).length = k * 3 := by rw [clcells_len, List.length_take]; omega
  have hct : (clcells (c.cl.take k)).take (k * 3) = clcells (c.cl.take k) := List.take_of_length_le (by omega)
  have hcin := clcells_in (c.cl.take k)
  have hsci := scells_in c.pf
  have hcin2 := clcells_in (c.cl.take (k + 1))
  rw [hsn] at hcin2
  generalize clAt c k = x at *
  generalize clcells (c.cl.take k) = R at *
  have nl := ints_len x.needs
  have na := ints_all x.needs
  have nf := ints_flat x.needs
  have nc := icells_leaf x.needs
  have pl := ints_len x.proofs
  have pa := ints_all x.proofs
  have pf := ints_flat x.proofs
  have pc := icells_leaf x.proofs
  refine aw_seq (aw_seq (aw_region ?_))
  simp (config := {maxSteps := 10000000}) (disch := first | exact okYes (by kernel_rfl) | omega) only [thenQ, dI, List.length, Nat.zero_add, Nat.reduceAdd, Nat.reduceMul, ARun_none, AOpRun, aexec, FSt.ev, St.F, eget_c, Nat.reduceBEq, ↓eget_h, cond_false, AGo_ok, St.app, putO, eput_c, eput_n, hups, List.map, Option.map, run1, hget_c, beq_self_eq_true, hget_n, cond_true, List.getElem?_cons_zero, cll, isSh, Bool.false_eq_true, ↓reduceIte, abin, ki, decide_true, ARun_nil, dropE_c, inL_c, inL_n, dropE_n]
  refine aw_condT rfl (aw_skip ?_)
  refine aw_seq (aw_block (aw_seq (aw_region ?_)))
  simp (config := {maxSteps := 10000000}) (disch := first | exact okYes (by kernel_rfl) | omega) only [thenQ, List.length, Nat.zero_add, Nat.reduceAdd, Nat.reduceMul, ARun_none, AOpRun, aexec, FSt.ev, St.F, ↓eget_h, AGo_ok, St.app, putO, eput_c, Nat.reduceBEq, eput_n, cond_false, hups, List.map, Option.map, run1, eget_c, hget_c, beq_self_eq_true, hget_n, cond_true, List.getElem?_cons_zero, Int.natCast_nonneg, cla, and_self, ↓reduceIte, opt1, Int.toNat_natCast, g1, dB, Nat.reduceLeDiff, List.take, Option.isSome, Bool.false_eq_true, hput_c, hput_n, ↓hget_h, D.isBot, D.cells, List.all, D.leaf, Bool.and_true, splice, List.nil_append, List.drop, List.append_nil, ARun_nil, dropE_c, inL_c, inL_n, dropE_n]
  refine aw_region_cutD [⟨some 23, .fad 0 (.tmp 3), none, []⟩,
            ⟨some 24, .load1 (.tmp 23), none, [0]⟩,
            ⟨some 25, .buildSl 1 0 [] [], none, []⟩,
            ⟨some 26, .fad 0 (.tmp 5), none, []⟩,
            ⟨some 27, .load1 (.tmp 26), none, [3]⟩,
            ⟨some 28, .app 1 8 (.tmp 25) (.tmp 27), none, [2, 4, 3]⟩,
            ⟨some 29, .buildSl 1 0 [] [], none, []⟩,
            ⟨some 30, .fad 1 (.tmp 5), none, []⟩,
            ⟨some 31, .load1 (.tmp 30), none, [7]⟩,
            ⟨some 32, .app 1 8 (.tmp 29) (.tmp 31), none, [6, 8, 7, 5, 2, 4, 3]⟩,
            ⟨some 33, .fad 2 (.tmp 5), none, []⟩,
            ⟨some 34, .load1 (.tmp 33), none, [10]⟩,
            ⟨some 35, .build [(.val (.slice none 0 0)), (.val (.slice none 0 0)), (.val (.bool false))] [(0, 1, (.tmp 28)), (1, 1, (.tmp 32)), (2, 1, (.tmp 34))], none, [5, 2, 4, 3, 9, 6, 8, 7, 11, 10]⟩,
            ⟨some 36, .buildSl 3 1 [(.val (.slice none 0 0)), (.val (.slice none 0 0)), (.val (.bool false))] [(0, 3, (.tmp 35))], none, [12, 5, 2, 4, 3, 9, 6, 8, 7, 11, 10]⟩] ⟨some 37, .app 3 56 (.tmp 24) (.tmp 36), none, [1, 0, 13, 12, 5, 2, 4, 3, 9, 6, 8, 7, 11, 10]⟩
            [⟨some 38, .fad 0 (.tmp 3), none, [0, 1, 2, 3, 4, 5, 6, 7, 8, 9, 10, 11, 12, 13, 14]⟩,
            ⟨none, .store 1 (.tmp 38) (.tmp 37), none, [15, 0, 1, 2, 3, 4, 5, 6, 7, 8, 9, 10, 11, 12, 13, 14]⟩] (by decide) (by decide) ?_
  simp (config := {maxSteps := 10000000}) (disch := first | exact okYes (by kernel_rfl) | omega) only [List.length, Nat.zero_add, Nat.reduceAdd, Nat.reduceMul, blockQ, thenQ, ARun_none, AOpRun, aexec, base, FSt.ev, St.F, elems, Option.isSome, ups, eget_c, Nat.reduceBEq, ↓eget_h, cond_false, AGo_ok, St.app, putO, eput_c, eput_n, hups, List.map, Option.map, run1, hget_c, ↓hget_h, List.getElem?_cons_zero, hget_n, Bool.false_eq_true, ↓reduceIte, fillD, hput_c, hput_n, Nat.zero_le, and_self, List.take, na, nl, nf, nc, and_true, List.nil_append, List.cons_append]
  refine ago_if (by omega) ?_
  simp (config := {maxSteps := 10000000}) (disch := first | exact okYes (by kernel_rfl) | omega) only [AGo_ok, Nat.reduceAdd, St.app, putO, eput_c, Nat.reduceBEq, eput_n, cond_false, hups, hput_c, hput_n, hdel_c, beq_self_eq_true, hdel_n, cond_true, List.map, ARun_none, AOpRun, aexec, Option.isSome, Nat.reduceMul, hget_c, hget_n, Bool.false_eq_true, ↓reduceIte, Option.map, fillD, FSt.ev, St.F, eget_c, ↓eget_h, Nat.zero_add, run1, ↓hget_h, List.getElem?_cons_succ, List.getElem?_cons_zero, base, List.length, Nat.zero_le, and_self, List.take, elems, pa, pl, pf, pc, and_true, ups, List.nil_append, List.cons_append]
  refine ago_if (by omega) ?_
  simp (config := {maxSteps := 10000000}) (disch := first | exact okYes (by kernel_rfl) | omega) only [AGo_ok, Nat.reduceAdd, St.app, putO, eput_c, Nat.reduceBEq, eput_n, cond_false, hups, hput_c, hput_n, hdel_c, beq_self_eq_true, hdel_n, cond_true, List.map, ARun_none, AOpRun, aexec, FSt.ev, St.F, eget_c, ↓eget_h, Nat.zero_add, Option.map, run1, hget_c, ↓hget_h, List.getElem?_cons_succ, List.getElem?_cons_zero, fillD, D.isBot, Bool.false_eq_true, D.cells, List.length, ne_eq, not_true_eq_false, Nat.reduceGT, or_self, ↓reduceIte, splice, List.take, List.nil_append, List.drop, List.cons_append, List.append_nil, Option.isSome, Nat.reduceMul, hget_n, ARun_nil]
  have hl3 : ([.list (ints x.needs), .list (ints x.proofs), .val (.bool x.any)] : List D).all D.leaf = true := rfl
  have hle : k * 3 ≤ R.length := by omega
  refine ⟨⟨[(1, .ptr 0 0), (2, .ptr 8 0), (3, .ptr 16 0), (4, dI k), (24, .vec 24 k 3), (36, .vec 32 1 3)], [(0, [.list (cls c.cl), .list (sps c.pf)]), (8, [.val (.slice none 0 0), .val (.slice none 0 0)]), (16, [.vec 24 k 3, .vec 40 c.pf.length 2]), (24, R), (40, scells c.pf), (32, [.list (ints x.needs), .list (ints x.proofs), .val (.bool x.any)])], 600⟩, ?_, of_decide_eq_true (by kernel_rfl), ?_⟩
  · unfold dI
    refine wk_to [536, 568] [(0, 0), (8, 8), (16, 16), (24, 24), (32, 600), (40, 40)] (by kernel_rfl) (by kernel_rfl) (by kernel_rfl) (by kernel_rfl) (by kernel_rfl) ?_ ?_ <;> repeat' (first | exact trivial | exact vr_val _ | exact vr_list _ | exact vr_vec _ _ _ _ rfl | exact vr_ptr _ _ _ rfl | refine vr_fl _ _ _ _ _ (by decide) rfl ?_ ?_ ?_ ?_ | refine And.intro ⟨_, rfl, .inl ⟨_, rfl, by decide, ?_⟩⟩ ?_ | apply And.intro | exact vrl_flat _ (by first | exact icells_in _ | exact rcells_in _ | exact scells_in _ | exact bcells_in _ | assumption))
    all_goals first | exact ints_one _ | exact ints_len _ | exact ints_flat _ | exact icells_in _
  simp (config := {maxSteps := 10000000}) (disch := first | exact okYes (by kernel_rfl) | omega) only [Nat.reduceSub, Nat.reduceAdd, dI, eget_c, Nat.reduceBEq, ↓eget_h, cond_false, hget_c, ↓hget_h, hle, and_self, ↓reduceIte, hct, Nat.reduceMul, List.length, Nat.zero_add, Nat.reduceLeDiff, List.take, hget_n, List.all, D.leaf, Bool.and_true, and_true, List.map, List.cons_append, List.nil_append]
  refine ago_if (by omega) ?_
  simp (config := {maxSteps := 10000000}) (disch := first | exact okYes (by kernel_rfl) | omega) only [AGo_ok, Nat.reduceAdd, St.app, putO, eput_c, Nat.reduceBEq, eput_n, cond_false, hups, hput_c, hput_n, hdel_c, beq_self_eq_true, hdel_n, cond_true, List.map, ARun_none, AOpRun, aexec, FSt.ev, St.F, eget_c, ↓eget_h, Nat.zero_add, hget_c, ↓hget_h, D.isBot, D.cells, List.length, Nat.reduceLeDiff, List.all, D.leaf, Bool.and_true, and_self, ↓reduceIte, splice, List.take, List.nil_append, List.drop, List.cons_append, ARun_nil, dropE_c, inL_c, inL_n, dropE_n]
  refine aw_region ?_
  simp (config := {maxSteps := 10000000}) (disch := first | exact okYes (by kernel_rfl) | omega) only [thenQ, List.length, Nat.zero_add, Nat.reduceAdd, Nat.reduceMul, ARun_none, AOpRun, aexec, FSt.ev, St.F, eget_c, Nat.reduceBEq, ↓eget_h, cond_false, AGo_ok, St.app, putO, eput_c, eput_n, hups, List.map, isSh, Bool.false_eq_true, ↓reduceIte, Option.map, abin, fits, beq_self_eq_true, cond_true, ARun_nil, dropE_c, inL_c, inL_n, dropE_n]
  refine ⟨k + 1, by omega, by omega, ?_⟩
  rw [hsn]
  unfold dB at *
  refine wk_to [] [(0, 0), (8, 8), (16, 16), (24, 600), (40, 40)] (by kernel_rfl) (by kernel_rfl) (by kernel_rfl) (by kernel_rfl) (by kernel_rfl) ?_ ?_ <;> repeat' (first | exact trivial | exact vr_val _ | exact vr_list _ | exact vr_vec _ _ _ _ rfl | exact vr_ptr _ _ _ rfl | refine And.intro ⟨_, rfl, .inl ⟨_, rfl, by decide, ?_⟩⟩ ?_ | apply And.intro | exact vrl_flat _ (by first | exact icells_in _ | exact rcells_in _ | exact scells_in _ | exact bcells_in _ | assumption))
end Go.Proofs.Ytdcodicoclecnaa
/- The functions' bodies, translated. Written by a program; no conditions. -/
namespace Go.Proofs.Ytdcodicoclecnaa
open Go.RowKit Lift

/-- law12_RecordProofs -/
def claw12_RecordProofs : ACode :=
  (.seq
   (.region false [⟨some 3, .box (.tmp 0), none, []⟩,
     ⟨some 4, .box (.tmp 1), none, []⟩,
     ⟨some 6, .mv (.const (.bool false)), none, []⟩] [])
  (.seq
   (.seq
    (.region false [⟨some 34, .loadN 2 (.tmp 3), none, []⟩,
      ⟨some 35, .call (.func 33) [(.tmp 34)], none, []⟩,
      ⟨some 36, .mv (.tmp 35), none, []⟩,
      ⟨some 37, .fad 1 (.tmp 3), (some (some 36, false)), []⟩,
      ⟨some 38, .load1 (.tmp 37), (some (some 36, false)), []⟩,
      ⟨some 39, .len_ (.tmp 38), (some (some 36, false)), []⟩,
      ⟨some 40, .bin .gtr (.tmp 39) (.const (.int .i64 8)), (some (some 36, false)), []⟩,
      ⟨some 41, .pick (.tmp 36) (.const (.bool true)) (.tmp 40), none, []⟩,
      ⟨some 42, .mv (.tmp 41), none, []⟩,
      ⟨some 43, .loadN 2 (.tmp 3), (some (some 42, false)), []⟩,
      ⟨some 44, .fad 0 (.tmp 4), (some (some 42, false)), []⟩,
      ⟨some 45, .load1 (.tmp 44), (some (some 42, false)), []⟩,
      ⟨some 46, .fad 1 (.tmp 4), (some (some 42, false)), []⟩,
      ⟨some 47, .load1 (.tmp 46), (some (some 42, false)), []⟩,
      ⟨some 48, .call (.func 43) [(.tmp 43), (.tmp 45), (.tmp 47)], (some (some 42, false)), []⟩,
      ⟨some 49, .bin .neq (.tmp 48) (.const (.int .i64 0)), (some (some 42, false)), []⟩,
      ⟨some 50, .pick (.tmp 42) (.const (.bool true)) (.tmp 49), none, []⟩] [34, 35, 36, 37, 38, 39, 40, 41, 42, 43, 44, 45, 46, 47, 48, 49])
   (.cond (.tmp 50)
     (.seq
      (.region false [⟨some 51, .call (.func 16) [], none, []⟩,
        ⟨some 6, .mv (.tmp 51), none, []⟩] [51])
     .ret)
     .skip))
  (.seq
   (.region false [⟨some 52, .loadN 2 (.tmp 3), none, []⟩,
     ⟨some 53, .call (.func 34) [(.tmp 52)], none, []⟩,
     ⟨some 7, .mem [(.val (.slice none 0 0)), (.val (.slice none 0 0))], none, []⟩,
     ⟨none, .store 2 (.tmp 7) (.tmp 53), none, []⟩] [52, 53])
  (.seq
   (.region false [⟨some 55, .loadN 2 (.tmp 7), none, []⟩,
     ⟨some 56, .fad 0 (.tmp 4), none, []⟩,
     ⟨some 57, .load1 (.tmp 56), none, []⟩,
     ⟨some 58, .fad 1 (.tmp 4), none, []⟩,
     ⟨some 59, .load1 (.tmp 58), none, []⟩,
     ⟨some 60, .call (.func 35) [(.tmp 55), (.tmp 57), (.tmp 59)], none, []⟩,
     ⟨some 54, .mv (.tmp 60), none, []⟩,
     ⟨some 61, .ext (.tmp 54) 0, none, []⟩,
     ⟨some 62, .ext (.tmp 54) 1, none, []⟩,
     ⟨some 8, .mv (.tmp 61), none, []⟩,
     ⟨some 9, .mv (.tmp 62), none, []⟩] [55, 56, 57, 58, 59, 60, 54, 61, 62])
  (.seq
   (.region false [⟨some 64, .loadN 2 (.tmp 7), none, []⟩,
     ⟨some 65, .fad 0 (.tmp 4), none, []⟩,
     ⟨some 66, .load1 (.tmp 65), none, []⟩,
     ⟨some 67, .fad 1 (.tmp 4), none, []⟩,
     ⟨some 68, .load1 (.tmp 67), none, []⟩,
     ⟨some 69, .call (.func 39) [(.tmp 64), (.tmp 66), (.tmp 68)], none, []⟩,
     ⟨some 63, .mv (.tmp 69), none, []⟩,
     ⟨some 70, .ext (.tmp 63) 0, none, []⟩,
     ⟨some 71, .ext (.tmp 63) 1, none, []⟩,
     ⟨some 10, .mv (.tmp 70), none, []⟩,
     ⟨some 11, .mv (.tmp 71), none, []⟩] [64, 65, 66, 67, 68, 69, 63, 70, 71])
  (.seq
   (.region false [⟨some 73, .loadN 2 (.tmp 7), none, []⟩,
     ⟨some 74, .fad 0 (.tmp 4), none, []⟩,
     ⟨some 75, .load1 (.tmp 74), none, []⟩,
     ⟨some 76, .fad 1 (.tmp 4), none, []⟩,
     ⟨some 77, .load1 (.tmp 76), none, []⟩,
     ⟨some 78, .call (.func 41) [(.tmp 73), (.tmp 75), (.tmp 77)], none, []⟩,
     ⟨some 72, .mv (.tmp 78), none, []⟩,
     ⟨some 79, .ext (.tmp 72) 0, none, []⟩,
     ⟨some 80, .ext (.tmp 72) 1, none, []⟩,
     ⟨some 12, .mv (.tmp 79), none, []⟩,
     ⟨some 13, .mv (.tmp 80), none, []⟩] [73, 74, 75, 76, 77, 78, 72, 79, 80])
  (.seq
   (.seq
    (.region false [⟨some 81, .mv (.tmp 9), none, []⟩,
      ⟨some 82, .bin .neq (.tmp 81) (.const (.int .i64 0)), none, []⟩,
      ⟨some 83, .mv (.tmp 82), none, []⟩,
      ⟨some 84, .mv (.tmp 8), (some (some 83, false)), []⟩,
      ⟨some 85, .mv (.tmp 11), (some (some 83, false)), []⟩,
      ⟨some 86, .bin .eql (.tmp 85) (.const (.int .i64 0)), (some (some 83, false)), []⟩,
      ⟨some 87, .eqb true (.tmp 84) (.tmp 86), (some (some 83, false)), []⟩,
      ⟨some 88, .pick (.tmp 83) (.const (.bool true)) (.tmp 87), none, []⟩,
      ⟨some 89, .mv (.tmp 88), none, []⟩,
      ⟨some 90, .mv (.tmp 11), (some (some 89, false)), []⟩,
      ⟨some 91, .bin .neq (.tmp 90) (.const (.int .i64 0)), (some (some 89, false)), []⟩,
      ⟨some 92, .mv (.tmp 91), (some (some 89, false)), []⟩,
      ⟨some 93, .mv (.tmp 11), (some (some 92, true)), []⟩,
      ⟨some 94, .bin .neq (.tmp 93) (.const (.int .i64 3)), (some (some 92, true)), []⟩,
      ⟨some 95, .pick (.tmp 92) (.tmp 94) (.const (.bool false)), (some (some 89, false)), []⟩,
      ⟨some 96, .pick (.tmp 89) (.const (.bool true)) (.tmp 95), none, []⟩,
      ⟨some 97, .mv (.tmp 96), none, []⟩,
      ⟨some 98, .mv (.tmp 13), (some (some 97, false)), []⟩,
      ⟨some 99, .bin .neq (.tmp 98) (.const (.int .i64 0)), (some (some 97, false)), []⟩,
      ⟨some 100, .mv (.tmp 99), (some (some 97, false)), []⟩,
      ⟨some 101, .mv (.tmp 13), (some (some 100, true)), []⟩,
      ⟨some 102, .bin .neq (.tmp 101) (.const (.int .i64 3)), (some (some 100, true)), []⟩,
      ⟨some 103, .pick (.tmp 100) (.tmp 102) (.const (.bool false)), (some (some 97, false)), []⟩,
      ⟨some 104, .pick (.tmp 97) (.const (.bool true)) (.tmp 103), none, []⟩,
      ⟨some 105, .mv (.tmp 104), none, []⟩,
      ⟨some 106, .mv (.tmp 8), (some (some 105, false)), []⟩,
      ⟨some 107, .mv (.tmp 106), (some (some 105, false)), []⟩,
      ⟨some 108, .mv (.tmp 13), (some (some 107, true)), []⟩,
      ⟨some 109, .bin .neq (.tmp 108) (.const (.int .i64 0)), (some (some 107, true)), []⟩,
      ⟨some 110, .mv (.tmp 109), (some (some 107, true)), []⟩,
      ⟨some 111, .mv (.tmp 12), (some (some 110, false)), []⟩,
      ⟨some 112, .len_ (.tmp 111), (some (some 110, false)), []⟩,
      ⟨some 113, .bin .gtr (.tmp 112) (.const (.int .i64 0)), (some (some 110, false)), []⟩,
      ⟨some 114, .pick (.tmp 110) (.const (.bool true)) (.tmp 113), (some (some 107, true)), []⟩,
      ⟨some 115, .pick (.tmp 107) (.tmp 114) (.const (.bool false)), (some (some 105, false)), []⟩,
      ⟨some 116, .pick (.tmp 105) (.const (.bool true)) (.tmp 115), none, []⟩] [81, 82, 83, 84, 85, 86, 87, 88, 89, 90, 91, 92, 93, 94, 95, 96, 97, 98, 99, 100, 101, 102, 103, 104, 105, 106, 107, 108, 109, 110, 111, 112, 113, 114, 115])
   (.cond (.tmp 116)
     (.seq
      (.region false [⟨some 6, .mv (.const (.bool false)), none, []⟩] [])
     .ret)
     .skip))
  (.seq
   (.seq
    (.region false [⟨some 14, .mv (.const (.int .i64 0)), none, []⟩] [])
   (.block 0
     (.loop
       (.seq
        (.seq
         (.region false [⟨some 117, .mv (.tmp 14), none, []⟩,
           ⟨some 118, .fad 1 (.tmp 3), none, []⟩,
           ⟨some 119, .load1 (.tmp 118), none, []⟩,
           ⟨some 120, .len_ (.tmp 119), none, []⟩,
           ⟨some 121, .bin .lss (.tmp 117) (.tmp 120), none, []⟩,
           ⟨some 122, .mv (.tmp 121), none, []⟩,
           ⟨some 123, .mv (.tmp 8), (some (some 122, true)), []⟩,
           ⟨some 124, .pick (.tmp 122) (.tmp 123) (.const (.bool false)), none, []⟩] [117, 118, 119, 120, 121, 122, 123])
        (.cond (.tmp 124)
          .skip
          (.exit 0)))
       (.seq
        (.block 1
          (.seq
           (.region false [⟨some 127, .loadN 2 (.tmp 3), none, []⟩,
             ⟨some 128, .call (.func 34) [(.tmp 127)], none, []⟩,
             ⟨some 15, .mem [(.val (.slice none 0 0)), (.val (.slice none 0 0))], none, []⟩,
             ⟨none, .store 2 (.tmp 15) (.tmp 128), none, []⟩] [127, 128])
          (.seq
           (.region false [⟨some 129, .fad 1 (.tmp 4), none, []⟩,
             ⟨some 130, .load1 (.tmp 129), none, []⟩,
             ⟨some 131, .bin .add (.tmp 130) (.const (.int .i64 1)), none, []⟩,
             ⟨some 16, .mv (.tmp 131), none, []⟩] [129, 130, 131])
          (.seq
           (.seq
            (.region false [⟨some 132, .mv (.tmp 16), none, []⟩,
              ⟨some 133, .bin .gtr (.tmp 132) (.const (.int .i64 2000)), none, []⟩] [132])
           (.cond (.tmp 133)
             (.region false [⟨some 16, .mv (.const (.int .i64 0)), none, []⟩] [])
             .skip))
          (.seq
           (.region false [⟨some 134, .fad 1 (.tmp 15), none, []⟩,
             ⟨some 135, .load1 (.tmp 134), none, []⟩,
             ⟨some 136, .mv (.tmp 14), none, []⟩,
             ⟨some 137, .mv (.tmp 16), none, []⟩,
             ⟨some 138, .mv (.tmp 16), none, []⟩,
             ⟨some 139, .build [(.val (.int .i64 0)), (.val (.int .i64 0))] [(0, 1, (.tmp 137)), (1, 1, (.tmp 138))], none, []⟩,
             ⟨some 140, .iadS 2 (.tmp 135) (.tmp 136), none, []⟩,
             ⟨none, .store 2 (.tmp 140) (.tmp 139), none, []⟩] [134, 135, 136, 137, 138, 139, 140])
          (.seq
           (.region false [⟨some 142, .loadN 2 (.tmp 15), none, []⟩,
             ⟨some 143, .fad 0 (.tmp 4), none, []⟩,
             ⟨some 144, .load1 (.tmp 143), none, []⟩,
             ⟨some 145, .fad 1 (.tmp 4), none, []⟩,
             ⟨some 146, .load1 (.tmp 145), none, []⟩,
             ⟨some 147, .call (.func 35) [(.tmp 142), (.tmp 144), (.tmp 146)], none, []⟩,
             ⟨some 141, .mv (.tmp 147), none, []⟩,
             ⟨some 148, .ext (.tmp 141) 0, none, []⟩,
             ⟨some 149, .ext (.tmp 141) 1, none, []⟩,
             ⟨some 17, .mv (.tmp 148), none, []⟩,
             ⟨some 18, .mv (.tmp 149), none, []⟩] [142, 143, 144, 145, 146, 147, 141, 148, 149])
          (.seq
           (.region false [⟨some 19, .mv (.const (.bool false)), none, []⟩] [])
          (.seq
           (.seq
            (.region false [⟨some 20, .mv (.const (.int .i64 0)), none, []⟩] [])
           (.block 2
             (.loop
               (.seq
                (.seq
                 (.region false [⟨some 150, .mv (.tmp 20), none, []⟩,
                   ⟨some 151, .mv (.tmp 10), none, []⟩,
                   ⟨some 152, .len_ (.tmp 151), none, []⟩,
                   ⟨some 153, .bin .lss (.tmp 150) (.tmp 152), none, []⟩] [150, 151, 152])
                (.cond (.tmp 153)
                  .skip
                  (.exit 2)))
               (.seq
                (.block 3
                  (.region false [⟨some 156, .mv (.tmp 19), none, []⟩,
                    ⟨some 157, .mv (.tmp 156), none, []⟩,
                    ⟨some 158, .mv (.tmp 10), (some (some 157, false)), []⟩,
                    ⟨some 159, .mv (.tmp 20), (some (some 157, false)), []⟩,
                    ⟨some 160, .iadS 1 (.tmp 158) (.tmp 159), (some (some 157, false)), []⟩,
                    ⟨some 161, .load1 (.tmp 160), (some (some 157, false)), []⟩,
                    ⟨some 162, .mv (.tmp 14), (some (some 157, false)), []⟩,
                    ⟨some 163, .bin .eql (.tmp 161) (.tmp 162), (some (some 157, false)), []⟩,
                    ⟨some 164, .pick (.tmp 157) (.const (.bool true)) (.tmp 163), none, []⟩,
                    ⟨some 19, .mv (.tmp 164), none, []⟩] [156, 157, 158, 159, 160, 161, 162, 163, 164]))
               (.region false [⟨some 154, .mv (.tmp 20), none, []⟩,
                 ⟨some 155, .bin .add (.tmp 154) (.const (.int .i64 1)), none, []⟩,
                 ⟨some 20, .mv (.tmp 155), none, []⟩] [154, 155]))))))
          (.seq
           (.region false [⟨some 165, .mv (.tmp 18), none, []⟩,
             ⟨some 166, .bin .neq (.tmp 165) (.const (.int .i64 0)), none, []⟩,
             ⟨some 167, .mv (.tmp 166), none, []⟩,
             ⟨some 168, .mv (.tmp 17), (some (some 167, false)), []⟩,
             ⟨some 169, .mv (.tmp 19), (some (some 167, false)), []⟩,
             ⟨some 170, .eqb false (.tmp 168) (.tmp 169), (some (some 167, false)), []⟩,
             ⟨some 171, .pick (.tmp 167) (.const (.bool true)) (.tmp 170), none, []⟩] [165, 166, 167, 168, 169, 170])
          (.cond (.tmp 171)
            (.seq
             (.region false [⟨some 6, .mv (.const (.bool false)), none, []⟩] [])
            .ret)
            .skip))))))))))
       (.region false [⟨some 125, .mv (.tmp 14), none, []⟩,
         ⟨some 126, .bin .add (.tmp 125) (.const (.int .i64 1)), none, []⟩,
         ⟨some 14, .mv (.tmp 126), none, []⟩] [125, 126]))))))
  (.seq
   (.seq
    (.region false [⟨some 172, .mv (.tmp 13), none, []⟩,
      ⟨some 173, .bin .eql (.tmp 172) (.const (.int .i64 0)), none, []⟩] [172])
   (.cond (.tmp 173)
     (.seq
      (.seq
       (.region false [⟨some 21, .mv (.const (.int .i64 0)), none, []⟩] [])
      (.block 4
        (.loop
          (.seq
           (.seq
            (.region false [⟨some 174, .mv (.tmp 21), none, []⟩,
              ⟨some 175, .fad 1 (.tmp 3), none, []⟩,
              ⟨some 176, .load1 (.tmp 175), none, []⟩,
              ⟨some 177, .len_ (.tmp 176), none, []⟩,
              ⟨some 178, .conv .u64 (.tmp 177), none, []⟩,
              ⟨some 179, .bin .shl (.const (.int .i64 1)) (.tmp 178), none, []⟩,
              ⟨some 180, .bin .lss (.tmp 174) (.tmp 179), none, []⟩] [174, 175, 176, 177, 178, 179])
           (.cond (.tmp 180)
             .skip
             (.exit 4)))
          (.seq
           (.block 5
             (.seq
              (.region false [⟨some 183, .loadN 2 (.tmp 3), none, []⟩,
                ⟨some 184, .call (.func 34) [(.tmp 183)], none, []⟩,
                ⟨some 22, .mem [(.val (.slice none 0 0)), (.val (.slice none 0 0))], none, []⟩,
                ⟨none, .store 2 (.tmp 22) (.tmp 184), none, []⟩] [183, 184])
             (.seq
              (.region false [⟨some 23, .mv (.const (.int .i64 0)), none, []⟩] [])
             (.seq
              (.seq
               (.region false [⟨some 24, .mv (.const (.int .i64 0)), none, []⟩] [])
              (.block 6
                (.loop
                  (.seq
                   (.seq
                    (.region false [⟨some 185, .mv (.tmp 24), none, []⟩,
                      ⟨some 186, .fad 1 (.tmp 3), none, []⟩,
                      ⟨some 187, .load1 (.tmp 186), none, []⟩,
                      ⟨some 188, .len_ (.tmp 187), none, []⟩,
                      ⟨some 189, .bin .lss (.tmp 185) (.tmp 188), none, []⟩] [185, 186, 187, 188])
                   (.cond (.tmp 189)
                     .skip
                     (.exit 6)))
                  (.seq
                   (.block 7
                     (.seq
                      (.region false [⟨some 192, .mv (.tmp 21), none, []⟩,
                        ⟨some 193, .mv (.tmp 24), none, []⟩,
                        ⟨some 194, .conv .u64 (.tmp 193), none, []⟩,
                        ⟨some 195, .bin .shr (.tmp 192) (.tmp 194), none, []⟩,
                        ⟨some 196, .bin .and (.tmp 195) (.const (.int .i64 1)), none, []⟩,
                        ⟨some 197, .bin .eql (.tmp 196) (.const (.int .i64 1)), none, []⟩] [192, 193, 194, 195, 196])
                     (.cond (.tmp 197)
                       (.seq
                        (.region true [⟨some 198, .fad 1 (.tmp 22), none, []⟩,
                          ⟨some 199, .load1 (.tmp 198), none, [0]⟩,
                          ⟨some 200, .mv (.tmp 24), none, []⟩,
                          ⟨some 201, .fad 1 (.tmp 22), none, []⟩,
                          ⟨some 202, .load1 (.tmp 201), none, [3]⟩,
                          ⟨some 203, .mv (.tmp 24), none, []⟩,
                          ⟨some 204, .iadS 2 (.tmp 202) (.tmp 203), none, [4, 3, 5]⟩,
                          ⟨some 205, .fad 0 (.tmp 204), none, [6, 4, 3, 5]⟩,
                          ⟨some 206, .load1 (.tmp 205), none, [7, 6, 4, 3, 5]⟩,
                          ⟨some 207, .fad 1 (.tmp 4), none, []⟩,
                          ⟨some 208, .load1 (.tmp 207), none, [9]⟩,
                          ⟨some 209, .mnx false [(.tmp 206), (.tmp 208)], none, [8, 7, 6, 4, 3, 5, 10, 9]⟩,
                          ⟨some 210, .fad 1 (.tmp 22), none, []⟩,
                          ⟨some 211, .load1 (.tmp 210), none, [12]⟩,
                          ⟨some 212, .mv (.tmp 24), none, []⟩,
                          ⟨some 213, .iadS 2 (.tmp 211) (.tmp 212), none, [13, 12, 14]⟩,
                          ⟨some 214, .fad 1 (.tmp 213), none, [15, 13, 12, 14]⟩,
                          ⟨some 215, .load1 (.tmp 214), none, [16, 15, 13, 12, 14]⟩,
                          ⟨some 216, .fad 1 (.tmp 4), none, []⟩,
                          ⟨some 217, .load1 (.tmp 216), none, [18]⟩,
                          ⟨some 218, .mnx true [(.tmp 215), (.tmp 217)], none, [17, 16, 15, 13, 12, 14, 19, 18]⟩,
                          ⟨some 219, .build [(.val (.int .i64 0)), (.val (.int .i64 0))] [(0, 1, (.tmp 209)), (1, 1, (.tmp 218))], none, [11, 8, 7, 6, 4, 3, 5, 10, 9, 20, 17, 16, 15, 13, 12, 14, 19, 18]⟩,
                          ⟨some 220, .iadS 2 (.tmp 199) (.tmp 200), none, [1, 0, 2, 3, 4, 5, 6, 7, 8, 9, 10, 11, 12, 13, 14, 15, 16, 17, 18, 19, 20, 21]⟩,
                          ⟨none, .store 2 (.tmp 220) (.tmp 219), none, [22, 1, 0, 2, 3, 4, 5, 6, 7, 8, 9, 10, 11, 12, 13, 14, 15, 16, 17, 18, 19, 20, 21]⟩] [198, 199, 200, 201, 202, 203, 204, 205, 206, 207, 208, 209, 210, 211, 212, 213, 214, 215, 216, 217, 218, 219, 220])
                       (.region false [⟨some 221, .mv (.tmp 23), none, []⟩,
                         ⟨some 222, .bin .add (.tmp 221) (.const (.int .i64 1)), none, []⟩,
                         ⟨some 23, .mv (.tmp 222), none, []⟩] [221, 222]))
                       .skip)))
                  (.region false [⟨some 190, .mv (.tmp 24), none, []⟩,
                    ⟨some 191, .bin .add (.tmp 190) (.const (.int .i64 1)), none, []⟩,
                    ⟨some 24, .mv (.tmp 191), none, []⟩] [190, 191]))))))
             (.seq
              (.seq
               (.region false [⟨some 223, .mv (.tmp 23), none, []⟩,
                 ⟨some 224, .mv (.tmp 12), none, []⟩,
                 ⟨some 225, .len_ (.tmp 224), none, []⟩,
                 ⟨some 226, .bin .geq (.tmp 223) (.tmp 225), none, []⟩] [223, 224, 225])
              (.cond (.tmp 226)
                (.exit 5)
                .skip))
             (.seq
              (.region false [⟨some 228, .loadN 2 (.tmp 22), none, []⟩,
                ⟨some 229, .fad 0 (.tmp 4), none, []⟩,
                ⟨some 230, .load1 (.tmp 229), none, []⟩,
                ⟨some 231, .fad 1 (.tmp 4), none, []⟩,
                ⟨some 232, .load1 (.tmp 231), none, []⟩,
                ⟨some 233, .call (.func 35) [(.tmp 228), (.tmp 230), (.tmp 232)], none, []⟩,
                ⟨some 227, .mv (.tmp 233), none, []⟩,
                ⟨some 234, .ext (.tmp 227) 0, none, []⟩,
                ⟨some 235, .ext (.tmp 227) 1, none, []⟩,
                ⟨some 25, .mv (.tmp 234), none, []⟩,
                ⟨some 26, .mv (.tmp 235), none, []⟩] [228, 229, 230, 231, 232, 233, 227, 234, 235])
             (.seq
              (.region false [⟨some 236, .mv (.tmp 26), none, []⟩,
                ⟨some 237, .bin .neq (.tmp 236) (.const (.int .i64 0)), none, []⟩,
                ⟨some 238, .mv (.tmp 237), none, []⟩,
                ⟨some 239, .mv (.tmp 25), (some (some 238, false)), []⟩,
                ⟨some 240, .pick (.tmp 238) (.const (.bool true)) (.tmp 239), none, []⟩] [236, 237, 238, 239])
             (.cond (.tmp 240)
               (.seq
                (.region false [⟨some 6, .mv (.const (.bool false)), none, []⟩] [])
               .ret)
               .skip))))))))
          (.region false [⟨some 181, .mv (.tmp 21), none, []⟩,
            ⟨some 182, .bin .add (.tmp 181) (.const (.int .i64 1)), none, []⟩,
            ⟨some 21, .mv (.tmp 182), none, []⟩] [181, 182]))))))
     (.seq
      (.region false [⟨some 241, .loadN 2 (.tmp 3), none, []⟩,
        ⟨some 242, .call (.func 34) [(.tmp 241)], none, []⟩,
        ⟨some 27, .mem [(.val (.slice none 0 0)), (.val (.slice none 0 0))], none, []⟩,
        ⟨none, .store 2 (.tmp 27) (.tmp 242), none, []⟩] [241, 242])
     (.seq
      (.seq
       (.region false [⟨some 28, .mv (.const (.int .i64 0)), none, []⟩] [])
      (.block 8
        (.loop
          (.seq
           (.seq
            (.region false [⟨some 243, .mv (.tmp 28), none, []⟩,
              ⟨some 244, .mv (.tmp 12), none, []⟩,
              ⟨some 245, .len_ (.tmp 244), none, []⟩,
              ⟨some 246, .bin .lss (.tmp 243) (.tmp 245), none, []⟩] [243, 244, 245])
           (.cond (.tmp 246)
             .skip
             (.exit 8)))
          (.seq
           (.block 9
             (.seq
              (.seq
               (.region true [⟨some 249, .mv (.tmp 12), none, []⟩,
                 ⟨some 250, .mv (.tmp 28), none, []⟩,
                 ⟨some 251, .iadS 1 (.tmp 249) (.tmp 250), none, [0, 1]⟩,
                 ⟨some 252, .load1 (.tmp 251), none, [2, 0, 1]⟩,
                 ⟨some 253, .bin .lss (.tmp 252) (.const (.int .i64 0)), none, [3, 2, 0, 1]⟩,
                 ⟨some 254, .mv (.tmp 253), none, [4, 3, 2, 0, 1]⟩,
                 ⟨some 255, .mv (.tmp 12), (some (some 254, false)), [5, 4, 3, 2, 0, 1]⟩,
                 ⟨some 256, .mv (.tmp 28), (some (some 254, false)), [5, 4, 3, 2, 0, 1]⟩,
                 ⟨some 257, .iadS 1 (.tmp 255) (.tmp 256), (some (some 254, false)), [6, 5, 4, 3, 2, 0, 1, 7]⟩,
                 ⟨some 258, .load1 (.tmp 257), (some (some 254, false)), [8, 6, 5, 4, 3, 2, 0, 1, 7]⟩,
                 ⟨some 259, .fad 1 (.tmp 3), (some (some 254, false)), [5, 4, 3, 2, 0, 1]⟩,
                 ⟨some 260, .load1 (.tmp 259), (some (some 254, false)), [10, 5, 4, 3, 2, 0, 1]⟩,
                 ⟨some 261, .len_ (.tmp 260), (some (some 254, false)), [11, 10, 5, 4, 3, 2, 0, 1]⟩,
                 ⟨some 262, .bin .geq (.tmp 258) (.tmp 261), (some (some 254, false)), [9, 8, 6, 5, 4, 3, 2, 0, 1, 7, 12, 11, 10]⟩,
                 ⟨some 263, .pick (.tmp 254) (.const (.bool true)) (.tmp 262), none, [5, 4, 3, 2, 0, 1, 13, 9, 8, 6, 7, 12, 11, 10]⟩] [249, 250, 251, 252, 253, 254, 255, 256, 257, 258, 259, 260, 261, 262])
              (.cond (.tmp 263)
                (.seq
                 (.region false [⟨some 6, .mv (.const (.bool false)), none, []⟩] [])
                .ret)
                .skip))
             (.region true [⟨some 264, .fad 1 (.tmp 27), none, []⟩,
               ⟨some 265, .load1 (.tmp 264), none, [0]⟩,
               ⟨some 266, .mv (.tmp 12), none, []⟩,
               ⟨some 267, .mv (.tmp 28), none, []⟩,
               ⟨some 268, .iadS 1 (.tmp 266) (.tmp 267), none, [2, 3]⟩,
               ⟨some 269, .load1 (.tmp 268), none, [4, 2, 3]⟩,
               ⟨some 270, .fad 1 (.tmp 27), none, []⟩,
               ⟨some 271, .load1 (.tmp 270), none, [6]⟩,
               ⟨some 272, .mv (.tmp 12), none, []⟩,
               ⟨some 273, .mv (.tmp 28), none, []⟩,
               ⟨some 274, .iadS 1 (.tmp 272) (.tmp 273), none, [8, 9]⟩,
               ⟨some 275, .load1 (.tmp 274), none, [10, 8, 9]⟩,
               ⟨some 276, .iadS 2 (.tmp 271) (.tmp 275), none, [7, 6, 11, 10, 8, 9]⟩,
               ⟨some 277, .fad 0 (.tmp 276), none, [12, 7, 6, 11, 10, 8, 9]⟩,
               ⟨some 278, .load1 (.tmp 277), none, [13, 12, 7, 6, 11, 10, 8, 9]⟩,
               ⟨some 279, .fad 1 (.tmp 4), none, []⟩,
               ⟨some 280, .load1 (.tmp 279), none, [15]⟩,
               ⟨some 281, .mnx false [(.tmp 278), (.tmp 280)], none, [14, 13, 12, 7, 6, 11, 10, 8, 9, 16, 15]⟩,
               ⟨some 282, .fad 1 (.tmp 27), none, []⟩,
               ⟨some 283, .load1 (.tmp 282), none, [18]⟩,
               ⟨some 284, .mv (.tmp 12), none, []⟩,
               ⟨some 285, .mv (.tmp 28), none, []⟩,
               ⟨some 286, .iadS 1 (.tmp 284) (.tmp 285), none, [20, 21]⟩,
               ⟨some 287, .load1 (.tmp 286), none, [22, 20, 21]⟩,
               ⟨some 288, .iadS 2 (.tmp 283) (.tmp 287), none, [19, 18, 23, 22, 20, 21]⟩,
               ⟨some 289, .fad 1 (.tmp 288), none, [24, 19, 18, 23, 22, 20, 21]⟩,
               ⟨some 290, .load1 (.tmp 289), none, [25, 24, 19, 18, 23, 22, 20, 21]⟩,
               ⟨some 291, .fad 1 (.tmp 4), none, []⟩,
               ⟨some 292, .load1 (.tmp 291), none, [27]⟩,
               ⟨some 293, .mnx true [(.tmp 290), (.tmp 292)], none, [26, 25, 24, 19, 18, 23, 22, 20, 21, 28, 27]⟩,
               ⟨some 294, .build [(.val (.int .i64 0)), (.val (.int .i64 0))] [(0, 1, (.tmp 281)), (1, 1, (.tmp 293))], none, [17, 14, 13, 12, 7, 6, 11, 10, 8, 9, 16, 15, 29, 26, 25, 24, 19, 18, 23, 22, 20, 21, 28, 27]⟩,
               ⟨some 295, .iadS 2 (.tmp 265) (.tmp 269), none, [1, 0, 5, 4, 2, 3, 6, 7, 8, 9, 10, 11, 12, 13, 14, 15, 16, 17, 18, 19, 20, 21, 22, 23, 24, 25, 26, 27, 28, 29, 30]⟩,
               ⟨none, .store 2 (.tmp 295) (.tmp 294), none, [31, 1, 0, 5, 4, 2, 3, 6, 7, 8, 9, 10, 11, 12, 13, 14, 15, 16, 17, 18, 19, 20, 21, 22, 23, 24, 25, 26, 27, 28, 29, 30]⟩] [264, 265, 266, 267, 268, 269, 270, 271, 272, 273, 274, 275, 276, 277, 278, 279, 280, 281, 282, 283, 284, 285, 286, 287, 288, 289, 290, 291, 292, 293, 294, 295])))
          (.region false [⟨some 247, .mv (.tmp 28), none, []⟩,
            ⟨some 248, .bin .add (.tmp 247) (.const (.int .i64 1)), none, []⟩,
            ⟨some 28, .mv (.tmp 248), none, []⟩] [247, 248]))))))
     (.seq
      (.region false [⟨some 297, .loadN 2 (.tmp 27), none, []⟩,
        ⟨some 298, .fad 0 (.tmp 4), none, []⟩,
        ⟨some 299, .load1 (.tmp 298), none, []⟩,
        ⟨some 300, .fad 1 (.tmp 4), none, []⟩,
        ⟨some 301, .load1 (.tmp 300), none, []⟩,
        ⟨some 302, .call (.func 35) [(.tmp 297), (.tmp 299), (.tmp 301)], none, []⟩,
        ⟨some 296, .mv (.tmp 302), none, []⟩,
        ⟨some 303, .ext (.tmp 296) 0, none, []⟩,
        ⟨some 304, .ext (.tmp 296) 1, none, []⟩,
        ⟨some 29, .mv (.tmp 303), none, []⟩,
        ⟨some 30, .mv (.tmp 304), none, []⟩] [297, 298, 299, 300, 301, 302, 296, 303, 304])
     (.seq
      (.region false [⟨some 305, .mv (.tmp 30), none, []⟩,
        ⟨some 306, .bin .neq (.tmp 305) (.const (.int .i64 0)), none, []⟩,
        ⟨some 307, .mv (.tmp 306), none, []⟩,
        ⟨some 308, .mv (.tmp 29), (some (some 307, false)), []⟩,
        ⟨some 309, .un .not (.tmp 308), (some (some 307, false)), []⟩,
        ⟨some 310, .pick (.tmp 307) (.const (.bool true)) (.tmp 309), none, []⟩] [305, 306, 307, 308, 309])
     (.cond (.tmp 310)
       (.seq
        (.region false [⟨some 6, .mv (.const (.bool false)), none, []⟩] [])
       .ret)
       .skip))))))
     .skip))
  (.seq
   (.seq
    (.region false [⟨some 311, .mv (.tmp 2), none, []⟩,
      ⟨some 312, .bin .lss (.tmp 311) (.const (.int .i64 0)), none, []⟩,
      ⟨some 313, .mv (.tmp 312), none, []⟩,
      ⟨some 314, .mv (.tmp 2), (some (some 313, false)), []⟩,
      ⟨some 315, .fad 1 (.tmp 3), (some (some 313, false)), []⟩,
      ⟨some 316, .load1 (.tmp 315), (some (some 313, false)), []⟩,
      ⟨some 317, .len_ (.tmp 316), (some (some 313, false)), []⟩,
      ⟨some 318, .bin .geq (.tmp 314) (.tmp 317), (some (some 313, false)), []⟩,
      ⟨some 319, .pick (.tmp 313) (.const (.bool true)) (.tmp 318), none, []⟩,
      ⟨some 320, .mv (.tmp 319), none, []⟩,
      ⟨some 321, .mv (.tmp 8), (some (some 320, false)), []⟩,
      ⟨some 322, .un .not (.tmp 321), (some (some 320, false)), []⟩,
      ⟨some 323, .pick (.tmp 320) (.const (.bool true)) (.tmp 322), none, []⟩] [311, 312, 313, 314, 315, 316, 317, 318, 319, 320, 321, 322])
   (.cond (.tmp 323)
     (.seq
      (.region false [⟨some 324, .call (.func 16) [], none, []⟩,
        ⟨some 6, .mv (.tmp 324), none, []⟩] [324])
     .ret)
     .skip))
  (.seq
   (.region false [⟨some 325, .loadN 2 (.tmp 3), none, []⟩,
     ⟨some 326, .call (.func 34) [(.tmp 325)], none, []⟩,
     ⟨some 31, .mem [(.val (.slice none 0 0)), (.val (.slice none 0 0))], none, []⟩,
     ⟨none, .store 2 (.tmp 31) (.tmp 326), none, []⟩] [325, 326])
  (.seq
   (.region false [⟨some 327, .fad 1 (.tmp 31), none, []⟩,
     ⟨some 328, .load1 (.tmp 327), none, []⟩,
     ⟨some 329, .mv (.tmp 2), none, []⟩,
     ⟨some 330, .build [(.val (.int .i64 0)), (.val (.int .i64 0))] [(1, 1, (.const (.int .i64 2000)))], none, []⟩,
     ⟨some 331, .iadS 2 (.tmp 328) (.tmp 329), none, []⟩,
     ⟨none, .store 2 (.tmp 331) (.tmp 330), none, []⟩] [327, 328, 329, 330, 331])
  (.seq
   (.region false [⟨some 333, .loadN 2 (.tmp 31), none, []⟩,
     ⟨some 334, .fad 0 (.tmp 4), none, []⟩,
     ⟨some 335, .load1 (.tmp 334), none, []⟩,
     ⟨some 336, .fad 1 (.tmp 4), none, []⟩,
     ⟨some 337, .load1 (.tmp 336), none, []⟩,
     ⟨some 338, .call (.func 35) [(.tmp 333), (.tmp 335), (.tmp 337)], none, []⟩,
     ⟨some 332, .mv (.tmp 338), none, []⟩,
     ⟨some 339, .ext (.tmp 332) 0, none, []⟩,
     ⟨some 340, .ext (.tmp 332) 1, none, []⟩,
     ⟨some 32, .mv (.tmp 339), none, []⟩,
     ⟨some 33, .mv (.tmp 340), none, []⟩] [333, 334, 335, 336, 337, 338, 332, 339, 340])
  (.seq
   (.region false [⟨some 341, .mv (.tmp 33), none, []⟩,
     ⟨some 342, .bin .eql (.tmp 341) (.const (.int .i64 0)), none, []⟩,
     ⟨some 343, .mv (.tmp 342), none, []⟩,
     ⟨some 344, .mv (.tmp 32), (some (some 343, true)), []⟩,
     ⟨some 345, .pick (.tmp 343) (.tmp 344) (.const (.bool false)), none, []⟩,
     ⟨some 346, .mv (.tmp 345), none, []⟩,
     ⟨some 347, .call (.func 16) [], (some (some 346, true)), []⟩,
     ⟨some 348, .pick (.tmp 346) (.tmp 347) (.const (.bool false)), none, []⟩,
     ⟨some 6, .mv (.tmp 348), none, []⟩] [341, 342, 343, 344, 345, 346, 347, 348])
  .ret))))))))))))))
set_option maxRecDepth 100000 in
theorem klaw12_RecordProofs : IsCode Try.prog 8 349 claw12_RecordProofs [.tmp 6] :=
  ⟨Try.f8, _, [323, 310, 263, 246, 240, 226, 197, 189, 180, 173, 171, 153, 133, 124, 116, 50, 0, 1, 3, 4, 7, 9, 8, 11, 13, 12, 14, 16, 15, 20, 10, 19, 18, 17, 21, 24, 22, 23, 26, 25, 28, 27, 30, 29, 2, 31, 33, 32, 6], Try.func8, rfl, by decide, rfl, by kernel_rfl, by kernel_rfl⟩
end Go.Proofs.Ytdcodicoclecnaa
/- record: the loop over the samples of a field, whatever its body does. No conditions. -/
set_option linter.unusedSimpArgs false
set_option linter.unusedVariables false
namespace Go.Proofs.Ytdcodicoclecnaa.Lift
open Go Go.RowKit

/-- cells as they are, or with references in place of yields -/
def CT (n : Nat) : List D → List D → Prop
  | [], [] => True
  | x :: c, y :: c' => (y = x ∨ ∃ a r k, x = .yld a r k ∧ y = .yref a) ∧ In (· < n) y ∧ CT n c c'
  | _, _ => False
theorem CT.get {n : Nat} : ∀ {c c' : List D}, CT n c c' → c.length = c'.length ∧ ∀ i (h : i < c.length) (h' : i < c'.length), (c'[i] = c[i] ∨ ∃ a r k, c[i] = .yld a r k ∧ c'[i] = .yref a) ∧ In (· < n) c'[i]
  | [], [], _ => ⟨rfl, fun i h => by simp at h⟩
  | [], _ :: _, h => h.elim
  | _ :: _, [], h => h.elim
  | x :: c, y :: c', h => by
    obtain ⟨h1, h2⟩ := CT.get h.2.2
    refine ⟨by simp [h1], fun i hi hi' => ?_⟩
    cases i with
    | zero => exact ⟨h.1, h.2.1⟩
    | succ i => exact h2 i (by simpa using hi) (by simpa using hi')
theorem CT.refl {n : Nat} : ∀ {c : List D}, (∀ d ∈ c, In (· < n) d) → CT n c c
  | [], _ => trivial
  | d :: c, h => ⟨.inl rfl, h d (List.mem_cons_self ..), CT.refl fun x hx => h x (List.mem_cons_of_mem _ hx)⟩
/-- fewer objects, fewer names, references in place of yields -/
theorem wk_ref {pre : List Nat} {s s' : St} (hpre : ∀ g ∈ pre, g < s'.nx) (hE : EL s'.nx s.env s'.env) (hH : ∀ g c', hget s'.hp g = some c' → g < s'.nx ∧ ∃ c, hget s.hp g = some c ∧ CT s'.nx c c') : Wk pre s s' := by
  rintro C a w rfl ⟨β, Z, h, hβ⟩
  obtain ⟨β', hb'⟩ : ∃ β' : Bet, β' = fun g => if g < s'.nx then β g else none := ⟨_, rfl⟩
  have eq : ∀ g, g < s'.nx → β' g = β g := fun g hg => by rw [hb']; exact if_pos hg
  have no : ∀ g, s'.nx ≤ g → β' g = none := fun g hg => by rw [hb']; exact if_neg (by omega)
  have back : ∀ g B, β' g = some B → β g = some B := fun g B hB => by
    by_cases hg : g < s'.nx
    · rw [← eq g hg]; exact hB
    · rw [no g (by omega)] at hB; cases hB
  refine ⟨β', Z, ⟨h.size, h.defers, fun t => ?_, fun g c hc => ?_, fun g g' c c' B hc hc' hb hb'' => ?_, h.fr, h.z0, h.old, fun g c B hc hB => ?_, fun g hg B hB => ?_, h.zlt⟩, no⟩
  · show Rep w _ Z _ (eget s'.env t)
    rcases hE.get t with h1 | ⟨h1, h2⟩
    · rw [h1]; exact .bot _
    · rw [h1] at h2 ⊢
      exact (h.env t).rename h2 eq
  · obtain ⟨h1, c0, h2, h3⟩ := hH g c hc
    obtain ⟨h4, h5⟩ := h3.get
    rcases h.objs g c0 h2 with ⟨h6, h7⟩ | ⟨B, cs, e, hO⟩
    · subst h6
      have : c = [] := List.length_eq_zero_iff.1 h4.symm
      subst this
      exact .inl ⟨rfl, by rw [eq g h1]; exact h7⟩
    · refine .inr ⟨B, cs, e, by rw [eq g h1]; exact hO.at_, hO.ours, hO.block, by rw [← h4]; exact hO.fits, fun i hi => ?_⟩
      have hi0 : i < c0.length := by omega
      obtain ⟨h8, h9⟩ := h5 i hi0 hi
      have hr := hO.rep i hi0
      rcases h8 with h8 | ⟨a, r, k, h8, h10⟩
      · rw [h8] at h9 ⊢
        exact hr.rename h9 eq
      · rw [h8] at hr
        rw [h10] at h9 ⊢
        cases h9 with
        | yref _ ha =>
          generalize cs.getD i undef = v at hr
          cases hr with
          | yld _ l _ _ y1 => exact .yref a l ((eq a ha).trans y1)
  · obtain ⟨_, c1, h2, _⟩ := hH g c hc
    obtain ⟨_, c2, h3, _⟩ := hH g' c' hc'
    exact h.inj g g' c1 c2 B h2 h3 (back _ _ hb) (back _ _ hb'')
  · obtain ⟨_, c1, h2, _⟩ := hH g c hc
    exact h.orig g c1 B h2 (back _ _ hB)
  · have h1 := h.ext g hg B hB
    rw [eq g (hpre g hg)]; exact h1
theorem hget_put (h : Hp) (t u : Nat) (d : List D) : hget (hput h t d) u = if t = u then some d else hget h u := by
  induction h with
  | nil => simp [hput, hget]
  | cons x r ih =>
    obtain ⟨k, e⟩ := x
    simp only [hput]
    by_cases hk : k = t
    · subst hk
      rw [if_pos rfl]
      simp only [hget]
      split <;> rfl
    · rw [if_neg hk]
      simp only [hget, ih]
      by_cases h1 : k = u
      · subst h1; rw [if_pos rfl, if_pos rfl, if_neg fun h => hk h.symm]
      · rw [if_neg h1, if_neg h1]
theorem kOK_of {k : List D} (h : k.all (noY 9) = true) : kOK k = true := by
  refine List.all_eq_true.2 fun d hd => ?_
  have h1 := List.all_eq_true.1 h d hd
  cases d <;> first | exact h1 | (simp [noY] at h1)
theorem LowH.up {n m : Nat} {h : Hp} (h1 : LowH n h) (hm : n ≤ m) : LowH m h := ⟨h1.get hm, h1.2⟩
end Go.Proofs.Ytdcodicoclecnaa.Lift
namespace Go.Proofs.Ytdcodicoclecnaa
open Go Go.RowKit Lift

/-- the objects of a loop over samples -/
def smH (l : Lay) (frs : List (List Int)) (f : Fl) (h : Hp) : Hp := (96, tpC l frs) :: (120, [.ptr 96 0]) :: (121, flC f) :: (808, [.yref 800]) :: h
theorem flC_in (S : Nat → Prop) (f : Fl) : ∀ d ∈ flC f, In S d := by
  intro d hd; simp [flC] at hd; rcases hd with rfl | rfl | rfl | rfl | rfl | rfl | rfl | rfl | rfl <;> exact .val _
theorem smT_low {f : Fl} {h : Hp} (h1 : LowH 800 h) : LowH 1000 ((120, [.ptr 96 0]) :: (121, flC f) :: (808, [.yref 800]) :: h) :=
  .cons (nlt rfl) (by intro d hd; simp at hd; subst hd; exact .ptr _ _ (nlt rfl)) rfl (.cons (nlt rfl) (flC_in _ f) rfl (.cons (nlt rfl) (by intro d hd; simp at hd; subst hd; exact .yref _ (nlt rfl)) rfl (h1.up (nle rfl))))
set_option maxRecDepth 100000 in
set_option maxHeartbeats 4000000 in
/-- the round of a good frame -/
theorem samples_round {n : Nat} {ps : List Nat} {asg : List (Nat × Nat)} {cb : ACode} {r : Loop} (hr : LoopIs Try.prog n ps asg cb r) (hps : ps.length = 2) (l : Lay) (frs : List (List Int)) (f : Fl) (hf : FOk l.words f) (hm : FrIn frs)
    (pin : List Nat) (hpin : ∀ g ∈ pin, g < 800) (k : List D) (hk : k.all (noY 9) = true) (hkp : ∀ d ∈ k, In (· ∈ pin) d) (hp : Nat → Hp) (hlow : ∀ i, LowH 800 (hp i))
    (i : Nat) (hi : i < frs.length) (hs : 0 ≤ subF l (frm frs i)) (hno : smp l f (frm frs i) = none → hp (i + 1) = hp i)
    (hb : ∀ v, smp l f (frm frs i) = some v → AWb true Try.prog n (1000 :: 800 :: 808 :: pin) cb (fun e s => e = .norm ∧ Wk (1000 :: 800 :: 808 :: pin) s ⟨[], smH l frs f (hp (i + 1)), 1500⟩) ⟨bodyE k ps [dI i, dI v] asg, smH l frs f (hp i), 1500⟩) :
    AWb true Try.prog 35 (1000 :: 800 :: 808 :: pin) cprecord_tape_samples_S1_B8 (fun e s => e = .norm ∧ Wk (1000 :: 800 :: 808 :: pin) s ⟨[], smH l frs f (hp (i + 1)), 1300⟩) ⟨bodyE [.yld 800 r k, .ptr 120 0, .ptr 121 0, .ptr 808 0] [8, 9] [dI i, dI (subF l (frm frs i))] [(4, 8), (5, 9)], smH l frs f (hp i), 1300⟩ := by
  have hmax : maxLen = 9223372036854775807 := rfl
  have hpre : ∀ g ∈ 1000 :: 800 :: 808 :: pin, g < 1300 := by
    intro g hg
    simp only [List.mem_cons] at hg
    rcases hg with rfl | rfl | rfl | hg
    · omega
    · omega
    · omega
    · have := hpin g hg; omega
  have hL : ∀ i, LowH 1000 (smH l frs f (hp i)) := fun i => .cons (nlt rfl) (tpC_in _ l frs) rfl (smT_low (hlow i))
  have ci := in_sub_ac hf (subF l (frm frs i))
  have hfm := hm.m i
  have hfo := subF_ok hs
  by_cases hin : inSub f (subF l (frm frs i))
  case neg =>
    have hsm : smp l f (frm frs i) = none := if_neg fun h => hin h.2
    rw [hno hsm]
    rw [inB_f hin] at ci
    have hfin : ∀ s : St, s.hp = smH l frs f (hp i) → (fun (e : AExit) s => e = .norm ∧ Wk (1000 :: 800 :: 808 :: pin) s ⟨[], smH l frs f (hp i), 1300⟩) .norm s := fun s h => ⟨rfl, wk_low hpre h.symm trivial (by rw [h]; exact (hL i).get (nle rfl))⟩
    generalize (fun (e : AExit) (s : St) => e = .norm ∧ Wk (1000 :: 800 :: 808 :: pin) s ⟨[], smH l frs f (hp i), 1300⟩) = QQ at hfin
    unfold cprecord_tape_samples_S1_B8
    unfold smH tpC flC at *
    refine aw_block (aw_seq (aw_region ?_))
    simp (config := {maxSteps := 10000000}) (disch := first | exact okYes (by kernel_rfl) | omega) only [thenQ, List.length, Nat.zero_add, Nat.reduceAdd, Nat.reduceMul, bodyE, asgE, parE, envOf, dI, eput_c, Nat.reduceBEq, eput_n, cond_false, eget_c, ↓eget_h, dB, ARun_none, AOpRun, aexec, FSt.ev, St.F, hget_c, ↓hget_h, Nat.reduceLeDiff, ↓reduceIte, List.drop, List.take, AGo_ok, St.app, putO, hups, List.map]
    refine acall0 ci ?_
    simp (config := {maxSteps := 10000000}) (disch := first | exact okYes (by kernel_rfl) | omega) only [Nat.reduceAdd, St.app, putO, dB, eput_c, Nat.reduceBEq, eput_n, cond_false, hups, ARun_none, AOpRun, aexec, FSt.ev, St.F, eget_c, ↓eget_h, AGo_ok, List.map, ARun_some, AG_ft, Bool.false_eq_true, ↓reduceIte, ARun_nil, dropE_c, inL_c, inL_n, beq_self_eq_true, cond_true, dropE_n]
    refine aw_condF rfl (aw_skip ?_)
    simp only [thenQ, blockQ, if_true, if_false, Nat.reduceEqDiff, reduceCtorEq]
    exact hfin _ rfl
  rw [inB_t hin] at ci
  obtain ⟨hfl, hfa⟩ := hfo
  have w1 := hf.w1
  have w2 := hf.w2
  have hwl : f.word.toNat < (frm frs i).length := by omega
  have hwI : f.word < ((frm frs i).length : Int) := by omega
  have hw0 : 0 ≤ f.word := by omega
  have h4 : wOk ((frm frs i)[f.word.toNat]?.getD 0) = true := by
    rw [List.getElem?_eq_getElem hwl]
    exact List.all_eq_true.1 hfa _ (List.getElem_mem hwl)
  have h5 : 0 ≤ (frm frs i)[f.word.toNat]?.getD 0 ∧ (frm frs i)[f.word.toNat]?.getD 0 ≤ 4095 := by unfold wOk at h4; simpa using h4
  have hsm : smp l f (frm frs i) = some (valI f (rawI f ((frm frs i)[f.word.toNat]?.getD 0).toNat)) := if_pos ⟨hs, hin⟩
  have g2 := ints_gd (frm frs i) f.word.toNat hwl
  have hb2 := hb _ hsm
  have hx : (frm frs i)[f.word.toNat]?.getD 0 = ((((frm frs i)[f.word.toNat]?.getD 0).toNat : Nat) : Int) := (Int.toNat_of_nonneg h5.1).symm
  rw [hx] at g2
  have hxl : ((frm frs i)[f.word.toNat]?.getD 0).toNat < 4096 := by omega
  generalize ((frm frs i)[f.word.toNat]?.getD 0).toNat = x at g2 hb2 hxl
  have g1 := rows_gd frs i hi
  rw [show frs[i]?.getD [] = frm frs i from rfl] at g1
  have cr := raw_ac hf x hxl
  have cv := value_ac hf x
  have hfin : ∀ s : St, s.hp = smH l frs f (hp (i + 1)) → (fun (e : AExit) s => e = .norm ∧ Wk (1000 :: 800 :: 808 :: pin) s ⟨[], smH l frs f (hp (i + 1)), 1300⟩) .norm s := fun s h => ⟨rfl, wk_low hpre h.symm trivial (by rw [h]; exact (hL (i + 1)).get (nle rfl))⟩
  generalize (fun (e : AExit) (s : St) => e = .norm ∧ Wk (1000 :: 800 :: 808 :: pin) s ⟨[], smH l frs f (hp (i + 1)), 1300⟩) = QQ at hfin
  have hL2 := hL
  have ki : (i : Int) < (frs.length : Int) := by omega
  generalize frm frs i = fr at *
  unfold cprecord_tape_samples_S1_B8
  unfold smH tpC flC at *
  refine aw_block (aw_seq (aw_region_yieldD hr
    [⟨some 10, .loadN 9 (.tmp 2), none, []⟩,
       ⟨some 11, .mv (.tmp 5), none, []⟩,
       ⟨some 12, .call (.func 77) [(.tmp 10), (.tmp 11)], none, [0, 1]⟩,
       ⟨some 13, .mv (.tmp 12), none, [2, 0, 1]⟩,
       ⟨some 14, .load1 (.tmp 3), (some (some 13, true)), [3, 2, 0, 1]⟩,
       ⟨some 15, .mv (.tmp 4), (some (some 13, true)), [3, 2, 0, 1]⟩,
       ⟨some 16, .loadN 9 (.tmp 2), (some (some 13, true)), [3, 2, 0, 1]⟩,
       ⟨some 17, .loadN 9 (.tmp 2), (some (some 13, true)), [3, 2, 0, 1]⟩,
       ⟨some 18, .load1 (.tmp 1), (some (some 13, true)), [3, 2, 0, 1]⟩,
       ⟨some 19, .nilc (.tmp 18), (some (some 13, true)), [8, 3, 2, 0, 1]⟩,
       ⟨some 20, .fad 6 (.tmp 19), (some (some 13, true)), [9, 8, 3, 2, 0, 1]⟩,
       ⟨some 21, .load1 (.tmp 20), (some (some 13, true)), [10, 9, 8, 3, 2, 0, 1]⟩,
       ⟨some 22, .mv (.tmp 4), (some (some 13, true)), [3, 2, 0, 1]⟩,
       ⟨some 23, .iadS 1 (.tmp 21) (.tmp 22), (some (some 13, true)), [11, 10, 9, 8, 3, 2, 0, 1, 12]⟩,
       ⟨some 24, .load1 (.tmp 23), (some (some 13, true)), [13, 11, 10, 9, 8, 3, 2, 0, 1, 12]⟩,
       ⟨some 25, .fad 0 (.tmp 2), (some (some 13, true)), [3, 2, 0, 1]⟩,
       ⟨some 26, .fad 0 (.tmp 25), (some (some 13, true)), [15, 3, 2, 0, 1]⟩,
       ⟨some 27, .load1 (.tmp 26), (some (some 13, true)), [16, 15, 3, 2, 0, 1]⟩,
       ⟨some 28, .iadS 1 (.tmp 24) (.tmp 27), (some (some 13, true)), [14, 13, 11, 10, 9, 8, 3, 2, 0, 1, 12, 17, 16, 15]⟩,
       ⟨some 29, .load1 (.tmp 28), (some (some 13, true)), [18, 14, 13, 11, 10, 9, 8, 3, 2, 0, 1, 12, 17, 16, 15]⟩,
       ⟨some 30, .call (.func 115) [(.tmp 17), (.tmp 29)], (some (some 13, true)), [7, 3, 2, 0, 1, 19, 18, 14, 13, 11, 10, 9, 8, 12, 17, 16, 15]⟩,
       ⟨some 31, .call (.func 114) [(.tmp 16), (.tmp 30)], (some (some 13, true)), [6, 3, 2, 0, 1, 20, 7, 19, 18, 14, 13, 11, 10, 9, 8, 12, 17, 16, 15]⟩]
    [⟨some 33, .un .not (.tmp 32), (some (some 13, true)), [22, 4, 3, 2, 0, 1, 5, 21, 6, 20, 7, 19, 18, 14, 13, 11, 10, 9, 8, 12, 17, 16, 15]⟩,
       ⟨some 34, .pick (.tmp 13) (.tmp 33) (.const (.bool false)), none, [3, 2, 0, 1, 23, 22, 4, 5, 21, 6, 20, 7, 19, 18, 14, 13, 11, 10, 9, 8, 12, 17, 16, 15]⟩] (by decide) (by decide) ?_))
  simp (config := {maxSteps := 10000000}) (disch := first | exact okYes (by kernel_rfl) | omega) only [List.length, Nat.zero_add, Nat.reduceAdd, Nat.reduceMul, bodyE, asgE, parE, envOf, dI, eput_c, Nat.reduceBEq, eput_n, cond_false, eget_c, ↓eget_h, dB, ARun_none, AOpRun, aexec, FSt.ev, St.F, hget_c, ↓hget_h, Nat.reduceLeDiff, ↓reduceIte, List.drop, List.take, AGo_ok, St.app, putO, hups, List.map]
  refine acall0 ci ?_
  simp (config := {maxSteps := 10000000}) (disch := first | exact okYes (by kernel_rfl) | omega) only [Nat.reduceAdd, St.app, putO, dB, eput_c, Nat.reduceBEq, eput_n, cond_false, hups, ARun_none, AOpRun, aexec, FSt.ev, St.F, eget_c, ↓eget_h, AGo_ok, List.map, ARun_some, AG_tt, Option.map, run1, hget_c, ↓hget_h, Nat.zero_add, List.getElem?_cons_zero, List.length, Nat.reduceLeDiff, ↓reduceIte, List.drop, List.take, beq_self_eq_true, cond_true, List.getElem?_cons_succ, Int.natCast_nonneg, rows_all, and_self, opt1, Int.toNat_natCast, g1, hw0, ints_all, g2]
  refine acall0 cr ?_
  simp (config := {maxSteps := 10000000}) (disch := first | exact okYes (by kernel_rfl) | omega) only [Nat.reduceAdd, St.app, putO, dI, eput_c, Nat.reduceBEq, eput_n, cond_false, hups, ARun_some, eget_c, ↓eget_h, AG_tt, AOpRun, FSt.ev, List.map, St.F]
  refine acall0 cv ?_
  simp (config := {maxSteps := 10000000}) (disch := first | exact okYes (by kernel_rfl) | omega) only [Nat.reduceAdd, St.app, putO, dI, eput_c, Nat.reduceBEq, eput_n, cond_false, hups, ARun_nil]
  refine yieldKD (1000 :: 800 :: 808 :: pin) [(13, dB true)] [dI i, dI (valI f (rawI f x))] (.inr ⟨rfl, 0, rfl⟩) rfl rfl hr hps.symm rfl (kOK_of hk) (hL2 i).2 (fun g hg => hg) ⟨.inr ⟨rfl, .val _⟩, trivial⟩ ?_
  refine aw_wk (wk_up (m := 1500) (by decide)) (aw_post hb2 ?_)
  rintro e s ⟨rfl, hw⟩
  refine ⟨_, hw, yieldQD (hL2 (i + 1)).2 (nle rfl) ?_⟩
  simp (config := {maxSteps := 10000000}) (disch := first | exact okYes (by kernel_rfl) | omega) only [Nat.reduceAdd, Nat.reduceMul, Nat.reduceSub, thenQ, List.length, Nat.zero_add, putO, dB, eput_c, Nat.reduceBEq, eput_n, cond_false, dI, ARun_some, eget_c, beq_self_eq_true, eget_n, cond_true, AG_tt, AOpRun, aexec, FSt.ev, St.F, ↓eget_h, Bool.not_true, AGo_ok, St.app, hups, List.map, ARun_none, ↓reduceIte, ARun_nil, dropE_c, inL_c, inL_n, dropE_n]
  refine aw_condF rfl (aw_skip ?_)
  simp only [thenQ, blockQ, if_true, if_false, Nat.reduceEqDiff, reduceCtorEq]
  exact hfin _ rfl
set_option maxRecDepth 100000 in
set_option maxHeartbeats 4000000 in
theorem samples_hit {n : Nat} {ps : List Nat} {asg : List (Nat × Nat)} {cb : ACode} {r : Loop} (hr : LoopIs Try.prog n ps asg cb r) (hps : ps.length = 2) (l : Lay) (frs : List (List Int)) (hn : frs.length ≤ 200) (hok : LayOk l) (f : Fl) (hf : FOk l.words f) (hm : FrIn frs)
    (pin : List Nat) (hpin : ∀ g ∈ pin, g < 800) (k : List D) (hk : k.all (noY 9) = true) (hkp : ∀ d ∈ k, In (· ∈ pin) d) (h96 : 96 ∈ pin) (h120 : 120 ∈ pin) (h121 : 121 ∈ pin) (hp : Nat → Hp) (hlow : ∀ i, LowH 800 (hp i)) {Q : AExit → St → Prop} {env' : Env}
    (hno : ∀ i, i < frs.length → smp l f (frm frs i) = none → hp (i + 1) = hp i)
    (hb : ∀ i v, i < frs.length → smp l f (frm frs i) = some v → AWb true Try.prog n (1000 :: 800 :: 808 :: pin) cb (fun e s => e = .norm ∧ Wk (1000 :: 800 :: 808 :: pin) s ⟨[], smH l frs f (hp (i + 1)), 1500⟩) ⟨bodyE k ps [dI i, dI v] asg, smH l frs f (hp i), 1500⟩)
    (hQ : Q .norm ⟨env', smH l frs f (hp frs.length), 1100⟩) : AWb false Try.prog 35 pin cprecord_tape_samples_S1 (RangeQ Q env') ⟨envOf 0 [.yld 800 r k, .ptr 120 0, .ptr 121 0], (96, tpC l frs) :: (120, [.ptr 96 0]) :: (121, flC f) :: hp 0, 808⟩ := by
  have hkO : kOK [.yld 800 r k, .ptr 120 0, .ptr 121 0, .ptr 808 0] = true := by simp only [kOK, List.all_cons, hk]; rfl
  have hpre : ∀ m, 809 ≤ m → ∀ g ∈ 800 :: 808 :: pin, g < m := fun m hm g hg => by
    simp only [List.mem_cons] at hg
    rcases hg with rfl | rfl | hg
    · omega
    · omega
    · have := hpin g hg; omega
  have hky : ∀ S : Nat → Prop, S 800 → (∀ g ∈ pin, S g) → In S (.yld 800 r k) := fun S h1 h2 => .yld _ _ _ h1 fun d hd => (hkp d hd).mono fun g hg => h2 g hg
  have hkp2 : ∀ d ∈ [D.yld 800 r k, .ptr 120 0, .ptr 121 0, .ptr 808 0], In (· ∈ 800 :: 808 :: pin) d := by
    intro d hd
    simp only [List.mem_cons, List.not_mem_nil, or_false] at hd
    rcases hd with rfl | rfl | rfl | rfl
    · exact hky _ (by simp) fun g hg => by simp [hg]
    · exact .ptr _ _ (by simp [h120])
    · exact .ptr _ _ (by simp [h121])
    · exact .ptr _ _ (by simp)
  have h8 : hget (hp 0) 808 = none := by
    cases h : hget (hp 0) 808 with
    | none => rfl
    | some c => have := ((hlow 0).1 _ _ h).1; omega
  unfold cprecord_tape_samples_S1
  refine aw_seq (aw_region ?_)
  simp (config := {maxSteps := 10000000}) (disch := first | exact okYes (by kernel_rfl) | omega) only [thenQ, List.length, Nat.zero_add, Nat.reduceMul, Nat.reduceAdd, envOf, ARun_none, AOpRun, aexec, D.isBot, FSt.ev, St.F, ↓eget_h, Bool.false_eq_true, Option.isSome, hget_c, Nat.reduceBEq, h8, cond_false, or_self, ↓reduceIte, D.cells, AGo_ok, St.app, putO, eput_c, eput_n, hups, hput_c, List.map, ARun_nil, dropE_c, inL_n, dropE_n]
  refine aw_seq (aw_region ?_)
  simp (config := {maxSteps := 10000000}) (disch := first | exact okYes (by kernel_rfl) | omega) only [thenQ, List.length, Nat.zero_add, Nat.reduceAdd, Nat.reduceMul, ARun_none, AOpRun, aexec, Option.map, run1, FSt.ev, St.F, eget_c, Nat.reduceBEq, ↓eget_h, cond_false, hget_c, ↓hget_h, List.getElem?_cons_zero, AGo_ok, St.app, putO, eput_c, eput_n, hups, List.map, ARun_nil, dropE_c, inL_c, inL_n, beq_self_eq_true, cond_true, dropE_n]
  refine aw_wk (s' := ⟨[(0, .yld 800 r k), (1, .ptr 120 0), (2, .ptr 121 0), (3, .ptr 808 0), (7, .fn 72 [.ptr 96 0] [])], smH l frs f (hp 0), 1000⟩) (wk_ref (fun g hg => by have := hpin g hg; show g < 1000; omega)
    ⟨rfl, hky _ (nlt rfl) (fun g hg => by have := hpin g hg; show g < 1000; omega), rfl, .ptr _ _ (nlt rfl), rfl, .ptr _ _ (nlt rfl), rfl, .ptr _ _ (nlt rfl), rfl, .fn _ _ _ (by intro d hd; simp at hd; subst hd; exact .ptr _ _ (nlt rfl)) (by simp), trivial⟩ ?_) ?_
  · intro g c hc
    simp only [smH, hget] at hc
    simp only [hget, hget_put]
    split at hc
    · cases hc; rename_i h; subst h; exact ⟨nlt rfl, _, rfl, CT.refl (tpC_in _ l frs)⟩
    split at hc
    · cases hc; rename_i h; subst h; exact ⟨nlt rfl, _, rfl, CT.refl (by intro d hd; simp at hd; subst hd; exact .ptr _ _ (nlt rfl))⟩
    split at hc
    · cases hc; rename_i h; subst h; exact ⟨nlt rfl, _, rfl, CT.refl (flC_in _ f)⟩
    split at hc
    · cases hc; rename_i h; subst h; exact ⟨nlt rfl, _, rfl, ⟨.inr ⟨_, _, _, rfl, rfl⟩, .yref _ (nlt rfl), trivial⟩⟩
    · have h1 := (hlow 0).1 g c hc
      refine ⟨by show g < 1000; omega, c, ?_, CT.refl fun d hd => (h1.2 d hd).mono fun x hx => by show x < 1000; omega⟩
      rename_i q1 q2 q3 q4
      simp [q1, q2, q3, q4, hc]
  refine aw_block (aw_range (800 :: 808 :: pin) [] [.yld 800 r k, .ptr 120 0, .ptr 121 0, .ptr 808 0] kprecord_tape_good rfl (by simp) ⟨.inr rfl, .inr rfl, .inr rfl, .inr rfl, trivial⟩ hkO ?_ (fun g hg => by simp [hg]) trivial (fun r2 hr2 => ?_))
  · show hget (smH l frs f (hp 0)) 1000 = none
    simp only [smH, hget, Nat.reduceEqDiff, if_false]
    cases h : hget (hp 0) 1000 with
    | none => rfl
    | some c => have := (hlow 0).1 _ _ h; omega
  refine good_hit hr2 rfl l frs hn (800 :: 808 :: pin) (hpre 1000 (nle rfl)) [.yld 800 r k, .ptr 120 0, .ptr 121 0, .ptr 808 0] hkO hkp2 (by simp [h96]) (fun i => (120, [.ptr 96 0]) :: (121, flC f) :: (808, [.yref 800]) :: hp i) (fun i => smT_low (hlow i)) (fun i hi hs => ?_) (fun i hi hs => ?_) ?_
  · rw [hno i hi (if_neg fun h => hs h.1)]
  · exact samples_round hr hps l frs f hf hm pin hpin k hk hkp hp hlow i hi hs (hno i hi) (fun v hv => hb i v hi hv)
  · simp only [blockQ]
    exact rangeQ (.inl rfl) ((smT_low (hlow _)).cons (nlt rfl) (tpC_in _ l frs) rfl).2 hQ
end Go.Proofs.Ytdcodicoclecnaa
/- record: a field's samples, a tape that has fields. No conditions. -/
set_option linter.unusedSimpArgs false
set_option linter.unusedVariables false
namespace Go.Proofs.Ytdcodicoclecnaa
open Go.RowKit Lift

theorem fAt_ok {l : Lay} (h : LayOk l) {k : Nat} (hk : k < l.fl.length) : FOk l.words (fAt l k) := h.fo k hk
set_option maxRecDepth 100000 in
set_option maxHeartbeats 2000000 in
theorem samples_ac (l : Lay) (frs : List (List Int)) (k : Nat) (hk : k < l.fl.length) (hn : l.fl.length ≤ 1000) : AC Try.prog 67 [.ptr 96 0, dI k] [(96, tpC l frs)] [(96, some (tpC l frs)), (120, some [.ptr 96 0]), (121, some (flC (fAt l k)))] (.fn 113 [] [.ptr 120 0, .ptr 121 0]) := by
  refine kprecord_tape_samples.ac (n0 := 200) (by simp) ⟨.ptr _ _ (by omega), .val _, trivial⟩ ⟨⟨by omega, tpC_in _ _ _⟩, trivial⟩ rfl ?_
  unfold cprecord_tape_samples
  unfold tpC
  have g1 : (fls l.fl)[k]? = some (flC (fAt l k)) := fls_gd l.fl k hk
  unfold flC at g1 ⊢
  have ki : (k : Int) < (l.fl.length : Int) := by omega
  have fa := fls_all l.fl
  have fl := fls_len l.fl
  (have hg : (987654321 : Nat) - 987654321 = 0 := rfl; have hr := hg; repeat' (first | refine aw_seq ?_ | (refine aw_skip ?_; repeat' (first | with_reducible refine thenQ_n ?_ | with_reducible refine blockQ_n ?_ | with_reducible refine thenQ_e ?_ | with_reducible refine blockQ_t ?_ | with_reducible refine blockQ_f (by decide) ?_)) | (refine aw_exit ?_; repeat' (first | with_reducible refine thenQ_n ?_ | with_reducible refine blockQ_n ?_ | with_reducible refine thenQ_e ?_ | with_reducible refine blockQ_t ?_ | with_reducible refine blockQ_f (by decide) ?_)) | refine aw_ret ?_ | refine aw_block ?_ | refine aw_condT rfl ?_ | refine aw_condF rfl ?_ | ((first | refine aw_hide fun K hK => aw_region ?_ | refine ago_if (by omega) ?_ | skip); simp (config := {maxSteps := 10000000}) (disch := first | exact okYes (by kernel_rfl) | omega) only [List.length, Nat.zero_add, Nat.reduceAdd, Nat.reduceMul, envOf, dI, ARun_none, AOpRun, aexec, D.isBot, FSt.ev, St.F, ↓eget_h, Bool.false_eq_true, Option.isSome, hget_c, Nat.reduceBEq, hget_n, cond_false, or_self, ↓reduceIte, D.cells, AGo_ok, St.app, putO, eput_c, eput_n, hups, hput_c, hput_n, List.map, ARun_nil, dropE_c, inL_n, dropE_n, Option.map, run1, eget_c, ↓hget_h, List.getElem?_cons_zero, beq_self_eq_true, cond_true, List.getElem?_cons_succ, Int.natCast_nonneg, fa, and_self, opt1, Int.toNat_natCast, g1, dB, Nat.reduceLeDiff, List.take, fillD, ne_eq, not_true_eq_false, Nat.reduceGT, splice, List.nil_append, List.drop, List.append_nil, List.all, D.leaf, Bool.and_true, inL_c]) | (subst hK; repeat' (first | with_reducible refine thenQ_n ?_ | with_reducible refine blockQ_n ?_ | with_reducible refine thenQ_e ?_ | with_reducible refine blockQ_t ?_ | with_reducible refine blockQ_f (by decide) ?_))))
  refine end_to [] [(96, 96), (120, 200), (121, 288)] (by first | exact .inl rfl | exact .inr rfl) rfl (by kernel_rfl) (by kernel_rfl) (by kernel_rfl) ?_ ?_ <;> repeat' (first | exact trivial | exact vr_val _ | exact vr_list _ | exact vr_ptr _ _ _ rfl | apply vr_fn | refine And.intro ⟨_, rfl, _, rfl, by decide, ?_⟩ ?_ | apply And.intro)
  all_goals first | exact tpC_in _ _ _ | exact flC_in _ _
set_option maxRecDepth 100000 in
set_option maxHeartbeats 2000000 in
theorem has_ac (l : Lay) (frs : List (List Int)) (x : Int) (hn : l.fl.length ≤ 1000) : AC Try.prog 112 [.ptr 96 0, dI x] [(96, tpC l frs)] [(96, some (tpC l frs))] (dB (wI x 0 ((l.fl.length : Int) - 1))) := by
  refine kprecord_tape_has.ac (n0 := 200) (by simp) ⟨.ptr _ _ (by omega), .val _, trivial⟩ ⟨⟨by omega, tpC_in _ _ _⟩, trivial⟩ rfl ?_
  unfold cprecord_tape_has
  unfold tpC
  have fl := fls_len l.fl
  (have hg : (987654321 : Nat) - 987654321 = 0 := rfl; have hr := hg; repeat' (first | refine aw_seq ?_ | (refine aw_skip ?_; repeat' (first | with_reducible refine thenQ_n ?_ | with_reducible refine blockQ_n ?_ | with_reducible refine thenQ_e ?_ | with_reducible refine blockQ_t ?_ | with_reducible refine blockQ_f (by decide) ?_)) | (refine aw_exit ?_; repeat' (first | with_reducible refine thenQ_n ?_ | with_reducible refine blockQ_n ?_ | with_reducible refine thenQ_e ?_ | with_reducible refine blockQ_t ?_ | with_reducible refine blockQ_f (by decide) ?_)) | refine aw_ret ?_ | refine aw_block ?_ | refine aw_condT rfl ?_ | refine aw_condF rfl ?_ | ((first | refine aw_hide fun K hK => aw_region ?_ | refine acall0 (within_ac _ _ _) ?_ | refine ago_if (by omega) ?_ | skip); simp (config := {maxSteps := 10000000}) (disch := first | exact okYes (by kernel_rfl) | omega) only [List.length, Nat.zero_add, Nat.reduceMul, Nat.reduceAdd, envOf, dI, ARun_none, AOpRun, aexec, FSt.ev, AGo_ok, St.app, putO, eput_c, Nat.reduceBEq, eput_n, cond_false, hups, List.map, ARun_nil, dropE_c, inL_n, dropE_n, St.F, eget_c, ↓eget_h, Option.map, run1, hget_c, beq_self_eq_true, hget_n, cond_true, List.getElem?_cons_succ, List.getElem?_cons_zero, fl, isSh, Bool.false_eq_true, ↓reduceIte, abin, fits, dB, inL_c]) | (subst hK; repeat' (first | with_reducible refine thenQ_n ?_ | with_reducible refine blockQ_n ?_ | with_reducible refine thenQ_e ?_ | with_reducible refine blockQ_t ?_ | with_reducible refine blockQ_f (by decide) ?_))))
  all_goals (refine end_to [] [(96, 96)] (by first | exact .inl rfl | exact .inr rfl) rfl (by kernel_rfl) (by kernel_rfl) (by kernel_rfl) ?_ ?_ <;> repeat' (first | exact trivial | exact vr_val _ | exact vr_list _ | refine And.intro ⟨_, rfl, _, rfl, by decide, ?_⟩ ?_ | apply And.intro))
  all_goals exact tpC_in _ _ _
set_option maxRecDepth 100000 in
set_option maxHeartbeats 2000000 in
theorem hasF_ac (l : Lay) (frs : List (List Int)) (x : Int) (hn : l.fl.length ≤ 1000) : AC Try.prog 111 [dI x, .ptr 152 0] [(96, tpC l frs), (152, [.ptr 96 0])] [(96, some (tpC l frs)), (152, some [.ptr 96 0])] (dB (!wI x 0 ((l.fl.length : Int) - 1))) := by
  refine krecord_withField_S1.ac (n0 := 200) (by simp) ⟨.val _, .ptr _ _ (by omega), trivial⟩ ⟨⟨by omega, tpC_in _ _ _⟩, ⟨by omega, by intro d hd; simp at hd; subst hd; exact .ptr _ _ (by omega)⟩, trivial⟩ rfl ?_
  unfold crecord_withField_S1
  (have hg : (987654321 : Nat) - 987654321 = 0 := rfl; have hr := hg; repeat' (first | refine aw_seq ?_ | (refine aw_skip ?_; repeat' (first | with_reducible refine thenQ_n ?_ | with_reducible refine blockQ_n ?_ | with_reducible refine thenQ_e ?_ | with_reducible refine blockQ_t ?_ | with_reducible refine blockQ_f (by decide) ?_)) | (refine aw_exit ?_; repeat' (first | with_reducible refine thenQ_n ?_ | with_reducible refine blockQ_n ?_ | with_reducible refine thenQ_e ?_ | with_reducible refine blockQ_t ?_ | with_reducible refine blockQ_f (by decide) ?_)) | refine aw_ret ?_ | refine aw_block ?_ | refine aw_condT rfl ?_ | refine aw_condF rfl ?_ | ((first | refine aw_hide fun K hK => aw_region ?_ | refine acallB (has_ac l frs _ hn) (by repeat' (first | exact trivial | exact rfl | refine And.intro ?_ ?_)) (by kernel_rfl) (by kernel_rfl) (by kernel_rfl) ?_ | refine ago_if (by omega) ?_ | skip); simp (config := {maxSteps := 10000000}) (disch := first | exact okYes (by kernel_rfl) | omega) only [List.length, Nat.zero_add, Nat.reduceMul, Nat.reduceAdd, envOf, dI, ARun_none, AOpRun, aexec, FSt.ev, AGo_ok, St.app, putO, eput_c, Nat.reduceBEq, eput_n, cond_false, hups, List.map, ARun_nil, dropE_c, inL_n, dropE_n, Option.map, run1, St.F, eget_c, ↓eget_h, hget_c, ↓hget_h, List.getElem?_cons_zero, dB, hput_c, beq_self_eq_true, hput_n, cond_true, List.append_nil, inL_c]) | (subst hK; repeat' (first | with_reducible refine thenQ_n ?_ | with_reducible refine blockQ_n ?_ | with_reducible refine thenQ_e ?_ | with_reducible refine blockQ_t ?_ | with_reducible refine blockQ_f (by decide) ?_))))
  all_goals (refine end_to [] [(96, 96), (152, 152)] (by first | exact .inl rfl | exact .inr rfl) rfl (by kernel_rfl) (by kernel_rfl) (by kernel_rfl) ?_ ?_ <;> repeat' (first | exact trivial | exact vr_val _ | exact vr_list _ | exact vr_ptr _ _ _ rfl | refine And.intro ⟨_, rfl, _, rfl, by decide, ?_⟩ ?_ | apply And.intro))
  all_goals exact tpC_in _ _ _
/-- all fields are there -/
def hasA (l : Lay) (fs : List Int) : Bool := fs.all fun x => wI x 0 ((l.fl.length : Int) - 1)
set_option maxRecDepth 100000 in
set_option maxHeartbeats 4000000 in
theorem ihas_ac (l : Lay) (frs : List (List Int)) (fs : List Int) (hl : fs.length ≤ 1000000) (hn : l.fl.length ≤ 1000) : AC Try.prog 144 [.list (ints fs), .fn 111 [] [.ptr 152 0]] [(96, tpC l frs), (152, [.ptr 96 0])] [(96, some (tpC l frs)), (152, some [.ptr 96 0])] (dI (match fs.findIdx? (fun x => !wI x 0 ((l.fl.length : Int) - 1)) with
    | some k => (k : Int)
    | none => -1)) := by
  refine kslices_IndexFunc_L_L_Jint_Kint_J.ac (n0 := 200) (by simp) ⟨.list _, .fn _ _ _ (by simp) (by intro d hd; simp at hd; subst hd; exact .ptr _ _ (by omega)), trivial⟩ ⟨⟨by omega, tpC_in _ _ _⟩, ⟨by omega, by intro d hd; simp at hd; subst hd; exact .ptr _ _ (by omega)⟩, trivial⟩ rfl ?_
  unfold cslices_IndexFunc_L_L_Jint_Kint_J
  (have hg : (987654321 : Nat) - 987654321 = 0 := rfl; have hr := hg; repeat' (first | refine aw_seq ?_ | (refine aw_skip ?_; repeat' (first | with_reducible refine thenQ_n ?_ | with_reducible refine blockQ_n ?_ | with_reducible refine thenQ_e ?_ | with_reducible refine blockQ_t ?_ | with_reducible refine blockQ_f (by decide) ?_)) | (refine aw_exit ?_; repeat' (first | with_reducible refine thenQ_n ?_ | with_reducible refine blockQ_n ?_ | with_reducible refine thenQ_e ?_ | with_reducible refine blockQ_t ?_ | with_reducible refine blockQ_f (by decide) ?_)) | refine aw_ret ?_ | refine aw_block ?_ | refine aw_condT rfl ?_ | refine aw_condF rfl ?_ | ((first | refine aw_hide fun K hK => aw_region ?_ | refine ago_if (by omega) ?_ | skip); simp (config := {maxSteps := 10000000}) (disch := first | exact okYes (by kernel_rfl) | omega) only [List.length, Nat.zero_add, Nat.reduceMul, Nat.reduceAdd, envOf, ARun_none, AOpRun, aexec, FSt.ev, AGo_ok, St.app, putO, eput_c, Nat.reduceBEq, eput_n, cond_false, hups, List.map, ARun_nil, dropE_c, inL_n, dropE_n, St.F, ↓eget_h, eget_c, ints_len, inL_c, beq_self_eq_true, cond_true, Int.reduceNeg, dI]) | (subst hK; repeat' (first | with_reducible refine thenQ_n ?_ | with_reducible refine blockQ_n ?_ | with_reducible refine thenQ_e ?_ | with_reducible refine blockQ_t ?_ | with_reducible refine blockQ_f (by decide) ?_))))
  refine aw_loop (fun k : Nat => ⟨[(0, .list (ints fs)), (1, .fn 111 [] [.ptr 152 0]), (7, dI fs.length), (8, dI k)], [(96, tpC l frs), (152, [.ptr 96 0])], 400⟩) (fun k => k ≤ fs.length ∧ ∀ j, j < k → wI (fs[j]?.getD 0) 0 ((l.fl.length : Int) - 1) = true) (fun k => fs.length - k) ⟨0, ⟨by omega, fun j hj => by omega⟩, ?_⟩ ?_
  · refine wk_to [] [(96, 96), (152, 152)] (by kernel_rfl) (by kernel_rfl) (by kernel_rfl) (by kernel_rfl) (by kernel_rfl) ?_ ?_ <;> repeat' (first | exact trivial | exact vr_val _ | exact vr_list _ | exact vr_ptr _ _ _ rfl | apply vr_fn | refine And.intro ⟨_, rfl, .inl ⟨_, rfl, by decide, ?_⟩⟩ ?_ | apply And.intro)
    all_goals exact tpC_in _ _ _
  rintro k ⟨hk, hin⟩
  by_cases hk2 : k < fs.length
  · have g1 := ints_gd fs k hk2
    cases he : wI (fs[k]?.getD 0) 0 ((l.fl.length : Int) - 1) with
    | false =>
      have q : fs.findIdx? (fun x => !wI x 0 ((l.fl.length : Int) - 1)) = some k := by
        rw [List.findIdx?_eq_some_iff_getElem]
        refine ⟨hk2, by have := he; simp [hk2] at this; simp [this], fun j hj => ?_⟩
        have := hin j hj
        simpa [show j < fs.length by omega] using this
      rw [q]
      (have hg : (987654321 : Nat) - 987654321 = 0 := rfl; have hr := hg; repeat' (first | refine aw_seq ?_ | (refine aw_skip ?_; repeat' (first | with_reducible refine thenQ_n ?_ | with_reducible refine blockQ_n ?_ | with_reducible refine thenQ_e ?_ | with_reducible refine blockQ_t ?_ | with_reducible refine blockQ_f (by decide) ?_)) | (refine aw_exit ?_; repeat' (first | with_reducible refine thenQ_n ?_ | with_reducible refine blockQ_n ?_ | with_reducible refine thenQ_e ?_ | with_reducible refine blockQ_t ?_ | with_reducible refine blockQ_f (by decide) ?_)) | refine aw_ret ?_ | refine aw_block ?_ | refine aw_condT rfl ?_ | refine aw_condF rfl ?_ | (refine aw_cond rfl (fun hg => ?_) (fun hg => ?_) <;> (try (have hq := hg; simp only [Bool.not_eq_true', Bool.not_eq_false', Bool.and_eq_true, Bool.and_eq_false_iff, Bool.or_eq_true, Bool.or_eq_false_iff, decide_eq_true_eq, decide_eq_false_iff_not, bne_iff_ne, beq_iff_eq, beq_eq_false_iff_ne, bne_eq_false_iff_eq, ne_eq, Int.not_lt, Int.not_le, Decidable.not_not] at hq)) <;> (try (have hr := hg; simp only [decide_eq_true_eq, decide_eq_false_iff_not] at hr)) <;> (try (exfalso; omega))) | ((first | refine aw_hide fun K hK => aw_region ?_ | refine acallB (hasF_ac l frs _ hn) (by repeat' (first | exact trivial | exact rfl | refine And.intro ?_ ?_)) (by kernel_rfl) (by kernel_rfl) (by kernel_rfl) ?_ | refine ago_if (by omega) ?_ | skip); simp (config := {maxSteps := 10000000}) (disch := first | exact okYes (by kernel_rfl) | omega) only [List.length, Nat.zero_add, Nat.reduceMul, Nat.reduceAdd, dI, ARun_none, AOpRun, aexec, FSt.ev, St.F, eget_c, Nat.reduceBEq, ↓eget_h, cond_false, isSh, Bool.false_eq_true, ↓reduceIte, Option.map, abin, AGo_ok, St.app, putO, eput_c, eput_n, hups, List.map, ARun_nil, dropE_c, inL_n, dropE_n, hr, decide_true, inL_c, beq_self_eq_true, cond_true, Int.natCast_nonneg, ints_all, and_self, opt1, Int.toNat_natCast, g1, run1, List.getElem?_cons_zero, dB, he, Bool.not_false, hput_c, hput_n, List.append_nil, blockQ, thenQ]) | (subst hK; repeat' (first | with_reducible refine thenQ_n ?_ | with_reducible refine blockQ_n ?_ | with_reducible refine thenQ_e ?_ | with_reducible refine blockQ_t ?_ | with_reducible refine blockQ_f (by decide) ?_))))
      all_goals (refine end_to [] [(96, 96), (152, 152)] (by first | exact .inl rfl | exact .inr rfl) rfl (by kernel_rfl) (by kernel_rfl) (by kernel_rfl) ?_ ?_ <;> repeat' (first | exact trivial | exact vr_val _ | exact vr_list _ | exact vr_ptr _ _ _ rfl | refine And.intro ⟨_, rfl, _, rfl, by decide, ?_⟩ ?_ | apply And.intro))
      all_goals exact tpC_in _ _ _
    | true =>
      (have hg : (987654321 : Nat) - 987654321 = 0 := rfl; have hr := hg; repeat' (first | refine aw_seq ?_ | (refine aw_skip ?_; repeat' (first | with_reducible refine thenQ_n ?_ | with_reducible refine blockQ_n ?_ | with_reducible refine thenQ_e ?_ | with_reducible refine blockQ_t ?_ | with_reducible refine blockQ_f (by decide) ?_)) | (refine aw_exit ?_; repeat' (first | with_reducible refine thenQ_n ?_ | with_reducible refine blockQ_n ?_ | with_reducible refine thenQ_e ?_ | with_reducible refine blockQ_t ?_ | with_reducible refine blockQ_f (by decide) ?_)) | refine aw_ret ?_ | refine aw_block ?_ | refine aw_condT rfl ?_ | refine aw_condF rfl ?_ | (refine aw_cond rfl (fun hg => ?_) (fun hg => ?_) <;> (try (have hq := hg; simp only [Bool.not_eq_true', Bool.not_eq_false', Bool.and_eq_true, Bool.and_eq_false_iff, Bool.or_eq_true, Bool.or_eq_false_iff, decide_eq_true_eq, decide_eq_false_iff_not, bne_iff_ne, beq_iff_eq, beq_eq_false_iff_ne, bne_eq_false_iff_eq, ne_eq, Int.not_lt, Int.not_le, Decidable.not_not] at hq)) <;> (try (have hr := hg; simp only [decide_eq_true_eq, decide_eq_false_iff_not] at hr)) <;> (try (exfalso; omega))) | ((first | refine aw_hide fun K hK => aw_region ?_ | refine acallB (hasF_ac l frs _ hn) (by repeat' (first | exact trivial | exact rfl | refine And.intro ?_ ?_)) (by kernel_rfl) (by kernel_rfl) (by kernel_rfl) ?_ | refine ago_if (by omega) ?_ | skip); simp (config := {maxSteps := 10000000}) (disch := first | exact okYes (by kernel_rfl) | omega) only [List.length, Nat.zero_add, Nat.reduceMul, Nat.reduceAdd, dI, ARun_none, AOpRun, aexec, FSt.ev, St.F, eget_c, Nat.reduceBEq, ↓eget_h, cond_false, isSh, Bool.false_eq_true, ↓reduceIte, Option.map, abin, AGo_ok, St.app, putO, eput_c, eput_n, hups, List.map, ARun_nil, dropE_c, inL_n, dropE_n, hr, decide_true, inL_c, beq_self_eq_true, cond_true, Int.natCast_nonneg, ints_all, and_self, opt1, Int.toNat_natCast, g1, run1, List.getElem?_cons_zero, dB, he, Bool.not_true, hput_c, hput_n, List.append_nil, fits]) | (subst hK; repeat' (first | with_reducible refine thenQ_n ?_ | with_reducible refine blockQ_n ?_ | with_reducible refine thenQ_e ?_ | with_reducible refine blockQ_t ?_ | with_reducible refine blockQ_f (by decide) ?_))))
      refine ⟨k + 1, ⟨by omega, fun j hj => ?_⟩, by omega, ?_⟩
      · rcases (by omega : j < k ∨ j = k) with h | rfl
        · exact hin j h
        · exact he
      · refine wk_to [] [(96, 96), (152, 152)] (by kernel_rfl) (by kernel_rfl) (by kernel_rfl) (by kernel_rfl) (by kernel_rfl) ?_ ?_ <;> repeat' (first | exact trivial | exact vr_val _ | exact vr_list _ | exact vr_ptr _ _ _ rfl | apply vr_fn | refine And.intro ⟨_, rfl, .inl ⟨_, rfl, by decide, ?_⟩⟩ ?_ | apply And.intro)
        all_goals exact tpC_in _ _ _
  · obtain rfl : k = fs.length := by omega
    have q : fs.findIdx? (fun x => !wI x 0 ((l.fl.length : Int) - 1)) = none := by
      rw [List.findIdx?_eq_none_iff]
      intro y hy
      obtain ⟨j, hj, rfl⟩ := List.getElem_of_mem hy
      have := hin j hj
      simp [hj] at this
      simp [this]
    rw [q]
    (have hg : (987654321 : Nat) - 987654321 = 0 := rfl; have hr := hg; repeat' (first | refine aw_seq ?_ | (refine aw_skip ?_; repeat' (first | with_reducible refine thenQ_n ?_ | with_reducible refine blockQ_n ?_ | with_reducible refine thenQ_e ?_ | with_reducible refine blockQ_t ?_ | with_reducible refine blockQ_f (by decide) ?_)) | (refine aw_exit ?_; repeat' (first | with_reducible refine thenQ_n ?_ | with_reducible refine blockQ_n ?_ | with_reducible refine thenQ_e ?_ | with_reducible refine blockQ_t ?_ | with_reducible refine blockQ_f (by decide) ?_)) | refine aw_ret ?_ | refine aw_block ?_ | refine aw_condT rfl ?_ | refine aw_condF rfl ?_ | (refine aw_cond rfl (fun hg => ?_) (fun hg => ?_) <;> (try (have hq := hg; simp only [Bool.not_eq_true', Bool.not_eq_false', Bool.and_eq_true, Bool.and_eq_false_iff, Bool.or_eq_true, Bool.or_eq_false_iff, decide_eq_true_eq, decide_eq_false_iff_not, bne_iff_ne, beq_iff_eq, beq_eq_false_iff_ne, bne_eq_false_iff_eq, ne_eq, Int.not_lt, Int.not_le, Decidable.not_not] at hq)) <;> (try (have hr := hg; simp only [decide_eq_true_eq, decide_eq_false_iff_not] at hr)) <;> (try (exfalso; omega))) | ((first | refine aw_hide fun K hK => aw_region ?_ | refine ago_if (by omega) ?_ | skip); simp (config := {maxSteps := 10000000}) (disch := first | exact okYes (by kernel_rfl) | omega) only [List.length, Nat.zero_add, Nat.reduceMul, Nat.reduceAdd, dI, ARun_none, AOpRun, aexec, FSt.ev, St.F, eget_c, Nat.reduceBEq, ↓eget_h, cond_false, isSh, Bool.false_eq_true, ↓reduceIte, Option.map, abin, AGo_ok, St.app, putO, eput_c, eput_n, hups, List.map, ARun_nil, dropE_c, inL_n, dropE_n, Int.reduceNeg, hr, decide_false]) | (subst hK; repeat' (first | with_reducible refine thenQ_n ?_ | with_reducible refine blockQ_n ?_ | with_reducible refine thenQ_e ?_ | with_reducible refine blockQ_t ?_ | with_reducible refine blockQ_f (by decide) ?_))))
    all_goals (refine end_to [] [(96, 96), (152, 152)] (by first | exact .inl rfl | exact .inr rfl) rfl (by kernel_rfl) (by kernel_rfl) (by kernel_rfl) ?_ ?_ <;> repeat' (first | exact trivial | exact vr_val _ | exact vr_list _ | exact vr_ptr _ _ _ rfl | refine And.intro ⟨_, rfl, _, rfl, by decide, ?_⟩ ?_ | apply And.intro))
    all_goals exact tpC_in _ _ _
set_option maxRecDepth 100000 in
set_option maxHeartbeats 2000000 in
theorem chas_ac (l : Lay) (frs : List (List Int)) (fs : List Int) (hl : fs.length ≤ 1000000) (hn : l.fl.length ≤ 1000) : AC Try.prog 110 [.list (ints fs), .fn 111 [] [.ptr 152 0]] [(96, tpC l frs), (152, [.ptr 96 0])] [(96, some (tpC l frs)), (152, some [.ptr 96 0])] (dB (!hasA l fs)) := by
  refine kslices_ContainsFunc_L_L_Jint_Kint_J.ac (n0 := 200) (by simp) ⟨.list _, .fn _ _ _ (by simp) (by intro d hd; simp at hd; subst hd; exact .ptr _ _ (by omega)), trivial⟩ ⟨⟨by omega, tpC_in _ _ _⟩, ⟨by omega, by intro d hd; simp at hd; subst hd; exact .ptr _ _ (by omega)⟩, trivial⟩ rfl ?_
  unfold cslices_ContainsFunc_L_L_Jint_Kint_J
  have hf := ihas_ac l frs fs hl hn
  cases h : fs.findIdx? (fun x => !wI x 0 ((l.fl.length : Int) - 1)) with
  | none =>
    have ha : hasA l fs = true := by
      rw [List.findIdx?_eq_none_iff] at h
      refine List.all_eq_true.2 fun x hx => ?_
      have := h x hx
      simpa using this
    rw [h] at hf
    rw [ha]
    (have hg : (987654321 : Nat) - 987654321 = 0 := rfl; have hr := hg; repeat' (first | refine aw_seq ?_ | (refine aw_skip ?_; repeat' (first | with_reducible refine thenQ_n ?_ | with_reducible refine blockQ_n ?_ | with_reducible refine thenQ_e ?_ | with_reducible refine blockQ_t ?_ | with_reducible refine blockQ_f (by decide) ?_)) | (refine aw_exit ?_; repeat' (first | with_reducible refine thenQ_n ?_ | with_reducible refine blockQ_n ?_ | with_reducible refine thenQ_e ?_ | with_reducible refine blockQ_t ?_ | with_reducible refine blockQ_f (by decide) ?_)) | refine aw_ret ?_ | refine aw_block ?_ | refine aw_condT rfl ?_ | refine aw_condF rfl ?_ | ((first | refine aw_hide fun K hK => aw_region ?_ | refine acallB (hf) (by repeat' (first | exact trivial | exact rfl | refine And.intro ?_ ?_)) (by kernel_rfl) (by kernel_rfl) (by kernel_rfl) ?_ | refine ago_if (by omega) ?_ | skip); simp (config := {maxSteps := 10000000}) (disch := first | exact okYes (by kernel_rfl) | omega) only [List.length, Nat.zero_add, Nat.reduceMul, Nat.reduceAdd, envOf, ARun_none, AOpRun, aexec, FSt.ev, AGo_ok, St.app, putO, eput_c, Nat.reduceBEq, eput_n, cond_false, hups, List.map, ARun_nil, dropE_c, inL_n, dropE_n, St.F, ↓eget_h, eget_c, dI, Int.reduceNeg, hput_c, beq_self_eq_true, hput_n, cond_true, List.append_nil, isSh, Bool.false_eq_true, ↓reduceIte, Option.map, abin, inL_c, dB, Bool.not_true]) | (subst hK; repeat' (first | with_reducible refine thenQ_n ?_ | with_reducible refine blockQ_n ?_ | with_reducible refine thenQ_e ?_ | with_reducible refine blockQ_t ?_ | with_reducible refine blockQ_f (by decide) ?_))))
    all_goals (refine end_to [] [(96, 96), (152, 152)] (by first | exact .inl rfl | exact .inr rfl) rfl (by kernel_rfl) (by kernel_rfl) (by kernel_rfl) ?_ ?_ <;> repeat' (first | exact trivial | exact vr_val _ | exact vr_list _ | exact vr_ptr _ _ _ rfl | refine And.intro ⟨_, rfl, _, rfl, by decide, ?_⟩ ?_ | apply And.intro))
    all_goals exact tpC_in _ _ _
  | some k =>
    have ha : hasA l fs = false := by
      rw [List.findIdx?_eq_some_iff_getElem] at h
      obtain ⟨hk, he, _⟩ := h
      refine List.all_eq_false.2 ⟨fs[k], List.getElem_mem hk, by simpa using he⟩
    rw [h] at hf
    rw [ha]
    have q : decide ((k : Int) ≥ 0) = true := decide_eq_true (by omega)
    (have hg : (987654321 : Nat) - 987654321 = 0 := rfl; have hr := hg; repeat' (first | refine aw_seq ?_ | (refine aw_skip ?_; repeat' (first | with_reducible refine thenQ_n ?_ | with_reducible refine blockQ_n ?_ | with_reducible refine thenQ_e ?_ | with_reducible refine blockQ_t ?_ | with_reducible refine blockQ_f (by decide) ?_)) | (refine aw_exit ?_; repeat' (first | with_reducible refine thenQ_n ?_ | with_reducible refine blockQ_n ?_ | with_reducible refine thenQ_e ?_ | with_reducible refine blockQ_t ?_ | with_reducible refine blockQ_f (by decide) ?_)) | refine aw_ret ?_ | refine aw_block ?_ | refine aw_condT rfl ?_ | refine aw_condF rfl ?_ | ((first | refine aw_hide fun K hK => aw_region ?_ | refine acallB (hf) (by repeat' (first | exact trivial | exact rfl | refine And.intro ?_ ?_)) (by kernel_rfl) (by kernel_rfl) (by kernel_rfl) ?_ | refine ago_if (by omega) ?_ | skip); simp (config := {maxSteps := 10000000}) (disch := first | exact okYes (by kernel_rfl) | omega) only [List.length, Nat.zero_add, Nat.reduceMul, Nat.reduceAdd, envOf, ARun_none, AOpRun, aexec, FSt.ev, AGo_ok, St.app, putO, eput_c, Nat.reduceBEq, eput_n, cond_false, hups, List.map, ARun_nil, dropE_c, inL_n, dropE_n, St.F, ↓eget_h, eget_c, dI, hput_c, beq_self_eq_true, hput_n, cond_true, List.append_nil, isSh, Bool.false_eq_true, ↓reduceIte, Option.map, abin, Int.natCast_nonneg, decide_true, inL_c, dB, Bool.not_false]) | (subst hK; repeat' (first | with_reducible refine thenQ_n ?_ | with_reducible refine blockQ_n ?_ | with_reducible refine thenQ_e ?_ | with_reducible refine blockQ_t ?_ | with_reducible refine blockQ_f (by decide) ?_))))
    all_goals (refine end_to [] [(96, 96), (152, 152)] (by first | exact .inl rfl | exact .inr rfl) rfl (by kernel_rfl) (by kernel_rfl) (by kernel_rfl) ?_ ?_ <;> repeat' (first | exact trivial | exact vr_val _ | exact vr_list _ | exact vr_ptr _ _ _ rfl | refine And.intro ⟨_, rfl, _, rfl, by decide, ?_⟩ ?_ | apply And.intro))
    all_goals exact tpC_in _ _ _
/-- the error of a layout, frames and fields -/
noncomputable def wfE (l : Lay) (frs : List (List Int)) (fs : List Int) : Int := if tpE l frs = 0 then (if hasA l fs = true then 0 else 1) else tpE l frs
set_option maxRecDepth 100000 in
set_option maxHeartbeats 4000000 in
theorem withField_ok (l : Lay) (frs : List (List Int)) (fs : List Int) (hl : LayIn l) (h1 : LayOk l) (h2 : frs.length ≤ 200) (hf : FrIn frs) (hfs : fs.length ≤ 1000) (hh : hasA l fs = true) : AC Try.prog 66 [layD l, .list (rows frs), .list (ints fs)] [] [(96, some (tpC l frs))] (.tup [.ptr 96 0, dI 0]) := by
  refine krecord_withField.ac (n0 := 0) (by simp) ⟨in_layD _ _, .list _, .list _, trivial⟩ trivial rfl ?_
  unfold crecord_withField layD layC
  have nt := newTape_ok l frs hl h1 h2 hf
  have ch := chas_ac l frs fs (by omega) (by have := h1.nf; omega)
  rw [hh] at ch
  refine aw_seq (aw_region ?_)
  simp (config := {maxSteps := 10000000}) (disch := first | exact okYes (by kernel_rfl) | omega) only [thenQ, List.map, dI, List.length, Nat.zero_add, Nat.reduceAdd, Nat.reduceMul, envOf, ARun_none, AOpRun, aexec, D.isBot, FSt.ev, St.F, ↓eget_h, Bool.false_eq_true, Option.isSome, hget_n, or_self, ↓reduceIte, D.cells, AGo_ok, St.app, putO, eput_c, Nat.reduceBEq, eput_n, cond_false, hups, hput_n, ARun_nil, dropE_c, inL_n, dropE_n]
  refine aw_wk (s' := ⟨[(1, .list (rows frs)), (2, .list (ints fs)), (3, .ptr 0 0)], [(0, [dI l.words, dI l.s0, dI l.s1, dI l.s2, dI l.s3, .list (fls l.fl)])], 80⟩) ?_ ?_
  · unfold dI
    refine wk_to [] [(0, 0)] (by kernel_rfl) (by kernel_rfl) (by kernel_rfl) (by kernel_rfl) (by kernel_rfl) ?_ ?_ <;> repeat' (first | exact trivial | exact vr_val _ | exact vr_list _ | exact vr_ptr _ _ _ rfl | refine And.intro ⟨_, rfl, .inl ⟨_, rfl, by decide, ?_⟩⟩ ?_ | apply And.intro)
  refine aw_seq (aw_region ?_)
  simp (config := {maxSteps := 10000000}) (disch := first | exact okYes (by kernel_rfl) | omega) only [thenQ, List.length, Nat.zero_add, Nat.reduceAdd, Nat.reduceMul, dI, ARun_none, AOpRun, aexec, FSt.ev, St.F, eget_c, Nat.reduceBEq, ↓eget_h, cond_false, hget_c, beq_self_eq_true, hget_n, cond_true, Nat.reduceLeDiff, ↓reduceIte, List.drop, List.take, AGo_ok, St.app, putO, eput_c, eput_n, hups, List.map]
  refine acallB nt (by repeat' (first | exact trivial | exact rfl | refine And.intro ?_ ?_)) (by kernel_rfl) (by kernel_rfl) (by kernel_rfl) ?_
  simp (config := {maxSteps := 10000000}) (disch := first | exact okYes (by kernel_rfl) | omega) only [Nat.reduceAdd, St.app, putO, dI, eput_c, Nat.reduceBEq, eput_n, cond_false, hups, hput_c, hput_n, List.map, List.append_nil, ARun_none, AOpRun, aexec, FSt.ev, St.F, eget_c, ↓eget_h, AGo_ok, opt1, Option.map, List.getElem?_cons_zero, List.getElem?_cons_succ, Option.isSome, Nat.reduceMul, hget_c, hget_n, Bool.false_eq_true, ↓reduceIte, ↓hget_h, D.isBot, D.cells, List.length, Nat.zero_add, Nat.reduceLeDiff, List.all, D.leaf, Bool.and_true, and_self, splice, List.take, List.nil_append, List.drop, beq_self_eq_true, cond_true, ARun_nil, dropE_c, inL_c, inL_n, dropE_n]
  (have hg : (987654321 : Nat) - 987654321 = 0 := rfl; have hr := hg; iterate 7 (try (first | refine aw_seq ?_ | (refine aw_skip ?_; repeat' (first | with_reducible refine thenQ_n ?_ | with_reducible refine blockQ_n ?_ | with_reducible refine thenQ_e ?_ | with_reducible refine blockQ_t ?_ | with_reducible refine blockQ_f (by decide) ?_)) | (refine aw_exit ?_; repeat' (first | with_reducible refine thenQ_n ?_ | with_reducible refine blockQ_n ?_ | with_reducible refine thenQ_e ?_ | with_reducible refine blockQ_t ?_ | with_reducible refine blockQ_f (by decide) ?_)) | refine aw_ret ?_ | refine aw_block ?_ | refine aw_condT rfl ?_ | refine aw_condF rfl ?_ | ((first | refine aw_hide fun K hK => aw_region ?_ | refine ago_if (by omega) ?_ | skip); simp (config := {maxSteps := 10000000}) (disch := first | exact okYes (by kernel_rfl) | omega) only [List.length, Nat.zero_add, Nat.reduceAdd, Nat.reduceMul, ARun_none, AOpRun, aexec, FSt.ev, St.F, eget_c, Nat.reduceBEq, ↓eget_h, cond_false, AGo_ok, St.app, putO, eput_c, eput_n, hups, List.map, isSh, Bool.false_eq_true, ↓reduceIte, Option.map, abin, bne_self_eq_false, ARun_nil, dropE_c, inL_c, inL_n, beq_self_eq_true, cond_true, dropE_n]) | (subst hK; repeat' (first | with_reducible refine thenQ_n ?_ | with_reducible refine blockQ_n ?_ | with_reducible refine thenQ_e ?_ | with_reducible refine blockQ_t ?_ | with_reducible refine blockQ_f (by decide) ?_)))))
  refine aw_wk (s' := ⟨[(2, .list (ints fs)), (8, .ptr 152 0)], [(96, tpC l frs), (152, [.ptr 96 0])], 200⟩) ?_ ?_
  · refine wk_to [] [(96, 96), (152, 128)] (by kernel_rfl) (by kernel_rfl) (by kernel_rfl) (by kernel_rfl) (by kernel_rfl) ?_ ?_ <;> repeat' (first | exact trivial | exact vr_val _ | exact vr_list _ | exact vr_ptr _ _ _ rfl | refine And.intro ⟨_, rfl, .inl ⟨_, rfl, by decide, ?_⟩⟩ ?_ | apply And.intro)
    all_goals exact tpC_in _ _ _
  (have hg : (987654321 : Nat) - 987654321 = 0 := rfl; have hr := hg; repeat' (first | refine aw_seq ?_ | (refine aw_skip ?_; repeat' (first | with_reducible refine thenQ_n ?_ | with_reducible refine blockQ_n ?_ | with_reducible refine thenQ_e ?_ | with_reducible refine blockQ_t ?_ | with_reducible refine blockQ_f (by decide) ?_)) | (refine aw_exit ?_; repeat' (first | with_reducible refine thenQ_n ?_ | with_reducible refine blockQ_n ?_ | with_reducible refine thenQ_e ?_ | with_reducible refine blockQ_t ?_ | with_reducible refine blockQ_f (by decide) ?_)) | refine aw_ret ?_ | refine aw_block ?_ | refine aw_condT rfl ?_ | refine aw_condF rfl ?_ | ((first | refine aw_hide fun K hK => aw_region ?_ | refine acallB (ch) (by repeat' (first | exact trivial | exact rfl | refine And.intro ?_ ?_)) (by kernel_rfl) (by kernel_rfl) (by kernel_rfl) ?_ | refine ago_if (by omega) ?_ | skip); simp (config := {maxSteps := 10000000}) (disch := first | exact okYes (by kernel_rfl) | omega) only [List.length, Nat.zero_add, Nat.reduceAdd, Nat.reduceMul, ARun_none, AOpRun, aexec, FSt.ev, St.F, ↓eget_h, AGo_ok, St.app, putO, eput_c, Nat.reduceBEq, eput_n, cond_false, hups, List.map, eget_c, dB, Bool.not_true, hput_c, beq_self_eq_true, hput_n, cond_true, List.append_nil, ARun_nil, dropE_c, inL_c, inL_n, dropE_n, Option.map, run1, hget_c, ↓hget_h, List.getElem?_cons_zero]) | (subst hK; repeat' (first | with_reducible refine thenQ_n ?_ | with_reducible refine blockQ_n ?_ | with_reducible refine thenQ_e ?_ | with_reducible refine blockQ_t ?_ | with_reducible refine blockQ_f (by decide) ?_))))
  refine end_to [] [(96, 96)] (by first | exact .inl rfl | exact .inr rfl) rfl (by kernel_rfl) (by kernel_rfl) (by kernel_rfl) ?_ ?_ <;> repeat' (first | exact trivial | exact vr_val _ | exact vr_list _ | exact vr_ptr _ _ _ rfl | apply vr_tup | refine And.intro ⟨_, rfl, _, rfl, by decide, ?_⟩ ?_ | apply And.intro)
  all_goals exact tpC_in _ _ _
set_option maxRecDepth 100000 in
set_option maxHeartbeats 4000000 in
theorem withField_err (l : Lay) (frs : List (List Int)) (fs : List Int) (hl : LayIn l) (hf : FrIn frs) (hfs : fs.length ≤ 1000) (he : wfE l frs fs ≠ 0) : AC Try.prog 66 [layD l, .list (rows frs), .list (ints fs)] [] [] (.tup [.val (.pointer none), dI (wfE l frs fs)]) := by
  refine krecord_withField.ac (n0 := 0) (by simp) ⟨in_layD _ _, .list _, .list _, trivial⟩ trivial rfl ?_
  unfold crecord_withField layD layC
  rcases tpE_cases l frs with ⟨h0, h1, h2⟩ | ⟨h0, h1⟩
  · have hh : hasA l fs = false := by
      cases h : hasA l fs with
      | false => rfl
      | true => exact absurd (by unfold wfE; rw [if_pos h0, if_pos h]) he
    have e : wfE l frs fs = 1 := by unfold wfE; rw [if_pos h0, hh]; rfl
    rw [e]
    have nt := newTape_ok l frs hl h1 h2 hf
    have ch := chas_ac l frs fs (by omega) (by have := h1.nf; omega)
    rw [hh] at ch
    refine aw_seq (aw_region ?_)
    simp (config := {maxSteps := 10000000}) (disch := first | exact okYes (by kernel_rfl) | omega) only [thenQ, List.map, dI, List.length, Nat.zero_add, Nat.reduceAdd, Nat.reduceMul, envOf, ARun_none, AOpRun, aexec, D.isBot, FSt.ev, St.F, ↓eget_h, Bool.false_eq_true, Option.isSome, hget_n, or_self, ↓reduceIte, D.cells, AGo_ok, St.app, putO, eput_c, Nat.reduceBEq, eput_n, cond_false, hups, hput_n, ARun_nil, dropE_c, inL_n, dropE_n]
    refine aw_wk (s' := ⟨[(1, .list (rows frs)), (2, .list (ints fs)), (3, .ptr 0 0)], [(0, [dI l.words, dI l.s0, dI l.s1, dI l.s2, dI l.s3, .list (fls l.fl)])], 80⟩) ?_ ?_
    · unfold dI
      refine wk_to [] [(0, 0)] (by kernel_rfl) (by kernel_rfl) (by kernel_rfl) (by kernel_rfl) (by kernel_rfl) ?_ ?_ <;> repeat' (first | exact trivial | exact vr_val _ | exact vr_list _ | exact vr_ptr _ _ _ rfl | refine And.intro ⟨_, rfl, .inl ⟨_, rfl, by decide, ?_⟩⟩ ?_ | apply And.intro)
    refine aw_seq (aw_region ?_)
    simp (config := {maxSteps := 10000000}) (disch := first | exact okYes (by kernel_rfl) | omega) only [thenQ, List.length, Nat.zero_add, Nat.reduceAdd, Nat.reduceMul, dI, ARun_none, AOpRun, aexec, FSt.ev, St.F, eget_c, Nat.reduceBEq, ↓eget_h, cond_false, hget_c, beq_self_eq_true, hget_n, cond_true, Nat.reduceLeDiff, ↓reduceIte, List.drop, List.take, AGo_ok, St.app, putO, eput_c, eput_n, hups, List.map]
    refine acallB nt (by repeat' (first | exact trivial | exact rfl | refine And.intro ?_ ?_)) (by kernel_rfl) (by kernel_rfl) (by kernel_rfl) ?_
    simp (config := {maxSteps := 10000000}) (disch := first | exact okYes (by kernel_rfl) | omega) only [Nat.reduceAdd, St.app, putO, dI, eput_c, Nat.reduceBEq, eput_n, cond_false, hups, hput_c, hput_n, List.map, List.append_nil, ARun_none, AOpRun, aexec, FSt.ev, St.F, eget_c, ↓eget_h, AGo_ok, opt1, Option.map, List.getElem?_cons_zero, List.getElem?_cons_succ, Option.isSome, Nat.reduceMul, hget_c, hget_n, Bool.false_eq_true, ↓reduceIte, ↓hget_h, D.isBot, D.cells, List.length, Nat.zero_add, Nat.reduceLeDiff, List.all, D.leaf, Bool.and_true, and_self, splice, List.take, List.nil_append, List.drop, beq_self_eq_true, cond_true, ARun_nil, dropE_c, inL_c, inL_n, dropE_n]
    (have hg : (987654321 : Nat) - 987654321 = 0 := rfl; have hr := hg; iterate 7 (try (first | refine aw_seq ?_ | (refine aw_skip ?_; repeat' (first | with_reducible refine thenQ_n ?_ | with_reducible refine blockQ_n ?_ | with_reducible refine thenQ_e ?_ | with_reducible refine blockQ_t ?_ | with_reducible refine blockQ_f (by decide) ?_)) | (refine aw_exit ?_; repeat' (first | with_reducible refine thenQ_n ?_ | with_reducible refine blockQ_n ?_ | with_reducible refine thenQ_e ?_ | with_reducible refine blockQ_t ?_ | with_reducible refine blockQ_f (by decide) ?_)) | refine aw_ret ?_ | refine aw_block ?_ | refine aw_condT rfl ?_ | refine aw_condF rfl ?_ | ((first | refine aw_hide fun K hK => aw_region ?_ | refine ago_if (by omega) ?_ | skip); simp (config := {maxSteps := 10000000}) (disch := first | exact okYes (by kernel_rfl) | omega) only [List.length, Nat.zero_add, Nat.reduceAdd, Nat.reduceMul, ARun_none, AOpRun, aexec, FSt.ev, St.F, eget_c, Nat.reduceBEq, ↓eget_h, cond_false, AGo_ok, St.app, putO, eput_c, eput_n, hups, List.map, isSh, Bool.false_eq_true, ↓reduceIte, Option.map, abin, bne_self_eq_false, ARun_nil, dropE_c, inL_c, inL_n, beq_self_eq_true, cond_true, dropE_n]) | (subst hK; repeat' (first | with_reducible refine thenQ_n ?_ | with_reducible refine blockQ_n ?_ | with_reducible refine thenQ_e ?_ | with_reducible refine blockQ_t ?_ | with_reducible refine blockQ_f (by decide) ?_)))))
    refine aw_wk (s' := ⟨[(2, .list (ints fs)), (8, .ptr 152 0)], [(96, tpC l frs), (152, [.ptr 96 0])], 200⟩) ?_ ?_
    · refine wk_to [] [(96, 96), (152, 128)] (by kernel_rfl) (by kernel_rfl) (by kernel_rfl) (by kernel_rfl) (by kernel_rfl) ?_ ?_ <;> repeat' (first | exact trivial | exact vr_val _ | exact vr_list _ | exact vr_ptr _ _ _ rfl | refine And.intro ⟨_, rfl, .inl ⟨_, rfl, by decide, ?_⟩⟩ ?_ | apply And.intro)
      all_goals exact tpC_in _ _ _
    (have hg : (987654321 : Nat) - 987654321 = 0 := rfl; have hr := hg; repeat' (first | refine aw_seq ?_ | (refine aw_skip ?_; repeat' (first | with_reducible refine thenQ_n ?_ | with_reducible refine blockQ_n ?_ | with_reducible refine thenQ_e ?_ | with_reducible refine blockQ_t ?_ | with_reducible refine blockQ_f (by decide) ?_)) | (refine aw_exit ?_; repeat' (first | with_reducible refine thenQ_n ?_ | with_reducible refine blockQ_n ?_ | with_reducible refine thenQ_e ?_ | with_reducible refine blockQ_t ?_ | with_reducible refine blockQ_f (by decide) ?_)) | refine aw_ret ?_ | refine aw_block ?_ | refine aw_condT rfl ?_ | refine aw_condF rfl ?_ | ((first | refine aw_hide fun K hK => aw_region ?_ | refine acallB (ch) (by repeat' (first | exact trivial | exact rfl | refine And.intro ?_ ?_)) (by kernel_rfl) (by kernel_rfl) (by kernel_rfl) ?_ | refine ago_if (by omega) ?_ | skip); simp (config := {maxSteps := 10000000}) (disch := first | exact okYes (by kernel_rfl) | omega) only [List.length, Nat.zero_add, Nat.reduceAdd, Nat.reduceMul, ARun_none, AOpRun, aexec, FSt.ev, St.F, ↓eget_h, AGo_ok, St.app, putO, eput_c, Nat.reduceBEq, eput_n, cond_false, hups, List.map, eget_c, dB, Bool.not_false, hput_c, beq_self_eq_true, hput_n, cond_true, List.append_nil, ARun_nil, dropE_c, inL_c, inL_n, dropE_n, thenQ]) | (subst hK; repeat' (first | with_reducible refine thenQ_n ?_ | with_reducible refine blockQ_n ?_ | with_reducible refine thenQ_e ?_ | with_reducible refine blockQ_t ?_ | with_reducible refine blockQ_f (by decide) ?_))))
    (refine end_to [] [] (by first | exact .inl rfl | exact .inr rfl) rfl (by kernel_rfl) (by kernel_rfl) (by kernel_rfl) ?_ ?_ <;> repeat' (first | exact trivial | exact vr_val _ | apply vr_tup | apply And.intro))
  · have e : wfE l frs fs = tpE l frs := if_neg h0
    rw [e]
    have nt := newTape_err l frs hl (fun h => h0 (tpE_ok h.1 h.2)) hf
    generalize tpE l frs = E at *
    (have hg : (987654321 : Nat) - 987654321 = 0 := rfl; have hr := hg; repeat' (first | refine aw_seq ?_ | (refine aw_skip ?_; repeat' (first | with_reducible refine thenQ_n ?_ | with_reducible refine blockQ_n ?_ | with_reducible refine thenQ_e ?_ | with_reducible refine blockQ_t ?_ | with_reducible refine blockQ_f (by decide) ?_)) | (refine aw_exit ?_; repeat' (first | with_reducible refine thenQ_n ?_ | with_reducible refine blockQ_n ?_ | with_reducible refine thenQ_e ?_ | with_reducible refine blockQ_t ?_ | with_reducible refine blockQ_f (by decide) ?_)) | refine aw_ret ?_ | refine aw_block ?_ | refine aw_condT rfl ?_ | refine aw_condF rfl ?_ | ((first | refine aw_hide fun K hK => aw_region ?_ | refine acall0 (nt) ?_ | refine ago_if (by omega) ?_ | skip); simp (config := {maxSteps := 10000000}) (disch := first | exact okYes (by kernel_rfl) | omega) only [List.length, Nat.zero_add, Nat.reduceAdd, Nat.reduceMul, envOf, dI, ARun_none, AOpRun, aexec, D.isBot, FSt.ev, St.F, ↓eget_h, Bool.false_eq_true, Option.isSome, hget_n, or_self, ↓reduceIte, D.cells, AGo_ok, St.app, putO, eput_c, Nat.reduceBEq, eput_n, cond_false, hups, hput_n, List.map, ARun_nil, dropE_c, inL_n, dropE_n, eget_c, hget_c, beq_self_eq_true, cond_true, Nat.reduceLeDiff, List.drop, List.take, opt1, Option.map, List.getElem?_cons_zero, List.getElem?_cons_succ, hput_c, ↓hget_h, List.all, D.leaf, Bool.and_true, and_self, splice, List.nil_append, List.append_nil, inL_c, isSh, abin, h1, thenQ]) | (subst hK; repeat' (first | with_reducible refine thenQ_n ?_ | with_reducible refine blockQ_n ?_ | with_reducible refine thenQ_e ?_ | with_reducible refine blockQ_t ?_ | with_reducible refine blockQ_f (by decide) ?_))))
    (refine end_to [] [] (by first | exact .inl rfl | exact .inr rfl) rfl (by kernel_rfl) (by kernel_rfl) (by kernel_rfl) ?_ ?_ <;> repeat' (first | exact trivial | exact vr_val _ | apply vr_tup | apply And.intro))
end Go.Proofs.Ytdcodicoclecnaa
