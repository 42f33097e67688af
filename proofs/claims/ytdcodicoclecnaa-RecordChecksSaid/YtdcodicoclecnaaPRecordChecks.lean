/- Texts of the laws, own part of RecordChecks. No conditions. -/
import Derived.Test.YtdcodicoclecnaaPRecA12
/- record: Slips. No conditions. -/
set_option linter.unusedSimpArgs false
set_option linter.unusedVariables false
namespace Go.Proofs.Ytdcodicoclecnaa
open Go Go.RowKit Lift

theorem gds_bd (l : Lay) (frs : List (List Int)) (k : Nat) : ∀ x ∈ gds l frs k, 0 ≤ x.1 ∧ x.1 < k ∧ 0 ≤ x.2 ∧ x.2 ≤ 3 := by
  intro x hx
  unfold gds at hx
  rw [List.mem_filterMap] at hx
  obtain ⟨i, hi, h⟩ := hx
  rw [List.mem_range] at hi
  split at h
  · rename_i h0
    simp only [Option.some.injEq] at h
    subst h
    have := subF_bd l (frm frs i)
    exact ⟨by simp, by simp; omega, h0, this.2⟩
  · cases h
theorem gds_in (l : Lay) (frs : List (List Int)) (k : Nat) (h : 0 ≤ subF l (frm frs k)) : gds l frs (k + 1) = gds l frs k ++ [((k : Int), subF l (frm frs k))] := by rw [gds_succ, if_pos h]
theorem gds_no (l : Lay) (frs : List (List Int)) (k : Nat) (h : ¬ 0 ≤ subF l (frm frs k)) : gds l frs (k + 1) = gds l frs k := by rw [gds_succ, if_neg h]; simp
theorem lastG_snoc (L : List (Int × Int)) (q : Int × Int) : lastG (L ++ [q]) = q := by simp [lastG]
theorem lastG_nil : lastG [] = (-1, 0) := rfl
theorem lastG_mem {L : List (Int × Int)} (h : L ≠ []) : lastG L ∈ L := by
  unfold lastG
  rw [List.getLast?_eq_some_getLast h]
  exact List.getLast_mem h
set_option maxRecDepth 100000 in
set_option maxHeartbeats 4000000 in
theorem slips_ok (l : Lay) (frs : List (List Int)) (hl : LayIn l) (h1 : LayOk l) (h2 : frs.length ≤ 200) (hf : FrIn frs) : AC Try.prog 25 [layD l, .list (rows frs)] [] [] (.tup [.list (ints (slips (gds l frs frs.length))), dI 0]) := by
  refine krecord_Slips.ac (n0 := 0) (by simp) ⟨in_layD _ _, .list _, trivial⟩ trivial rfl ?_
  unfold crecord_Slips layD layC
  have nt := newTape_ok l frs hl h1 h2 hf
  refine aw_seq (aw_region ?_)
  simp (config := {maxSteps := 10000000}) (disch := first | exact okYes (by kernel_rfl) | omega) only [thenQ, List.map, Int.reduceNeg, dI, List.length, Nat.zero_add, Nat.reduceAdd, Nat.reduceMul, envOf, ARun_none, AOpRun, aexec, D.isBot, FSt.ev, St.F, ↓eget_h, Bool.false_eq_true, Option.isSome, hget_n, or_self, ↓reduceIte, D.cells, AGo_ok, St.app, putO, eput_c, Nat.reduceBEq, eput_n, cond_false, hups, hput_n, hget_c, hput_c, ARun_nil, dropE_c, inL_n, dropE_n]
  refine aw_wk (s' := ⟨[(1, .list (rows frs)), (2, .ptr 0 0), (4, .ptr 8 0)], [(0, [dI l.words, dI l.s0, dI l.s1, dI l.s2, dI l.s3, .list (fls l.fl)]), (8, [.vec 24 0 1]), (24, icells [])], 80⟩) ?_ ?_
  · unfold dI
    refine wk_to [] [(0, 0), (8, 8), (24, 900)] (by kernel_rfl) (by kernel_rfl) (by kernel_rfl) (by kernel_rfl) (by kernel_rfl) ?_ ?_ <;> repeat' (first | exact trivial | exact vr_val _ | exact vr_list _ | exact vr_ptr _ _ _ rfl | exact vr_nilv _ _ _ rfl | refine And.intro ⟨_, rfl, .inl ⟨_, rfl, by decide, ?_⟩⟩ ?_ | refine And.intro ⟨_, rfl, .inr ⟨rfl, rfl, of_decide_eq_true (by kernel_rfl)⟩⟩ ?_ | apply And.intro)
  refine aw_seq (aw_region ?_)
  simp (config := {maxSteps := 10000000}) (disch := first | exact okYes (by kernel_rfl) | omega) only [thenQ, Int.reduceNeg, List.length, Nat.zero_add, Nat.reduceAdd, Nat.reduceMul, dI, ARun_none, AOpRun, aexec, FSt.ev, St.F, eget_c, Nat.reduceBEq, ↓eget_h, cond_false, hget_c, beq_self_eq_true, hget_n, cond_true, Nat.reduceLeDiff, ↓reduceIte, List.drop, List.take, AGo_ok, St.app, putO, eput_c, eput_n, hups, List.map]
  refine acallB nt (by repeat' (first | exact trivial | exact rfl | refine And.intro ?_ ?_)) (by kernel_rfl) (by kernel_rfl) (by kernel_rfl) ?_
  simp (config := {maxSteps := 10000000}) (disch := first | exact okYes (by kernel_rfl) | omega) only [Int.reduceNeg, Nat.reduceAdd, St.app, putO, dI, eput_c, Nat.reduceBEq, eput_n, cond_false, hups, hput_c, hput_n, List.map, List.append_nil, ARun_none, AOpRun, aexec, FSt.ev, St.F, eget_c, ↓eget_h, AGo_ok, opt1, Option.map, List.getElem?_cons_zero, List.getElem?_cons_succ, ARun_nil, dropE_c, inL_c, inL_n, beq_self_eq_true, cond_true, dropE_n]
  refine aw_seq (aw_seq (aw_region ?_))
  simp (config := {maxSteps := 10000000}) (disch := first | exact okYes (by kernel_rfl) | omega) only [thenQ, Int.reduceNeg, List.length, Nat.zero_add, Nat.reduceAdd, Nat.reduceMul, ARun_none, AOpRun, aexec, FSt.ev, St.F, eget_c, Nat.reduceBEq, ↓eget_h, cond_false, AGo_ok, St.app, putO, eput_c, eput_n, hups, List.map, isSh, Bool.false_eq_true, ↓reduceIte, Option.map, abin, bne_self_eq_false, ARun_nil, dropE_c, inL_c, inL_n, beq_self_eq_true, cond_true, dropE_n]
  refine aw_condF rfl (aw_skip ?_)
  refine aw_seq (aw_region ?_)
  simp (config := {maxSteps := 10000000}) (disch := first | exact okYes (by kernel_rfl) | omega) only [thenQ, List.length, Nat.zero_add, Nat.reduceAdd, Nat.reduceMul, Int.reduceNeg, ARun_none, AOpRun, aexec, Option.isSome, hget_c, Nat.reduceBEq, hget_n, cond_false, Bool.false_eq_true, ↓reduceIte, AGo_ok, St.app, putO, eput_c, eput_n, hups, hput_c, hput_n, List.map, FSt.ev, St.F, eget_c, ↓eget_h, ↓hget_h, D.isBot, D.cells, Nat.reduceLeDiff, List.all, D.leaf, Bool.and_true, and_self, splice, List.take, List.nil_append, List.drop, List.append_nil, beq_self_eq_true, cond_true, ARun_nil, dropE_c, inL_n, dropE_n]
  refine aw_seq (aw_seq (aw_region ?_))
  simp (config := {maxSteps := 10000000}) (disch := first | exact okYes (by kernel_rfl) | omega) only [thenQ, List.length, Nat.zero_add, Nat.reduceAdd, Nat.reduceMul, Int.reduceNeg, ARun_none, AOpRun, aexec, FSt.ev, St.F, eget_c, Nat.reduceBEq, ↓eget_h, cond_false, AGo_ok, St.app, putO, eput_c, eput_n, hups, List.map, ARun_nil, dropE_c, inL_c, inL_n, beq_self_eq_true, cond_true, dropE_n]
  refine aw_wk (s' := ⟨[(4, .ptr 8 0), (7, .ptr 32 0), (8, .ptr 40 0), (21, .fn 72 [.ptr 96 0] [])], [(96, tpC l frs), (8, [.vec 24 0 1]), (24, icells []), (32, [dI (-1)]), (40, [dI 0])], 1000⟩) ?_ ?_
  · unfold dI
    refine wk_to [] [(8, 8), (24, 24), (96, 96), (32, 160), (40, 168)] (by kernel_rfl) (by kernel_rfl) (by kernel_rfl) (by kernel_rfl) (by kernel_rfl) ?_ ?_ <;> repeat' (first | exact trivial | exact vr_val _ | exact vr_list _ | exact vr_vec _ _ _ _ rfl | exact vr_ptr _ _ _ rfl | apply vr_fn | refine And.intro ⟨_, rfl, .inl ⟨_, rfl, by decide, ?_⟩⟩ ?_ | apply And.intro)
    all_goals exact tpC_in _ _ _
  refine aw_block (aw_range [8, 96, 32, 40] [(4, .ptr 8 0)] [.bot, .bot, .bot, .bot, .ptr 8 0, .bot, .bot, .ptr 32 0, .ptr 40 0] kprecord_tape_good rfl (by simp) ⟨.inl rfl, .inl rfl, .inl rfl, .inl rfl, .inr rfl, .inl rfl, .inl rfl, .inr rfl, .inr rfl, trivial⟩ rfl rfl (by simp) ⟨.inr ⟨rfl, .ptr _ _ (by simp)⟩, trivial⟩ (fun r hr => ?_))
  refine good_hit hr rfl l frs h2 [8, 96, 32, 40] (by decide) [.bot, .bot, .bot, .bot, .ptr 8 0, .bot, .bot, .ptr 32 0, .ptr 40 0] rfl (by intro d hd; simp at hd; rcases hd with rfl | rfl | rfl | rfl | rfl <;> first | exact .bot | exact .ptr _ _ (by simp)) (by simp) (fun i => [(8, [.vec 24 (slips (gds l frs i)).length 1]), (24, icells (slips (gds l frs i))), (32, [dI (lastG (gds l frs i)).1]), (40, [dI (lastG (gds l frs i)).2])])
    (fun i => icV_low 1000 8 24 _ _ (by decide) (by decide) (.cons (by decide) (by intro d hd; simp at hd; subst hd; exact .val _) rfl (.cons (by decide) (by intro d hd; simp at hd; subst hd; exact .val _) rfl .nil))) (fun i hi hs => ?_) (fun i hi hs => ?_) ?_
  · simp only [gds_no l frs i hs]
  · have hgl := gds_len l frs i
    have hsl := slips_len (gds l frs i)
    have sb := subF_bd l (frm frs i)
    rw [gds_in l frs i hs, lastG_snoc, slips_snoc]
    have hbd := gds_bd l frs i
    generalize gds l frs i = G at *
    generalize subF l (frm frs i) = sv at *
    simp only
    unfold crecord_Slips_B22
    by_cases hG : G = []
    · subst hG
      rw [lastG_nil, if_pos rfl]
      have q0 : decide ((-1 : Int) ≥ 0) = false := rfl
      refine aw_block (aw_seq (aw_seq (aw_region ?_)))
      simp (config := {maxSteps := 10000000}) (disch := first | exact okYes (by kernel_rfl) | omega) only [thenQ, List.append_nil, dI, List.length, Nat.zero_add, Nat.reduceAdd, Nat.reduceMul, bodyE, asgE, parE, envOf, eput_c, Nat.reduceBEq, eput_n, cond_false, eget_c, ↓eget_h, Int.reduceNeg, ARun_none, AOpRun, aexec, Option.map, run1, FSt.ev, St.F, hget_c, ↓hget_h, List.getElem?_cons_zero, AGo_ok, St.app, putO, hups, List.map, isSh, Bool.false_eq_true, ↓reduceIte, abin, q0, ARun_some, AG_ft, ARun_nil, dropE_c, inL_c, inL_n, beq_self_eq_true, cond_true, dropE_n]
      refine aw_condF rfl (aw_skip ?_)
      refine aw_region ?_
      simp (config := {maxSteps := 10000000}) (disch := first | exact okYes (by kernel_rfl) | omega) only [blockQ, List.length, Nat.zero_add, Nat.reduceAdd, Nat.reduceMul, true_and, Int.reduceNeg, ARun_none, AOpRun, aexec, FSt.ev, St.F, eget_c, Nat.reduceBEq, ↓eget_h, cond_false, AGo_ok, St.app, putO, eput_c, eput_n, hups, List.map, hget_c, ↓hget_h, D.isBot, D.cells, Nat.reduceLeDiff, List.all, D.leaf, Bool.and_true, and_self, ↓reduceIte, splice, List.take, List.nil_append, List.drop, List.append_nil, hput_c, beq_self_eq_true, hput_n, cond_true, ARun_nil, dropE_c, inL_c, inL_n, dropE_n]
      try refine ⟨rfl, ?_⟩
      refine wk_to [] [(8, 8), (24, 24), (32, 32), (40, 40), (96, 96), (1000, 1000)] (by kernel_rfl) (by kernel_rfl) (by kernel_rfl) (by kernel_rfl) (by kernel_rfl) ?_ ?_ <;> repeat' (first | exact trivial | exact vr_val _ | exact vr_list _ | exact vr_vec _ _ _ _ rfl | refine And.intro ⟨_, rfl, .inl ⟨_, rfl, by decide, ?_⟩⟩ ?_ | apply And.intro)
      all_goals first | exact tpC_in _ _ _ | exact vrl_flat _ (icells_in _)
    have hlm := hbd _ (lastG_mem hG)
    rw [if_neg hG]
    have hsc : slipC (lastG G) ((i : Int), sv) = decide ((sv - (lastG G).2 - ((i : Int) - (lastG G).1)).tmod 4 ≠ 0) := rfl
    generalize lastG G = p at *
    obtain ⟨p1, p2⟩ := p
    simp only at hlm hsc
    have q1 : decide (p1 ≥ 0) = true := decide_eq_true hlm.1
    have e1 : IntKind.i64.wrap (sv - p2) = sv - p2 := wrap_in (by omega) (by omega)
    have e2 : IntKind.i64.wrap ((i : Int) - p1) = (i : Int) - p1 := wrap_in (by omega) (by omega)
    have e3 : IntKind.i64.wrap (sv - p2 - ((i : Int) - p1)) = sv - p2 - ((i : Int) - p1) := wrap_in (by omega) (by omega)
    have e4 : ((sv - p2 - ((i : Int) - p1)).tmod 4 != 0) = slipC (p1, p2) ((i : Int), sv) := by
      rw [hsc]
      cases h : decide ((sv - p2 - ((i : Int) - p1)).tmod 4 ≠ 0) with
      | true => simpa using of_decide_eq_true h
      | false => simpa using of_decide_eq_false h
    generalize slips G = L at *
    cases hc : slipC (p1, p2) ((i : Int), sv) with
    | false =>
      rw [hc] at e4
      rw [if_neg (by simp), List.append_nil]
      refine aw_block (aw_seq (aw_seq (aw_region ?_)))
      simp (config := {maxSteps := 10000000}) (disch := first | exact okYes (by kernel_rfl) | omega) only [thenQ, dI, List.length, Nat.zero_add, Nat.reduceAdd, Nat.reduceMul, bodyE, asgE, parE, envOf, eput_c, Nat.reduceBEq, eput_n, cond_false, eget_c, ↓eget_h, ARun_none, AOpRun, aexec, Option.map, run1, FSt.ev, St.F, hget_c, ↓hget_h, List.getElem?_cons_zero, AGo_ok, St.app, putO, hups, List.map, isSh, Bool.false_eq_true, ↓reduceIte, abin, q1, ARun_some, AG_tt, e1, e2, e3, Int.reduceEq, e4, ARun_nil, dropE_c, inL_c, inL_n, beq_self_eq_true, cond_true, dropE_n]
      refine aw_condF rfl (aw_skip ?_)
      refine aw_region ?_
      simp (config := {maxSteps := 10000000}) (disch := first | exact okYes (by kernel_rfl) | omega) only [blockQ, List.length, Nat.zero_add, Nat.reduceAdd, Nat.reduceMul, true_and, ARun_none, AOpRun, aexec, FSt.ev, St.F, eget_c, Nat.reduceBEq, ↓eget_h, cond_false, AGo_ok, St.app, putO, eput_c, eput_n, hups, List.map, hget_c, ↓hget_h, D.isBot, D.cells, Nat.reduceLeDiff, List.all, D.leaf, Bool.and_true, and_self, ↓reduceIte, splice, List.take, List.nil_append, List.drop, List.append_nil, hput_c, beq_self_eq_true, hput_n, cond_true, ARun_nil, dropE_c, inL_c, inL_n, dropE_n]
      try refine ⟨rfl, ?_⟩
      refine wk_to [] [(8, 8), (24, 24), (32, 32), (40, 40), (96, 96), (1000, 1000)] (by kernel_rfl) (by kernel_rfl) (by kernel_rfl) (by kernel_rfl) (by kernel_rfl) ?_ ?_ <;> repeat' (first | exact trivial | exact vr_val _ | exact vr_list _ | exact vr_vec _ _ _ _ rfl | refine And.intro ⟨_, rfl, .inl ⟨_, rfl, by decide, ?_⟩⟩ ?_ | apply And.intro | exact vrl_flat _ (by first | exact icells_in _ | exact rcells_in _ | exact scells_in _ | exact bcells_in _ | assumption))
      all_goals first | exact tpC_in _ _ _ | exact vrl_flat _ (icells_in _)
    | true =>
      rw [hc] at e4
      rw [if_pos rfl]
      have hic : (icells L).length = L.length := icells_len _
      have hit : (icells L).take L.length = icells L := ic_take _ _ rfl
      have hcin : ∀ y ∈ icells L ++ [.val (.int .i64 (i : Int))], In (fun _ => False) y := by rw [ic_app]; exact icells_in _
      have hlen : (L ++ [(i : Int)]).length = L.length + 1 := by simp
      rw [hlen, ← ic_app]
      refine aw_block (aw_seq (aw_seq (aw_region ?_)))
      simp (config := {maxSteps := 10000000}) (disch := first | exact okYes (by kernel_rfl) | omega) only [thenQ, dI, List.length, Nat.zero_add, Nat.reduceAdd, Nat.reduceMul, bodyE, asgE, parE, envOf, eput_c, Nat.reduceBEq, eput_n, cond_false, eget_c, ↓eget_h, ARun_none, AOpRun, aexec, Option.map, run1, FSt.ev, St.F, hget_c, ↓hget_h, List.getElem?_cons_zero, AGo_ok, St.app, putO, hups, List.map, isSh, Bool.false_eq_true, ↓reduceIte, abin, q1, ARun_some, AG_tt, e1, e2, e3, Int.reduceEq, e4, ARun_nil, dropE_c, inL_c, inL_n, beq_self_eq_true, cond_true, dropE_n]
      refine aw_condT rfl (aw_region ?_)
      simp (config := {maxSteps := 10000000}) (disch := first | exact okYes (by kernel_rfl) | omega) only [thenQ, List.length, Nat.zero_add, Nat.reduceAdd, Nat.reduceMul, ARun_none, AOpRun, aexec, Option.map, run1, FSt.ev, St.F, eget_c, Nat.reduceBEq, ↓eget_h, cond_false, hget_c, ↓hget_h, List.getElem?_cons_zero, AGo_ok, St.app, putO, eput_c, eput_n, hups, List.map, Option.isSome, hget_n, Bool.false_eq_true, ↓reduceIte, fillD, D.isBot, D.cells, ne_eq, not_true_eq_false, Nat.reduceGT, or_self, splice, List.take, List.nil_append, List.drop, List.append_nil, hput_c, hput_n, base, Nat.mul_one, hic, Nat.le_refl, and_self, hit, elems, List.all, D.leaf, Bool.and_true, and_true, ups, List.cons_append]
      refine ago_if (by omega) ?_
      simp (config := {maxSteps := 10000000}) (disch := first | exact okYes (by kernel_rfl) | omega) only [AGo_ok, Nat.reduceAdd, St.app, putO, eput_c, Nat.reduceBEq, eput_n, cond_false, hups, hput_c, hput_n, hdel_c, beq_self_eq_true, hdel_n, cond_true, List.map, ARun_none, AOpRun, aexec, FSt.ev, St.F, eget_c, ↓eget_h, hget_c, ↓hget_h, D.isBot, D.cells, List.length, Nat.zero_add, Nat.reduceLeDiff, List.all, D.leaf, Bool.and_true, and_self, ↓reduceIte, splice, List.take, List.nil_append, List.drop, List.append_nil, ARun_nil, dropE_c, inL_c, inL_n, dropE_n]
      refine aw_region ?_
      simp (config := {maxSteps := 10000000}) (disch := first | exact okYes (by kernel_rfl) | omega) only [blockQ, List.length, Nat.zero_add, Nat.reduceAdd, Nat.reduceMul, true_and, ARun_none, AOpRun, aexec, FSt.ev, St.F, eget_c, Nat.reduceBEq, ↓eget_h, cond_false, AGo_ok, St.app, putO, eput_c, eput_n, hups, List.map, hget_c, ↓hget_h, D.isBot, D.cells, Nat.reduceLeDiff, List.all, D.leaf, Bool.and_true, and_self, ↓reduceIte, splice, List.take, List.nil_append, List.drop, List.append_nil, hput_c, beq_self_eq_true, hput_n, cond_true, ARun_nil, dropE_c, inL_c, inL_n, dropE_n]
      try refine ⟨rfl, ?_⟩
      refine wk_to [] [(8, 8), (24, 1428), (32, 32), (40, 40), (96, 96), (1000, 1000)] (by kernel_rfl) (by kernel_rfl) (by kernel_rfl) (by kernel_rfl) (by kernel_rfl) ?_ ?_ <;> repeat' (first | exact trivial | exact vr_val _ | exact vr_list _ | exact vr_vec _ _ _ _ rfl | refine And.intro ⟨_, rfl, .inl ⟨_, rfl, by decide, ?_⟩⟩ ?_ | apply And.intro | exact vrl_flat _ (by first | exact icells_in _ | exact rcells_in _ | exact scells_in _ | exact bcells_in _ | assumption))
      all_goals first | exact tpC_in _ _ _ | assumption
  · have hgl := gds_len l frs frs.length
    have hsl := slips_len (gds l frs frs.length)
    generalize slips (gds l frs frs.length) = L at *
    simp only [blockQ, thenQ]
    (have hg : (987654321 : Nat) - 987654321 = 0 := rfl; have hr := hg; repeat' (first | refine aw_seq ?_ | (refine aw_skip ?_; repeat' (first | with_reducible refine thenQ_n ?_ | with_reducible refine blockQ_n ?_ | with_reducible refine thenQ_e ?_ | with_reducible refine blockQ_t ?_ | with_reducible refine blockQ_f (by decide) ?_)) | (refine aw_exit ?_; repeat' (first | with_reducible refine thenQ_n ?_ | with_reducible refine blockQ_n ?_ | with_reducible refine thenQ_e ?_ | with_reducible refine blockQ_t ?_ | with_reducible refine blockQ_f (by decide) ?_)) | refine aw_ret ?_ | refine aw_block ?_ | refine aw_condT rfl ?_ | refine aw_condF rfl ?_ | ((first | refine aw_hide fun K hK => aw_region ?_ | refine ago_if (by omega) ?_ | skip); simp (config := {maxSteps := 10000000}) (disch := first | exact okYes (by kernel_rfl) | omega) only [List.length, Nat.zero_add, Nat.reduceAdd, Nat.reduceMul, dI, ARun_none, AOpRun, aexec, Option.map, run1, FSt.ev, St.F, ↓eget_h, hget_c, Nat.reduceBEq, ↓hget_h, cond_false, List.getElem?_cons_zero, AGo_ok, St.app, putO, eput_c, eput_n, hups, List.map, D.isBot, eget_c, D.cells, Nat.reduceLeDiff, List.all, D.leaf, Bool.and_true, and_self, ↓reduceIte, splice, List.take, List.nil_append, List.drop, List.append_nil, hput_c, beq_self_eq_true, hput_n, cond_true, ARun_nil, dropE_c, inL_c, inL_n, dropE_n]) | (subst hK; repeat' (first | with_reducible refine thenQ_n ?_ | with_reducible refine blockQ_n ?_ | with_reducible refine thenQ_e ?_ | with_reducible refine blockQ_t ?_ | with_reducible refine blockQ_f (by decide) ?_))))
    refine end_to [24] [] (by first | exact .inl rfl | exact .inr rfl) rfl (by kernel_rfl) (by kernel_rfl) (by kernel_rfl) ?_ ?_ <;> repeat' (first | exact trivial | exact vr_val _ | apply vr_tup | refine vr_fl _ _ _ _ _ (by decide) rfl ?_ ?_ ?_ ?_ | apply And.intro)
    all_goals first | exact ints_one _ | exact ints_len _ | exact ints_flat _ | exact icells_in _
set_option maxRecDepth 100000 in
set_option maxHeartbeats 1000000 in
theorem slips_err (l : Lay) (frs : List (List Int)) (hl : LayIn l) (he : tpE l frs ≠ 0) (hf : FrIn frs) : AC Try.prog 25 [layD l, .list (rows frs)] [] [] (.tup [.list (ints []), dI (tpE l frs)]) := by
  refine krecord_Slips.ac (n0 := 0) (by simp) ⟨in_layD _ _, .list _, trivial⟩ trivial rfl ?_
  unfold crecord_Slips layD layC
  have nt := newTape_err l frs hl (fun h => he (tpE_ok h.1 h.2)) hf
  have h1 : (tpE l frs != 0) = true := by simpa using he
  generalize tpE l frs = E at *
  (have hg : (987654321 : Nat) - 987654321 = 0 := rfl; have hr := hg; repeat' (first | refine aw_seq ?_ | (refine aw_skip ?_; repeat' (first | with_reducible refine thenQ_n ?_ | with_reducible refine blockQ_n ?_ | with_reducible refine thenQ_e ?_ | with_reducible refine blockQ_t ?_ | with_reducible refine blockQ_f (by decide) ?_)) | (refine aw_exit ?_; repeat' (first | with_reducible refine thenQ_n ?_ | with_reducible refine blockQ_n ?_ | with_reducible refine thenQ_e ?_ | with_reducible refine blockQ_t ?_ | with_reducible refine blockQ_f (by decide) ?_)) | refine aw_ret ?_ | refine aw_block ?_ | refine aw_condT rfl ?_ | refine aw_condF rfl ?_ | ((first | refine aw_hide fun K hK => aw_region ?_ | refine acall0 (nt) ?_ | refine ago_if (by omega) ?_ | skip); simp (config := {maxSteps := 10000000}) (disch := first | exact okYes (by kernel_rfl) | omega) only [List.length, Nat.zero_add, Nat.reduceAdd, Nat.reduceMul, envOf, dI, ARun_none, AOpRun, aexec, D.isBot, FSt.ev, St.F, ↓eget_h, Bool.false_eq_true, Option.isSome, hget_n, or_self, ↓reduceIte, D.cells, AGo_ok, St.app, putO, eput_c, Nat.reduceBEq, eput_n, cond_false, hups, hput_n, List.map, hget_c, hput_c, ARun_nil, dropE_c, inL_n, dropE_n, eget_c, beq_self_eq_true, cond_true, Nat.reduceLeDiff, List.drop, List.take, opt1, Option.map, List.getElem?_cons_zero, List.getElem?_cons_succ, inL_c, isSh, abin, h1, ↓hget_h, List.all, D.leaf, Bool.and_true, and_self, splice, List.nil_append, List.append_nil, thenQ]) | (subst hK; repeat' (first | with_reducible refine thenQ_n ?_ | with_reducible refine blockQ_n ?_ | with_reducible refine thenQ_e ?_ | with_reducible refine blockQ_t ?_ | with_reducible refine blockQ_f (by decide) ?_))))
  (refine end_to [] [] (by first | exact .inl rfl | exact .inr rfl) rfl (by kernel_rfl) (by kernel_rfl) (by kernel_rfl) ?_ ?_ <;> repeat' (first | exact trivial | exact vr_val _ | exact vr_nil | apply vr_tup | apply And.intro))
theorem slips_ac (l : Lay) (frs : List (List Int)) (hl : LayIn l) (hf : FrIn frs) : AC Try.prog 25 [layD l, .list (rows frs)] [] [] (.tup [.list (ints (slipsR l frs)), dI (tpE l frs)]) := by
  unfold slipsR
  rcases tpE_cases l frs with ⟨h0, h1, h2⟩ | ⟨h0, _⟩
  · rw [if_pos h0, h0]; exact slips_ok l frs hl h1 h2 hf
  · rw [if_neg h0]; exact slips_err l frs hl h0 hf
end Go.Proofs.Ytdcodicoclecnaa
/- The document of record: Slips. No conditions. -/
set_option linter.unusedSimpArgs false
set_option linter.unusedVariables false
namespace Go.Proofs.Ytdcodicoclecnaa
open Go Go.RowKit Lift

theorem gds_sub (l : Lay) (frs : List (List Int)) (k : Nat) : ∀ x ∈ gds l frs k, x.2 = subF l (frm frs x.1.toNat) := by
  intro x hx
  unfold gds at hx
  rw [List.mem_filterMap] at hx
  obtain ⟨i, hi, h⟩ := hx
  split at h
  · simp only [Option.some.injEq] at h
    subst h
    simp
  · cases h
theorem gds_asc (l : Lay) (frs : List (List Int)) : ∀ k i, i + 1 < (gds l frs k).length → ((gds l frs k)[i]?.getD (0, 0)).1 < ((gds l frs k)[i + 1]?.getD (0, 0)).1
  | 0, i, h => by simp [gds] at h
  | k + 1, i, h => by
    have ih := gds_asc l frs k
    have hb := gds_bd l frs k
    by_cases hs : 0 ≤ subF l (frm frs k)
    · rw [gds_in l frs k hs] at h ⊢
      rw [List.length_append] at h
      simp only [List.length_cons, List.length_nil] at h
      rcases (by omega : i + 1 < (gds l frs k).length ∨ i + 1 = (gds l frs k).length) with h1 | h1
      · rw [List.getElem?_append_left (by omega), List.getElem?_append_left h1]
        exact ih i h1
      · rw [List.getElem?_append_left (by omega), List.getElem?_append_right (by omega), h1]
        simp only [Nat.sub_self, List.getElem?_cons_zero, Option.getD_some]
        have h2 : i < (gds l frs k).length := by omega
        rw [List.getElem?_eq_getElem h2]
        exact (hb _ (List.getElem_mem h2)).2.1
    · rw [gds_no l frs k hs] at h ⊢
      exact ih i h
theorem slips_take {G : List (Int × Int)} {j : Nat} (h : j + 1 < G.length) : slips (G.take (j + 2)) = slips (G.take (j + 1)) ++ (if slipC (G[j]?.getD (0, 0)) (G[j + 1]?.getD (0, 0)) = true then [(G[j + 1]?.getD (0, 0)).1] else []) := by
  have e : G.take (j + 2) = G.take (j + 1) ++ [G[j + 1]?.getD (0, 0)] := by rw [List.take_add_one]; simp [h]
  have e2 : G.take (j + 1) = G.take j ++ [G[j]?.getD (0, 0)] := by rw [List.take_add_one]; simp [show j < G.length by omega]
  rw [e, slips_snoc]
  have hne : G.take (j + 1) ≠ [] := by rw [e2]; simp
  have hl : lastG (G.take (j + 1)) = G[j]?.getD (0, 0) := by rw [e2, lastG_snoc]
  rw [if_neg hne, hl]
set_option maxRecDepth 100000 in
set_option maxHeartbeats 8000000 in
theorem rslips_ok (l : Lay) (frs : List (List Int)) (hl : LayIn l) (h1 : LayOk l) (h2 : frs.length ≤ 200) (hf : FrIn frs) : AC Try.prog 26 [layD l, .list (rows frs)] [] [] (.tup [.list (ints (slips (gds l frs frs.length))), dI 0]) := by
  refine kref12_Slips.ac (n0 := 0) (by simp) ⟨in_layD _ _, .list _, trivial⟩ trivial rfl ?_
  unfold cref12_Slips
  have gd := rgood_ok l frs hl h1 h2 hf
  have hsf := fun k => subf_ac l (frm frs k) h1.w1 (hf.m k)
  have hbd := gds_bd l frs frs.length
  have hsub := gds_sub l frs frs.length
  have hasc := gds_asc l frs frs.length
  have hgl := gds_len l frs frs.length
  have hgI : gdI l frs frs.length = (gds l frs frs.length).map (·.1) := rfl
  rw [hgI] at gd
  generalize gds l frs frs.length = G at *
  unfold layD layC at *
  refine aw_seq (aw_region ?_)
  simp (config := {maxSteps := 10000000}) (disch := first | exact okYes (by kernel_rfl) | omega) only [thenQ, List.map, dI, List.length, Nat.zero_add, Nat.reduceAdd, Nat.reduceMul, envOf, ARun_none, AOpRun, aexec, D.isBot, FSt.ev, St.F, ↓eget_h, Bool.false_eq_true, Option.isSome, hget_n, or_self, ↓reduceIte, D.cells, AGo_ok, St.app, putO, eput_c, Nat.reduceBEq, eput_n, cond_false, hups, hput_n, ARun_nil, dropE_c, inL_n, dropE_n]
  refine aw_seq (aw_region ?_)
  simp (config := {maxSteps := 10000000}) (disch := first | exact okYes (by kernel_rfl) | omega) only [thenQ, List.length, Nat.zero_add, Nat.reduceAdd, Nat.reduceMul, ARun_none, AOpRun, aexec, FSt.ev, St.F, eget_c, Nat.reduceBEq, ↓eget_h, cond_false, hget_c, beq_self_eq_true, hget_n, cond_true, Nat.reduceLeDiff, ↓reduceIte, List.drop, List.take, AGo_ok, St.app, putO, eput_c, eput_n, hups, List.map]
  refine acall0 gd ?_
  simp (config := {maxSteps := 10000000}) (disch := first | exact okYes (by kernel_rfl) | omega) only [Nat.reduceAdd, St.app, putO, dI, eput_c, Nat.reduceBEq, eput_n, cond_false, hups, ARun_none, AOpRun, aexec, FSt.ev, St.F, eget_c, ↓eget_h, AGo_ok, List.map, opt1, Option.map, List.getElem?_cons_zero, List.getElem?_cons_succ, ARun_nil, dropE_c, inL_c, inL_n, beq_self_eq_true, cond_true, dropE_n]
  refine aw_seq (aw_seq (aw_region ?_))
  simp (config := {maxSteps := 10000000}) (disch := first | exact okYes (by kernel_rfl) | omega) only [thenQ, List.length, Nat.zero_add, Nat.reduceAdd, Nat.reduceMul, ARun_none, AOpRun, aexec, FSt.ev, St.F, eget_c, Nat.reduceBEq, ↓eget_h, cond_false, AGo_ok, St.app, putO, eput_c, eput_n, hups, List.map, isSh, Bool.false_eq_true, ↓reduceIte, Option.map, abin, bne_self_eq_false, ARun_nil, dropE_c, inL_c, inL_n, beq_self_eq_true, cond_true, dropE_n]
  refine aw_condF rfl (aw_skip ?_)
  refine aw_seq (aw_region ?_)
  simp (config := {maxSteps := 10000000}) (disch := first | exact okYes (by kernel_rfl) | omega) only [thenQ, List.length, Nat.zero_add, Nat.reduceMul, Nat.reduceAdd, ARun_none, AOpRun, aexec, FSt.ev, AGo_ok, St.app, putO, eput_c, Nat.reduceBEq, eput_n, cond_false, hups, List.map, ARun_nil, dropE_c, inL_n, dropE_n]
  refine aw_seq (aw_seq (aw_region ?_))
  simp (config := {maxSteps := 10000000}) (disch := first | exact okYes (by kernel_rfl) | omega) only [thenQ, List.length, Nat.zero_add, Nat.reduceMul, Nat.reduceAdd, ARun_none, AOpRun, aexec, FSt.ev, AGo_ok, St.app, putO, eput_c, Nat.reduceBEq, eput_n, cond_false, hups, List.map, ARun_nil, dropE_c, inL_n, dropE_n]
  have hil : (ints (G.map (·.1))).length = G.length := by rw [ints_len, List.length_map]
  refine aw_block (aw_loop (fun j : Nat => ⟨[(1, .list (rows frs)), (2, .ptr 0 0), (6, .list (ints (G.map (·.1)))), (8, .vec 40 (slips (G.take (j + 1))).length 1), (9, dI ((j + 1 : Nat) : Int))], [(0, [dI l.words, dI l.s0, dI l.s1, dI l.s2, dI l.s3, .list (fls l.fl)]), (40, icells (slips (G.take (j + 1))))], 400⟩) (fun j => j + 1 ≤ G.length ∨ j = 0) (fun j => G.length - j) ⟨0, .inr rfl, ?_⟩ ?_)
  · have e : slips (G.take (0 + 1)) = [] := by cases G <;> rfl
    rw [e]
    show Wk _ _ ⟨[_, _, _, (8, .vec 40 0 1), _], [_, (40, [])], _⟩
    unfold dI
    refine wk_to [] [(0, 0), (40, 900)] (by kernel_rfl) (by kernel_rfl) (by kernel_rfl) (by kernel_rfl) (by kernel_rfl) ?_ ?_ <;> repeat' (first | exact trivial | exact vr_val _ | exact vr_list _ | exact vr_ptr _ _ _ rfl | exact vr_nilv _ _ _ rfl | refine And.intro ⟨_, rfl, .inl ⟨_, rfl, by decide, ?_⟩⟩ ?_ | refine And.intro ⟨_, rfl, .inr ⟨rfl, rfl, of_decide_eq_true (by kernel_rfl)⟩⟩ ?_ | apply And.intro)
  intro j hj
  have hsl := slips_len (G.take (j + 1))
  have htl : (G.take (j + 1)).length ≤ G.length := by rw [List.length_take]; omega
  by_cases hk : j + 1 < G.length
  case neg =>
    have e : G.take (j + 1) = G := List.take_of_length_le (by omega)
    rw [e] at hsl ⊢
    generalize slips G = L at *
    have q : decide (((j + 1 : Nat) : Int) < (G.length : Int)) = false := decide_eq_false (by omega)
    (have hg : (987654321 : Nat) - 987654321 = 0 := rfl; have hr := hg; repeat' (first | refine aw_seq ?_ | (refine aw_skip ?_; try simp only [thenQ, blockQ, if_true, if_false, Nat.reduceEqDiff, reduceCtorEq]) | (refine aw_exit ?_; try simp only [thenQ, blockQ, if_true, if_false, Nat.reduceEqDiff, reduceCtorEq]) | refine aw_ret ?_ | refine aw_block ?_ | refine aw_condT rfl ?_ | refine aw_condF rfl ?_ | ((first | refine aw_region ?_ | refine ago_if (by omega) ?_ | skip); simp (config := {maxSteps := 10000000}) (disch := first | exact okYes (by kernel_rfl) | omega) only [thenQ, dI, List.length, Nat.zero_add, Nat.reduceAdd, Nat.reduceMul, ARun_none, AOpRun, aexec, FSt.ev, St.F, eget_c, Nat.reduceBEq, ↓eget_h, cond_false, AGo_ok, St.app, putO, eput_c, eput_n, hups, List.map, hil, isSh, Bool.false_eq_true, ↓reduceIte, Option.map, abin, q, ARun_nil, dropE_c, inL_c, inL_n, beq_self_eq_true, cond_true, dropE_n])))
    refine end_to [40] [] (by first | exact .inl rfl | exact .inr rfl) rfl (by kernel_rfl) (by kernel_rfl) (by kernel_rfl) ?_ ?_ <;> repeat' (first | exact trivial | exact vr_val _ | apply vr_tup | refine vr_fl _ _ _ _ _ (by decide) rfl ?_ ?_ ?_ ?_ | apply And.intro)
    all_goals first | exact ints_one _ | exact ints_len _ | exact ints_flat _ | exact icells_in _
  have hst := slips_take hk
  have ha := hasc j hk
  have m0 : G[j]?.getD (0, 0) ∈ G := by simp [show j < G.length by omega]
  have m1 : G[j + 1]?.getD (0, 0) ∈ G := by simp [hk]
  have b0 := hbd _ m0
  have b1 := hbd _ m1
  have s0 := hsub _ m0
  have s1 := hsub _ m1
  have g0 : (ints (G.map (·.1)))[j]? = some [.val (.int .i64 (G[j]?.getD (0, 0)).1)] := by simp [ints, show j < G.length by omega]
  have g1 : (ints (G.map (·.1)))[j + 1]? = some [.val (.int .i64 (G[j + 1]?.getD (0, 0)).1)] := by simp [ints, hk]
  have hi1 : (ints (G.map (·.1))).all (fun x => x.length == 1) = true := ints_all _
  generalize G[j]?.getD (0, 0) = p at *
  generalize G[j + 1]?.getD (0, 0) = q at *
  obtain ⟨p1, p2⟩ := p
  obtain ⟨q1, q2⟩ := q
  simp only at ha b0 b1 s0 s1 g0 g1
  obtain ⟨a, rfl⟩ : ∃ a : Nat, p1 = a := ⟨p1.toNat, by omega⟩
  obtain ⟨b, rfl⟩ : ∃ b : Nat, q1 = b := ⟨q1.toNat, by omega⟩
  rw [Int.toNat_natCast] at s0 s1
  have sa := hsf a
  have sb := hsf b
  rw [← s0] at sa
  rw [← s1] at sb
  have ga := rows_gd frs a (by omega)
  have gb := rows_gd frs b (by omega)
  rw [show frs[a]?.getD [] = frm frs a from rfl] at ga
  rw [show frs[b]?.getD [] = frm frs b from rfl] at gb
  have ka : (a : Int) < (frs.length : Int) := by omega
  have kb : (b : Int) < (frs.length : Int) := by omega
  have kj : ((j + 1 : Nat) : Int) < (G.length : Int) := by omega
  have kj0 : (j : Int) < (G.length : Int) := by omega
  have hj1 : ((j + 1 : Nat) : Int) - 1 = (j : Int) := by omega
  have hw0 : IntKind.i64.wrap (((j + 1 : Nat) : Int) - 1) = (j : Int) := by rw [hj1]; exact wrap_in (by omega) (by omega)
  have e1 : IntKind.i64.wrap (q2 - p2) = q2 - p2 := wrap_in (by omega) (by omega)
  have e2 : IntKind.i64.wrap (q2 - p2 + 4) = q2 - p2 + 4 := wrap_in (by omega) (by omega)
  have e3 : IntKind.i64.wrap ((b : Int) - (a : Int)) = (b : Int) - (a : Int) := wrap_in (by omega) (by omega)
  have e4 := slip_mod (p := ((a : Int), p2)) (q := ((b : Int), q2)) b0.2.2.1 b0.2.2.2 b1.2.2.1 b1.2.2.2 (by simp only; omega)
  simp only at e4
  generalize frm frs a = fa at *
  generalize frm frs b = fb at *
  have jn : j + 1 ≤ G.length := by omega
  generalize hL : slips (G.take (j + 1)) = L at *
  cases hc : slipC ((a : Int), p2) ((b : Int), q2) with
  | false =>
    rw [hc] at e4 hst
    rw [if_neg (by simp), List.append_nil] at hst
    (have hg : (987654321 : Nat) - 987654321 = 0 := rfl; have hr := hg; repeat' (first | refine aw_seq ?_ | (refine aw_skip ?_; try simp only [thenQ, blockQ, if_true, if_false, Nat.reduceEqDiff, reduceCtorEq]) | (refine aw_exit ?_; try simp only [thenQ, blockQ, if_true, if_false, Nat.reduceEqDiff, reduceCtorEq]) | refine aw_ret ?_ | refine aw_block ?_ | refine aw_condT rfl ?_ | refine aw_condF rfl ?_ | ((first | refine aw_region ?_ | refine acall0 (sb) ?_ | refine acall0 (sa) ?_ | refine ago_if (by omega) ?_ | skip); simp (config := {maxSteps := 10000000}) (disch := first | exact okYes (by kernel_rfl) | omega) only [thenQ, dI, List.length, Nat.zero_add, Nat.reduceAdd, Nat.reduceMul, ARun_none, AOpRun, aexec, FSt.ev, St.F, eget_c, Nat.reduceBEq, ↓eget_h, cond_false, AGo_ok, St.app, putO, eput_c, eput_n, hups, List.map, hil, isSh, Bool.false_eq_true, ↓reduceIte, Option.map, abin, kj, decide_true, ARun_nil, dropE_c, inL_c, inL_n, beq_self_eq_true, cond_true, dropE_n, hget_c, hget_n, Nat.reduceLeDiff, List.drop, List.take, Int.natCast_nonneg, hi1, and_self, opt1, Int.toNat_natCast, g1, run1, List.getElem?_cons_zero, rows_all, gb, hw0, g0, ga, e1, e2, Int.reduceEq, e3, ← e4, fits])))
    refine ⟨j + 1, .inl (by omega), by omega, ?_⟩
    rw [hst]
    refine wk_to [] [(0, 0), (40, 40)] (by kernel_rfl) (by kernel_rfl) (by kernel_rfl) (by kernel_rfl) (by kernel_rfl) ?_ ?_ <;> repeat' (first | exact trivial | exact vr_val _ | exact vr_list _ | exact vr_vec _ _ _ _ rfl | exact vr_ptr _ _ _ rfl | refine And.intro ⟨_, rfl, .inl ⟨_, rfl, by decide, ?_⟩⟩ ?_ | apply And.intro | exact vrl_flat _ (by first | exact icells_in _ | exact rcells_in _ | exact scells_in _ | exact bcells_in _ | assumption) | fail)
  | true =>
    rw [hc] at e4 hst
    rw [if_pos rfl] at hst
    have hic : (icells L).length = L.length := icells_len _
    have hit : (icells L).take L.length = icells L := ic_take _ _ rfl
    have hcin : ∀ y ∈ icells L ++ [.val (.int .i64 (b : Int))], In (fun _ => False) y := by rw [ic_app]; exact icells_in _
    have hlen : (L ++ [(b : Int)]).length = L.length + 1 := by simp
    (have hg : (987654321 : Nat) - 987654321 = 0 := rfl; have hr := hg; repeat' (first | refine aw_seq ?_ | (refine aw_skip ?_; try simp only [thenQ, blockQ, if_true, if_false, Nat.reduceEqDiff, reduceCtorEq]) | (refine aw_exit ?_; try simp only [thenQ, blockQ, if_true, if_false, Nat.reduceEqDiff, reduceCtorEq]) | refine aw_ret ?_ | refine aw_block ?_ | refine aw_condT rfl ?_ | refine aw_condF rfl ?_ | ((first | refine aw_region ?_ | refine acall0 (sb) ?_ | refine acall0 (sa) ?_ | refine ago_if (by omega) ?_ | skip); simp (config := {maxSteps := 10000000}) (disch := first | exact okYes (by kernel_rfl) | omega) only [thenQ, dI, List.length, Nat.zero_add, Nat.reduceAdd, Nat.reduceMul, ARun_none, AOpRun, aexec, FSt.ev, St.F, eget_c, Nat.reduceBEq, ↓eget_h, cond_false, AGo_ok, St.app, putO, eput_c, eput_n, hups, List.map, hil, isSh, Bool.false_eq_true, ↓reduceIte, Option.map, abin, kj, decide_true, ARun_nil, dropE_c, inL_c, inL_n, beq_self_eq_true, cond_true, dropE_n, hget_c, hget_n, Nat.le_refl, List.drop, List.take, Int.natCast_nonneg, hi1, and_self, opt1, Int.toNat_natCast, g1, run1, List.getElem?_cons_zero, rows_all, gb, hw0, g0, ga, e1, e2, Int.reduceEq, e3, ← e4, blockQ, Option.isSome, fillD, D.isBot, D.cells, ne_eq, not_true_eq_false, Nat.reduceGT, or_self, splice, List.nil_append, List.append_nil, hput_c, hput_n, base, ↓hget_h, Nat.mul_one, hic, hit, elems, List.all, D.leaf, Bool.and_true, and_true, ups, List.cons_append, hdel_c, hdel_n, fits])))
    refine ⟨j + 1, .inl (by omega), by omega, ?_⟩
    rw [hst, hlen, ← ic_app]
    refine wk_to [] [(0, 0), (40, 768)] (by kernel_rfl) (by kernel_rfl) (by kernel_rfl) (by kernel_rfl) (by kernel_rfl) ?_ ?_ <;> repeat' (first | exact trivial | exact vr_val _ | exact vr_list _ | exact vr_vec _ _ _ _ rfl | exact vr_ptr _ _ _ rfl | refine And.intro ⟨_, rfl, .inl ⟨_, rfl, by decide, ?_⟩⟩ ?_ | apply And.intro | exact vrl_flat _ (by first | exact icells_in _ | exact rcells_in _ | exact scells_in _ | exact bcells_in _ | assumption) | fail)
set_option maxRecDepth 100000 in
set_option maxHeartbeats 1000000 in
theorem rslips_err (l : Lay) (frs : List (List Int)) (hl : LayIn l) (he : tpE l frs ≠ 0) (hf : FrIn frs) : AC Try.prog 26 [layD l, .list (rows frs)] [] [] (.tup [.list (ints []), dI (tpE l frs)]) := by
  refine kref12_Slips.ac (n0 := 0) (by simp) ⟨in_layD _ _, .list _, trivial⟩ trivial rfl ?_
  unfold cref12_Slips
  have ck := rgood_err l frs hl he hf
  have h1 : (tpE l frs != 0) = true := by simpa using he
  unfold layD layC at *
  generalize tpE l frs = E at *
  (have hg : (987654321 : Nat) - 987654321 = 0 := rfl; have hr := hg; repeat' (first | refine aw_seq ?_ | (refine aw_skip ?_; try simp only [thenQ, blockQ, if_true, if_false, Nat.reduceEqDiff, reduceCtorEq]) | (refine aw_exit ?_; try simp only [thenQ, blockQ, if_true, if_false, Nat.reduceEqDiff, reduceCtorEq]) | refine aw_ret ?_ | refine aw_block ?_ | refine aw_condT rfl ?_ | refine aw_condF rfl ?_ | ((first | refine aw_region ?_ | refine acall0 (ck) ?_ | refine ago_if (by omega) ?_ | skip); simp (config := {maxSteps := 10000000}) (disch := first | exact okYes (by kernel_rfl) | omega) only [thenQ, List.map, dI, List.length, Nat.zero_add, Nat.reduceAdd, Nat.reduceMul, envOf, ARun_none, AOpRun, aexec, D.isBot, FSt.ev, St.F, ↓eget_h, Bool.false_eq_true, Option.isSome, hget_n, or_self, ↓reduceIte, D.cells, AGo_ok, St.app, putO, eput_c, Nat.reduceBEq, eput_n, cond_false, hups, hput_n, ARun_nil, dropE_c, inL_n, dropE_n, eget_c, hget_c, beq_self_eq_true, cond_true, Nat.reduceLeDiff, List.drop, List.take, opt1, Option.map, List.getElem?_cons_zero, List.getElem?_cons_succ, inL_c, isSh, abin, h1])))
  all_goals (refine end_to [] [] (by first | exact .inl rfl | exact .inr rfl) rfl (by kernel_rfl) (by kernel_rfl) (by kernel_rfl) ?_ ?_ <;> repeat' (first | exact trivial | exact vr_val _ | exact vr_nil | apply vr_tup | apply And.intro))
theorem rslips_ac (l : Lay) (frs : List (List Int)) (hl : LayIn l) (hf : FrIn frs) : AC Try.prog 26 [layD l, .list (rows frs)] [] [] (.tup [.list (ints (slipsR l frs)), dI (tpE l frs)]) := by
  unfold slipsR
  rcases tpE_cases l frs with ⟨h0, h1, h2⟩ | ⟨h0, _⟩
  · rw [if_pos h0, h0]; exact rslips_ok l frs hl h1 h2 hf
  · rw [if_neg h0]; exact rslips_err l frs hl h0 hf
end Go.Proofs.Ytdcodicoclecnaa
/- The law of Check, Good and Slips. No conditions. -/
set_option linter.unusedSimpArgs false
set_option linter.unusedVariables false
namespace Go.Proofs.Ytdcodicoclecnaa
open Go Go.RowKit Lift

theorem goodR_len (l : Lay) (frs : List (List Int)) : (goodR l frs).length ≤ frs.length := by
  unfold goodR
  split
  · exact gdI_len _ _ _
  · simp
theorem slipsR_len (l : Lay) (frs : List (List Int)) : (slipsR l frs).length ≤ frs.length := by
  unfold slipsR
  split
  · exact Nat.le_trans (slips_len _) (gds_len _ _ _)
  · simp
set_option maxRecDepth 100000 in
set_option maxHeartbeats 8000000 in
theorem lawChecks_ac (l : Lay) (frs : List (List Int)) (hl : LayIn l) (hf : FrIn frs) : AC Try.prog 4 [tpD l frs] [] [] (dB true) := by
  refine klaw12_RecordChecks.ac (n0 := 0) (by simp) ⟨in_tpD _ _ _, trivial⟩ trivial rfl ?_
  unfold claw12_RecordChecks
  have fa := far_ac l frs hl.nf hf.n hf.m
  unfold tpD at *
  cases hb : farB l frs with
  | true =>
    rw [hb] at fa
    (have hg : (987654321 : Nat) - 987654321 = 0 := rfl; have hr := hg; repeat' (first | refine aw_seq ?_ | (refine aw_skip ?_; repeat' (first | with_reducible refine thenQ_n ?_ | with_reducible refine blockQ_n ?_ | with_reducible refine thenQ_e ?_ | with_reducible refine blockQ_t ?_ | with_reducible refine blockQ_f (by decide) ?_)) | (refine aw_exit ?_; repeat' (first | with_reducible refine thenQ_n ?_ | with_reducible refine blockQ_n ?_ | with_reducible refine thenQ_e ?_ | with_reducible refine blockQ_t ?_ | with_reducible refine blockQ_f (by decide) ?_)) | refine aw_ret ?_ | refine aw_block ?_ | refine aw_condT rfl ?_ | refine aw_condF rfl ?_ | ((first | refine aw_hide fun K hK => aw_region ?_ | refine acall0 (fa) ?_ | refine acall0 (works_ac) ?_ | refine ago_if (by omega) ?_ | skip); simp (config := {maxSteps := 10000000}) (disch := first | exact okYes (by kernel_rfl) | omega) only [List.length, Nat.zero_add, Nat.reduceAdd, Nat.reduceMul, envOf, dI, ARun_none, AOpRun, aexec, D.isBot, FSt.ev, St.F, ↓eget_h, Bool.false_eq_true, Option.isSome, hget_n, or_self, ↓reduceIte, D.cells, AGo_ok, St.app, putO, eput_c, Nat.reduceBEq, eput_n, cond_false, hups, hput_n, List.map, ARun_nil, dropE_c, inL_n, dropE_n, eget_c, hget_c, beq_self_eq_true, cond_true, Nat.reduceLeDiff, List.drop, List.take, dB, inL_c, thenQ]) | (subst hK; repeat' (first | with_reducible refine thenQ_n ?_ | with_reducible refine blockQ_n ?_ | with_reducible refine thenQ_e ?_ | with_reducible refine blockQ_t ?_ | with_reducible refine blockQ_f (by decide) ?_))))
    all_goals (refine end_to [] [] (by first | exact .inl rfl | exact .inr rfl) rfl (by kernel_rfl) (by kernel_rfl) (by kernel_rfl) ?_ ?_ <;> repeat' (first | exact trivial | exact vr_val _))
  | false =>
  rw [hb] at fa
  obtain ⟨f1, f2, f3⟩ := far_small hb
  have ow := own_ac l frs (by omega) (by omega) (fun k => by have := f3 k; omega)
  have c1 := good_ac l frs hl hf
  have c2 := rgood_ac l frs hl hf
  have c3 := slips_ac l frs hl hf
  have c4 := rslips_ac l frs hl hf
  have c5 := check_ac l hl
  have c6 := rcheck_ac l hl
  have n1 := goodR_len l frs
  have n2 := slipsR_len l frs
  generalize goodR l frs = s at *
  generalize slipsR l frs = u at *
  generalize tpE l frs = E at *
  generalize layE l 120 = F at *
  have sp := sameI_ac s s (by omega) (by omega)
  rw [decide_eq_true rfl] at sp
  have sq := sameI_ac u u (by omega) (by omega)
  rw [decide_eq_true rfl] at sq
  unfold tpD at ow
  unfold layD layC at c1 c2 c3 c4 c5 c6
  have b1 : (E == E) = true := by simp
  have b2 : (F == F) = true := by simp
  (have hg : (987654321 : Nat) - 987654321 = 0 := rfl; have hr := hg; repeat' (first | refine aw_seq ?_ | (refine aw_skip ?_; repeat' (first | with_reducible refine thenQ_n ?_ | with_reducible refine blockQ_n ?_ | with_reducible refine thenQ_e ?_ | with_reducible refine blockQ_t ?_ | with_reducible refine blockQ_f (by decide) ?_)) | (refine aw_exit ?_; repeat' (first | with_reducible refine thenQ_n ?_ | with_reducible refine blockQ_n ?_ | with_reducible refine thenQ_e ?_ | with_reducible refine blockQ_t ?_ | with_reducible refine blockQ_f (by decide) ?_)) | refine aw_ret ?_ | refine aw_block ?_ | refine aw_condT rfl ?_ | refine aw_condF rfl ?_ | ((first | refine aw_hide fun K hK => aw_region ?_ | refine acall0 (fa) ?_ | refine acall0 (ow) ?_ | refine acall0 (c1) ?_ | refine acall0 (c2) ?_ | refine acall0 (c3) ?_ | refine acall0 (c4) ?_ | refine acall0 (c5) ?_ | refine acall0 (c6) ?_ | refine acall0 (sp) ?_ | refine acall0 (sq) ?_ | refine acall0 (works_ac) ?_ | refine ago_if (by omega) ?_ | skip); simp (config := {maxSteps := 10000000}) (disch := first | exact okYes (by kernel_rfl) | omega) only [List.length, Nat.zero_add, Nat.reduceAdd, Nat.reduceMul, envOf, dI, ARun_none, AOpRun, aexec, D.isBot, FSt.ev, St.F, ↓eget_h, Bool.false_eq_true, Option.isSome, hget_n, or_self, ↓reduceIte, D.cells, AGo_ok, St.app, putO, eput_c, Nat.reduceBEq, eput_n, cond_false, hups, hput_n, List.map, ARun_nil, dropE_c, inL_n, dropE_n, eget_c, hget_c, beq_self_eq_true, cond_true, Nat.reduceLeDiff, List.drop, List.take, dB, inL_c, hput_c, ↓hget_h, List.all, D.leaf, Bool.and_true, and_self, splice, List.nil_append, List.append_nil, Option.map, run1, List.getElem?_cons_succ, List.getElem?_cons_zero, opt1, isSh, abin, ARun_some, AG_tt]) | (subst hK; repeat' (first | with_reducible refine thenQ_n ?_ | with_reducible refine blockQ_n ?_ | with_reducible refine thenQ_e ?_ | with_reducible refine blockQ_t ?_ | with_reducible refine blockQ_f (by decide) ?_))))
  all_goals (refine end_to [] [] (by first | exact .inl rfl | exact .inr rfl) rfl (by kernel_rfl) (by kernel_rfl) (by kernel_rfl) ?_ ?_ <;> repeat' (first | exact trivial | exact vr_val _))
end Go.Proofs.Ytdcodicoclecnaa
