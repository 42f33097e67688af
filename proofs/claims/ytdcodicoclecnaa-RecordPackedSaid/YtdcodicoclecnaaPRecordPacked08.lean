/- Texts of the law RecordPacked, part 8. No conditions. -/
import Derived.Test.YtdcodicoclecnaaPRecordPacked07
import Derived.Test.YtdcodicoclecnaaRows
/- record: Read, Peak (a reference to a yield, .yref, lies in memory). No conditions. -/
set_option linter.unusedSimpArgs false
set_option linter.unusedVariables false
namespace Go.Proofs.Ytdcodicoclecnaa
open Go.RowKit Lift

def pkS (l : Lay) (f : Fl) (frs : List (List Int)) : Nat → Int × Int
  | 0 => (-1, 0)
  | i + 1 => match smp l f (frm frs i) with
    | some v => if (pkS l f frs i).1 < 0 ∨ v > (pkS l f frs i).2 then ((i : Int), v) else pkS l f frs i
    | none => pkS l f frs i
theorem scV_low (n g v : Nat) (L : List (Int × Int)) (m : Nat) (hg : g < n) (hv : v < n) {h : Hp} (h1 : LowH n h) : LowH n ((g, [.vec v m 2]) :: (v, scells L) :: h) :=
  .cons hg (by intro d hd; simp at hd; subst hd; exact .vec _ _ _ hv) rfl (.cons hv (fun d hd => (scells_in L d hd).mono fun _ h => h.elim) (scells_noY _) h1)
theorem sc_snoc (L : List (Int × Int)) (x : Int × Int) : scells L ++ [.val (.int .i64 x.1), .val (.int .i64 x.2)] = scells (L ++ [x]) := by
  rw [← sps_flat, ← sps_flat]; simp [sps]
theorem sc_all (L : List (Int × Int)) : (scells L).take (L.length * 2) = scells L := List.take_of_length_le (by rw [scells_len]; omega)
theorem hasA_one (l : Lay) (x : Int) : hasA l [x] = wI x 0 ((l.fl.length : Int) - 1) := by simp [hasA]
theorem wfE_ok {l : Lay} {frs : List (List Int)} {x : Int} (h : wfE l frs [x] = 0) : LayOk l ∧ frs.length ≤ 200 ∧ hasA l [x] = true ∧ ∃ k : Nat, x = k ∧ k < l.fl.length := by
  unfold wfE at h
  rcases tpE_cases l frs with ⟨h0, h1, h2⟩ | ⟨h0, _⟩
  · rw [if_pos h0] at h
    cases hh : hasA l [x] with
    | false => rw [hh] at h; cases h
    | true =>
      refine ⟨h1, h2, rfl, x.toNat, ?_⟩
      rw [hasA_one] at hh
      have := wI_t hh
      omega
  · rw [if_neg h0] at h; exact absurd h h0
set_option maxRecDepth 100000 in
set_option maxHeartbeats 4000000 in
theorem read_ok (l : Lay) (frs : List (List Int)) (k : Nat) (hl : LayIn l) (h1 : LayOk l) (h2 : frs.length ≤ 200) (hf : FrIn frs) (hk : k < l.fl.length) : AC Try.prog 18 [layD l, .list (rows frs), dI k] [] [] (.tup [.list (sps (smps l (fAt l k) frs frs.length)), dI 0]) := by
  refine krecord_Read.ac (n0 := 0) (by simp) ⟨in_layD _ _, .list _, .val _, trivial⟩ trivial rfl ?_
  unfold crecord_Read layD layC
  have hh : hasA l [(k : Int)] = true := by rw [hasA_one]; exact wI_y (by omega) (by omega)
  have nt := withField_ok l frs [(k : Int)] hl h1 h2 hf (Nat.le_of_ble_eq_true rfl) hh
  have sa := samples_ac l frs k hk (by have := h1.nf; omega)
  have hfo := fAt_ok h1 hk
  generalize fAt l k = f at *
  refine aw_seq (aw_region ?_)
  simp (config := {maxSteps := 10000000}) (disch := first | exact okYes (by kernel_rfl) | omega) only [thenQ, List.map, dI, List.length, Nat.zero_add, Nat.reduceAdd, Nat.reduceMul, envOf, ARun_none, AOpRun, aexec, D.isBot, FSt.ev, St.F, ↓eget_h, Bool.false_eq_true, Option.isSome, hget_n, or_self, ↓reduceIte, D.cells, AGo_ok, St.app, putO, eput_c, Nat.reduceBEq, eput_n, cond_false, hups, hput_n, hget_c, hput_c, ARun_nil, dropE_c, inL_n, dropE_n]
  refine aw_wk (s' := ⟨[(1, .list (rows frs)), (2, dI k), (3, .ptr 0 0), (6, .ptr 8 0)], [(0, [dI l.words, dI l.s0, dI l.s1, dI l.s2, dI l.s3, .list (fls l.fl)]), (8, [.vec 24 0 2]), (24, scells [])], 40⟩) ?_ ?_
  · unfold dI
    refine wk_to [] [(0, 0), (8, 8), (24, 900)] (by kernel_rfl) (by kernel_rfl) (by kernel_rfl) (by kernel_rfl) (by kernel_rfl) ?_ ?_ <;> repeat' (first | exact trivial | exact vr_val _ | exact vr_list _ | exact vr_ptr _ _ _ rfl | exact vr_nilv _ _ _ rfl | refine And.intro ⟨_, rfl, .inl ⟨_, rfl, by decide, ?_⟩⟩ ?_ | refine And.intro ⟨_, rfl, .inr ⟨rfl, rfl, of_decide_eq_true (by kernel_rfl)⟩⟩ ?_ | apply And.intro)
  refine aw_seq (aw_region_cut [⟨some 12, .loadN 6 (.tmp 3), none, []⟩,
     ⟨some 13, .mv (.tmp 1), none, []⟩,
     ⟨some 14, .mv (.tmp 2), none, []⟩,
     ⟨some 15, .buildSl 1 1 [(.val (.int .i64 0))] [(0, 1, (.tmp 14))], none, []⟩]
     [⟨some 16, .call (.func 66) [(.tmp 12), (.tmp 13), (.tmp 15)], none, []⟩,
     ⟨some 11, .mv (.tmp 16), none, []⟩,
     ⟨some 17, .ext (.tmp 11) 0, none, []⟩,
     ⟨some 18, .ext (.tmp 11) 1, none, []⟩,
     ⟨some 8, .mv (.tmp 17), none, []⟩,
     ⟨some 7, .mv (.tmp 18), none, []⟩] ?_)
  simp (config := {maxSteps := 10000000}) (disch := first | exact okYes (by kernel_rfl) | omega) only [List.length, Nat.zero_add, Nat.reduceAdd, Nat.reduceMul, thenQ, ARun_none, AOpRun, FSt.ev, List.map, St.F, dI, aexec, eget_c, Nat.reduceBEq, ↓eget_h, cond_false, hget_c, beq_self_eq_true, hget_n, cond_true, Nat.reduceLeDiff, ↓reduceIte, List.drop, List.take, AGo_ok, St.app, putO, eput_c, eput_n, hups, Option.isSome, Bool.false_eq_true, Option.map, fillD, D.isBot, D.cells, ne_eq, not_true_eq_false, Nat.reduceGT, or_self, splice, List.nil_append, List.append_nil, hput_c, hput_n, ARun_nil]
  refine ⟨⟨[(2, dI k), (6, .ptr 8 0), (12, layD l), (13, .list (rows frs)), (15, .list (ints [(k : Int)]))], [(8, [.vec 24 0 2]), (24, scells [])], 96⟩, ?_, of_decide_eq_true (by kernel_rfl), ?_⟩
  · unfold layD layC dI
    refine wk_to [64] [(8, 8), (24, 24)] (by kernel_rfl) (by kernel_rfl) (by kernel_rfl) (by kernel_rfl) (by kernel_rfl) ?_ ?_ <;> repeat' (first | exact trivial | exact vr_val _ | exact vr_list _ | exact vr_vec _ _ _ _ rfl | exact vr_ptr _ _ _ rfl | apply vr_agg | refine vr_fl _ _ _ _ _ (by decide) rfl ?_ ?_ ?_ ?_ | refine And.intro ⟨_, rfl, .inl ⟨_, rfl, by decide, ?_⟩⟩ ?_ | apply And.intro)
    all_goals first | exact ints_one _ | exact ints_len _ | exact ints_flat _ | exact icells_in _ | exact icells_in [(k : Int)]
  simp (config := {maxSteps := 10000000}) (disch := first | exact okYes (by kernel_rfl) | omega) only [Nat.reduceSub, Nat.reduceAdd, eget_c, Nat.reduceBEq, ↓eget_h, cond_false]
  refine acallB nt (by repeat' (first | exact trivial | exact rfl | refine And.intro ?_ ?_)) (by kernel_rfl) (by kernel_rfl) (by kernel_rfl) ?_
  simp (config := {maxSteps := 10000000}) (disch := first | exact okYes (by kernel_rfl) | omega) only [Nat.reduceAdd, St.app, putO, dI, eput_c, Nat.reduceBEq, eput_n, cond_false, hups, hput_c, hput_n, List.map, List.append_nil, ARun_none, AOpRun, aexec, FSt.ev, St.F, eget_c, ↓eget_h, AGo_ok, opt1, Option.map, List.getElem?_cons_zero, List.getElem?_cons_succ, ARun_nil, dropE_c, inL_c, inL_n, beq_self_eq_true, cond_true, dropE_n]
  refine aw_seq (aw_seq (aw_region ?_))
  simp (config := {maxSteps := 10000000}) (disch := first | exact okYes (by kernel_rfl) | omega) only [thenQ, List.length, Nat.zero_add, Nat.reduceAdd, Nat.reduceMul, ARun_none, AOpRun, aexec, FSt.ev, St.F, eget_c, Nat.reduceBEq, ↓eget_h, cond_false, AGo_ok, St.app, putO, eput_c, eput_n, hups, List.map, isSh, Bool.false_eq_true, ↓reduceIte, Option.map, abin, bne_self_eq_false, ARun_nil, dropE_c, inL_c, inL_n, beq_self_eq_true, cond_true, dropE_n]
  refine aw_condF rfl (aw_skip ?_)
  refine aw_wk (s' := ⟨[(2, dI k), (6, .ptr 8 0), (8, .ptr 96 0)], [(96, tpC l frs), (8, [.vec 24 0 2]), (24, scells [])], 104⟩) ?_ ?_
  · unfold dI
    refine wk_to [] [(8, 8), (24, 24), (96, 96)] (by kernel_rfl) (by kernel_rfl) (by kernel_rfl) (by kernel_rfl) (by kernel_rfl) ?_ ?_ <;> repeat' (first | exact trivial | exact vr_val _ | exact vr_list _ | exact vr_vec _ _ _ _ rfl | exact vr_ptr _ _ _ rfl | refine And.intro ⟨_, rfl, .inl ⟨_, rfl, by decide, ?_⟩⟩ ?_ | apply And.intro)
    all_goals exact tpC_in _ _ _
  refine aw_seq (aw_seq (aw_region ?_))
  simp (config := {maxSteps := 10000000}) (disch := first | exact okYes (by kernel_rfl) | omega) only [thenQ, List.length, Nat.zero_add, Nat.reduceAdd, Nat.reduceMul, dI, ARun_none, AOpRun, aexec, FSt.ev, St.F, eget_c, Nat.reduceBEq, ↓eget_h, cond_false, AGo_ok, St.app, putO, eput_c, eput_n, hups, List.map]
  refine acallB sa (by repeat' (first | exact trivial | exact rfl | refine And.intro ?_ ?_)) (by kernel_rfl) (by kernel_rfl) (by kernel_rfl) ?_
  simp (config := {maxSteps := 10000000}) (disch := first | exact okYes (by kernel_rfl) | omega) only [Nat.reduceAdd, St.app, putO, eput_c, Nat.reduceBEq, eput_n, cond_false, hups, hput_c, hput_n, beq_self_eq_true, cond_true, List.map, List.append_nil, ARun_nil, dropE_c, inL_c, inL_n, dropE_n]
  refine aw_wk (s' := ⟨[(6, .ptr 8 0), (24, .fn 113 [] [.ptr 120 0, .ptr 121 0])], [(96, tpC l frs), (120, [.ptr 96 0]), (121, flC f), (8, [.vec 24 0 2]), (24, scells [])], 800⟩) ?_ ?_
  · refine wk_to [] [(8, 8), (24, 24), (96, 96), (120, 120), (121, 121)] (by kernel_rfl) (by kernel_rfl) (by kernel_rfl) (by kernel_rfl) (by kernel_rfl) ?_ ?_ <;> repeat' (first | exact trivial | exact vr_val _ | exact vr_list _ | exact vr_vec _ _ _ _ rfl | exact vr_ptr _ _ _ rfl | apply vr_fn | refine And.intro ⟨_, rfl, .inl ⟨_, rfl, by decide, ?_⟩⟩ ?_ | apply And.intro)
    all_goals first | exact tpC_in _ _ _ | exact flC_in _ _
  refine aw_block (aw_range [8, 96, 120, 121] [(6, .ptr 8 0)] [.bot, .bot, .bot, .bot, .bot, .bot, .ptr 8 0] kprecord_tape_samples_S1 rfl (by simp) ⟨.inl rfl, .inl rfl, .inl rfl, .inl rfl, .inl rfl, .inl rfl, .inr rfl, trivial⟩ rfl rfl (by simp) ⟨.inr ⟨rfl, .ptr _ _ (by simp)⟩, trivial⟩ (fun r hr => ?_))
  refine samples_hit hr rfl l frs h2 h1 f hfo hf [8, 96, 120, 121] (by decide) [.bot, .bot, .bot, .bot, .bot, .bot, .ptr 8 0] rfl (by intro d hd; simp at hd; rcases hd with rfl | rfl; exact .bot; exact .ptr _ _ (by simp)) (by simp) (by simp) (by simp) (fun i => [(8, [.vec 24 (smps l f frs i).length 2]), (24, scells (smps l f frs i))]) (fun i => scV_low 800 8 24 _ _ (by decide) (by decide) .nil) (fun i hi hs => ?_) (fun i v hi hs => ?_) ?_
  · have : smps l f frs (i + 1) = smps l f frs i := by rw [smps_succ, hs]; simp
    simp only [this]
  · have hgl := smps_len l f frs i
    have e : smps l f frs (i + 1) = smps l f frs i ++ [((i : Int), v)] := by rw [smps_succ, hs]
    rw [e]
    generalize smps l f frs i = L at *
    rw [← sc_snoc L ((i : Int), v)]
    have hic : (scells L).length = L.length * 2 := scells_len _
    have hit : (scells L).take (L.length * 2) = scells L := sc_all L
    have hcin : ∀ y ∈ scells L ++ [.val (.int .i64 (i : Int)), .val (.int .i64 v)], In (fun _ => False) y := by rw [sc_snoc L ((i : Int), v)]; exact scells_in _
    have hlen : (L ++ [((i : Int), v)]).length = L.length + 1 := by simp
    rw [hlen]
    unfold crecord_Read_B25 smH
    refine aw_block (aw_region ?_)
    simp (config := {maxSteps := 10000000}) (disch := first | exact okYes (by kernel_rfl) | omega) only [blockQ, List.length, Nat.zero_add, Nat.reduceAdd, Nat.reduceMul, true_and, bodyE, asgE, parE, envOf, dI, eput_c, Nat.reduceBEq, eput_n, cond_false, eget_c, ↓eget_h, ARun_none, AOpRun, aexec, Option.map, run1, FSt.ev, St.F, hget_c, ↓hget_h, List.getElem?_cons_zero, AGo_ok, St.app, putO, hups, List.map, fillD, D.isBot, Bool.false_eq_true, D.cells, ne_eq, not_true_eq_false, Nat.reduceGT, or_self, ↓reduceIte, splice, List.take, List.nil_append, List.drop, List.cons_append, List.append_nil, Option.isSome, hget_n, hput_c, hput_n, base, hic, Nat.le_refl, and_self, hit, elems, List.all, D.leaf, Bool.and_true, and_true, ups]
    refine ago_if (by omega) ?_
    simp (config := {maxSteps := 10000000}) (disch := first | exact okYes (by kernel_rfl) | omega) only [AGo_ok, Nat.reduceAdd, St.app, putO, eput_c, Nat.reduceBEq, eput_n, cond_false, hups, hput_c, hput_n, hdel_c, beq_self_eq_true, hdel_n, cond_true, List.map, ARun_none, AOpRun, aexec, FSt.ev, St.F, eget_c, ↓eget_h, hget_c, ↓hget_h, D.isBot, D.cells, List.length, Nat.zero_add, Nat.reduceLeDiff, List.all, D.leaf, Bool.and_true, and_self, ↓reduceIte, splice, List.take, List.nil_append, List.drop, List.append_nil, ARun_nil, dropE_c, inL_c, inL_n, dropE_n]
    try refine ⟨rfl, ?_⟩
    refine wk_to [] [(8, 8), (24, 1540), (96, 96), (120, 120), (121, 121), (800, 800), (808, 808), (1000, 1000)] (by kernel_rfl) (by kernel_rfl) (by kernel_rfl) (by kernel_rfl) (by kernel_rfl) ?_ ?_ <;> repeat' (first | exact trivial | exact vr_val _ | exact vr_list _ | exact vr_vec _ _ _ _ rfl | exact vr_ptr _ _ _ rfl | refine And.intro ⟨_, rfl, .inl ⟨_, rfl, by decide, ?_⟩⟩ ?_ | apply And.intro | exact vr_yrefs _ _ rfl | exact vrl_flat _ (by first | exact icells_in _ | exact rcells_in _ | exact scells_in _ | exact bcells_in _ | assumption))
    all_goals first | exact tpC_in _ _ _ | exact flC_in _ _ | assumption
  · have hgl := smps_len l f frs frs.length
    generalize smps l f frs frs.length = L at *
    unfold smH
    simp only [blockQ, thenQ]
    (have hg : (987654321 : Nat) - 987654321 = 0 := rfl; have hr := hg; repeat' (first | refine aw_seq ?_ | (refine aw_skip ?_; repeat' (first | with_reducible refine thenQ_n ?_ | with_reducible refine blockQ_n ?_ | with_reducible refine thenQ_e ?_ | with_reducible refine blockQ_t ?_ | with_reducible refine blockQ_f (by decide) ?_)) | (refine aw_exit ?_; repeat' (first | with_reducible refine thenQ_n ?_ | with_reducible refine blockQ_n ?_ | with_reducible refine thenQ_e ?_ | with_reducible refine blockQ_t ?_ | with_reducible refine blockQ_f (by decide) ?_)) | refine aw_ret ?_ | refine aw_block ?_ | refine aw_condT rfl ?_ | refine aw_condF rfl ?_ | ((first | refine aw_hide fun K hK => aw_region ?_ | refine ago_if (by omega) ?_ | skip); simp (config := {maxSteps := 10000000}) (disch := first | exact okYes (by kernel_rfl) | omega) only [List.length, Nat.zero_add, Nat.reduceAdd, Nat.reduceMul, ARun_none, AOpRun, aexec, Option.map, run1, FSt.ev, St.F, ↓eget_h, hget_c, Nat.reduceBEq, ↓hget_h, cond_false, List.getElem?_cons_zero, AGo_ok, St.app, putO, eput_c, eput_n, hups, List.map, D.isBot, eget_c, D.cells, Nat.reduceLeDiff, List.all, D.leaf, Bool.and_true, and_self, ↓reduceIte, splice, List.take, List.nil_append, List.drop, List.append_nil, hput_c, beq_self_eq_true, hput_n, cond_true, ARun_nil, dropE_c, inL_c, inL_n, dropE_n]) | (subst hK; repeat' (first | with_reducible refine thenQ_n ?_ | with_reducible refine blockQ_n ?_ | with_reducible refine thenQ_e ?_ | with_reducible refine blockQ_t ?_ | with_reducible refine blockQ_f (by decide) ?_))))
    refine end_to [24] [] (by first | exact .inl rfl | exact .inr rfl) rfl (by kernel_rfl) (by kernel_rfl) (by kernel_rfl) ?_ ?_ <;> repeat' (first | exact trivial | exact vr_val _ | apply vr_tup | refine vr_fl _ _ _ _ _ (by decide) rfl ?_ ?_ ?_ ?_ | apply And.intro)
    all_goals first | exact sps_two _ | exact sps_len _ | exact sps_flat _ | exact scells_in _
set_option maxRecDepth 100000 in
set_option maxHeartbeats 1000000 in
theorem read_err (l : Lay) (frs : List (List Int)) (x : Int) (hl : LayIn l) (he : wfE l frs [x] ≠ 0) (hf : FrIn frs) : AC Try.prog 18 [layD l, .list (rows frs), dI x] [] [] (.tup [.list (sps []), dI (wfE l frs [x])]) := by
  refine krecord_Read.ac (n0 := 0) (by simp) ⟨in_layD _ _, .list _, .val _, trivial⟩ trivial rfl ?_
  unfold crecord_Read layD layC
  have nt := withField_err l frs [x] hl hf (Nat.le_of_ble_eq_true rfl) he
  have h1 : (wfE l frs [x] != 0) = true := by simpa using he
  generalize wfE l frs [x] = E at *
  refine aw_seq (aw_region ?_)
  simp (config := {maxSteps := 10000000}) (disch := first | exact okYes (by kernel_rfl) | omega) only [thenQ, List.map, dI, List.length, Nat.zero_add, Nat.reduceAdd, Nat.reduceMul, envOf, ARun_none, AOpRun, aexec, D.isBot, FSt.ev, St.F, ↓eget_h, Bool.false_eq_true, Option.isSome, hget_n, or_self, ↓reduceIte, D.cells, AGo_ok, St.app, putO, eput_c, Nat.reduceBEq, eput_n, cond_false, hups, hput_n, hget_c, hput_c, ARun_nil, dropE_c, inL_n, dropE_n]
  refine aw_seq (aw_region ?_)
  simp (config := {maxSteps := 10000000}) (disch := first | exact okYes (by kernel_rfl) | omega) only [thenQ, List.length, Nat.zero_add, Nat.reduceAdd, Nat.reduceMul, ARun_none, AOpRun, aexec, FSt.ev, St.F, eget_c, Nat.reduceBEq, ↓eget_h, cond_false, hget_c, beq_self_eq_true, hget_n, cond_true, Nat.reduceLeDiff, ↓reduceIte, List.drop, List.take, AGo_ok, St.app, putO, eput_c, eput_n, hups, List.map, Option.isSome, Bool.false_eq_true, Option.map, fillD, D.isBot, D.cells, ne_eq, not_true_eq_false, Nat.reduceGT, or_self, splice, List.nil_append, List.append_nil, hput_c, hput_n]
  refine acall nt [48] ⟨.refl _, .refl _, vec_ints [x] (by simp) rfl rfl, trivial⟩ (.inr (.tup _ (by intro d hd; simp at hd; rcases hd with rfl | rfl <;> exact .val _))) (by intro g hg; simp at hg; subst hg; exact ⟨_, rfl⟩) (by kernel_rfl) ?_
  simp (config := {maxSteps := 10000000}) (disch := first | exact okYes (by kernel_rfl) | omega) only [Nat.reduceAdd, St.app, putO, dI, eput_c, Nat.reduceBEq, eput_n, cond_false, hups, ARun_none, AOpRun, aexec, FSt.ev, St.F, eget_c, ↓eget_h, AGo_ok, List.map, opt1, Option.map, List.getElem?_cons_zero, List.getElem?_cons_succ, beq_self_eq_true, cond_true, ARun_nil, dropE_c, inL_c, inL_n, dropE_n]
  (have hg : (987654321 : Nat) - 987654321 = 0 := rfl; have hr := hg; repeat' (first | refine aw_seq ?_ | (refine aw_skip ?_; repeat' (first | with_reducible refine thenQ_n ?_ | with_reducible refine blockQ_n ?_ | with_reducible refine thenQ_e ?_ | with_reducible refine blockQ_t ?_ | with_reducible refine blockQ_f (by decide) ?_)) | (refine aw_exit ?_; repeat' (first | with_reducible refine thenQ_n ?_ | with_reducible refine blockQ_n ?_ | with_reducible refine thenQ_e ?_ | with_reducible refine blockQ_t ?_ | with_reducible refine blockQ_f (by decide) ?_)) | refine aw_ret ?_ | refine aw_block ?_ | refine aw_condT rfl ?_ | refine aw_condF rfl ?_ | ((first | refine aw_hide fun K hK => aw_region ?_ | refine ago_if (by omega) ?_ | skip); simp (config := {maxSteps := 10000000}) (disch := first | exact okYes (by kernel_rfl) | omega) only [List.length, Nat.zero_add, Nat.reduceAdd, Nat.reduceMul, ARun_none, AOpRun, aexec, FSt.ev, St.F, eget_c, Nat.reduceBEq, ↓eget_h, cond_false, AGo_ok, St.app, putO, eput_c, eput_n, hups, List.map, isSh, Bool.false_eq_true, ↓reduceIte, Option.map, abin, h1, ARun_nil, dropE_c, inL_c, inL_n, beq_self_eq_true, cond_true, dropE_n, hget_c, ↓hget_h, D.isBot, D.cells, Nat.reduceLeDiff, List.all, D.leaf, Bool.and_true, and_self, splice, List.take, List.nil_append, List.drop, List.append_nil, hput_c, hput_n, thenQ]) | (subst hK; repeat' (first | with_reducible refine thenQ_n ?_ | with_reducible refine blockQ_n ?_ | with_reducible refine thenQ_e ?_ | with_reducible refine blockQ_t ?_ | with_reducible refine blockQ_f (by decide) ?_))))
  (refine end_to [] [] (by first | exact .inl rfl | exact .inr rfl) rfl (by kernel_rfl) (by kernel_rfl) (by kernel_rfl) ?_ ?_ <;> repeat' (first | exact trivial | exact vr_val _ | exact vr_nil | apply vr_tup | apply And.intro))
noncomputable def readR (l : Lay) (frs : List (List Int)) (x : Int) : List (Int × Int) := if wfE l frs [x] = 0 then smps l (fAt l x.toNat) frs frs.length else []
theorem read_ac (l : Lay) (frs : List (List Int)) (x : Int) (hl : LayIn l) (hf : FrIn frs) : AC Try.prog 18 [layD l, .list (rows frs), dI x] [] [] (.tup [.list (sps (readR l frs x)), dI (wfE l frs [x])]) := by
  unfold readR
  by_cases h : wfE l frs [x] = 0
  · obtain ⟨h1, h2, _, k, rfl, hk⟩ := wfE_ok h
    rw [if_pos h, h]; exact read_ok l frs k hl h1 h2 hf hk
  · rw [if_neg h]; exact read_err l frs x hl h hf
set_option maxRecDepth 100000 in
set_option maxHeartbeats 4000000 in
theorem peak_ok (l : Lay) (frs : List (List Int)) (k : Nat) (hl : LayIn l) (h1 : LayOk l) (h2 : frs.length ≤ 200) (hf : FrIn frs) (hk : k < l.fl.length) : AC Try.prog 20 [layD l, .list (rows frs), dI k] [] [] (if (pkS l (fAt l k) frs frs.length).1 < 0 then .tup [dI 0, dI 0, dI 3] else .tup [dI (pkS l (fAt l k) frs frs.length).1, dI (pkS l (fAt l k) frs frs.length).2, dI 0]) := by
  have hin : In (fun _ => False) (if (pkS l (fAt l k) frs frs.length).1 < 0 then D.tup [dI 0, dI 0, dI 3] else .tup [dI (pkS l (fAt l k) frs frs.length).1, dI (pkS l (fAt l k) frs frs.length).2, dI 0]) := by
    split <;> exact .tup _ (by intro d hd; simp at hd; rcases hd with rfl | rfl | rfl <;> exact .val _)
  refine krecord_Peak.ac (n0 := 0) (by simp) ⟨in_layD _ _, .list _, .val _, trivial⟩ trivial rfl ?_
  unfold crecord_Peak layD layC
  have hh : hasA l [(k : Int)] = true := by rw [hasA_one]; exact wI_y (by omega) (by omega)
  have nt := withField_ok l frs [(k : Int)] hl h1 h2 hf (Nat.le_of_ble_eq_true rfl) hh
  have sa := samples_ac l frs k hk (by have := h1.nf; omega)
  have hfo := fAt_ok h1 hk
  generalize fAt l k = f at *
  refine aw_seq (aw_region ?_)
  simp (config := {maxSteps := 10000000}) (disch := first | exact okYes (by kernel_rfl) | omega) only [thenQ, List.map, Int.reduceNeg, dI, List.length, Nat.zero_add, Nat.reduceAdd, Nat.reduceMul, envOf, ARun_none, AOpRun, aexec, D.isBot, FSt.ev, St.F, ↓eget_h, Bool.false_eq_true, Option.isSome, hget_n, or_self, ↓reduceIte, D.cells, AGo_ok, St.app, putO, eput_c, Nat.reduceBEq, eput_n, cond_false, hups, hput_n, hget_c, hput_c, ARun_nil, dropE_c, inL_n, dropE_n]
  refine aw_wk (s' := ⟨[(1, .list (rows frs)), (2, dI k), (3, .ptr 0 0), (6, .ptr 8 0), (7, .ptr 16 0)], [(0, [dI l.words, dI l.s0, dI l.s1, dI l.s2, dI l.s3, .list (fls l.fl)]), (8, [dI 0]), (16, [dI 0])], 40⟩) ?_ ?_
  · unfold dI
    refine wk_to [] [(0, 0), (8, 8), (16, 16)] (by kernel_rfl) (by kernel_rfl) (by kernel_rfl) (by kernel_rfl) (by kernel_rfl) ?_ ?_ <;> repeat' (first | exact trivial | exact vr_val _ | exact vr_list _ | exact vr_ptr _ _ _ rfl | refine And.intro ⟨_, rfl, .inl ⟨_, rfl, by decide, ?_⟩⟩ ?_ | apply And.intro)
  refine aw_seq (aw_region_cut [⟨some 13, .loadN 6 (.tmp 3), none, []⟩,
     ⟨some 14, .mv (.tmp 1), none, []⟩,
     ⟨some 15, .mv (.tmp 2), none, []⟩,
     ⟨some 16, .buildSl 1 1 [(.val (.int .i64 0))] [(0, 1, (.tmp 15))], none, []⟩]
     [⟨some 17, .call (.func 66) [(.tmp 13), (.tmp 14), (.tmp 16)], none, []⟩,
     ⟨some 12, .mv (.tmp 17), none, []⟩,
     ⟨some 18, .ext (.tmp 12) 0, none, []⟩,
     ⟨some 19, .ext (.tmp 12) 1, none, []⟩,
     ⟨some 9, .mv (.tmp 18), none, []⟩,
     ⟨some 8, .mv (.tmp 19), none, []⟩] ?_)
  simp (config := {maxSteps := 10000000}) (disch := first | exact okYes (by kernel_rfl) | omega) only [List.length, Nat.zero_add, Nat.reduceAdd, Nat.reduceMul, thenQ, Int.reduceNeg, ARun_none, AOpRun, FSt.ev, List.map, St.F, dI, aexec, eget_c, Nat.reduceBEq, ↓eget_h, cond_false, hget_c, beq_self_eq_true, hget_n, cond_true, Nat.reduceLeDiff, ↓reduceIte, List.drop, List.take, AGo_ok, St.app, putO, eput_c, eput_n, hups, Option.isSome, Bool.false_eq_true, Option.map, fillD, D.isBot, D.cells, ne_eq, not_true_eq_false, Nat.reduceGT, or_self, splice, List.nil_append, List.append_nil, hput_c, hput_n, ARun_nil]
  refine ⟨⟨[(2, dI k), (6, .ptr 8 0), (7, .ptr 16 0), (13, layD l), (14, .list (rows frs)), (16, .list (ints [(k : Int)]))], [(8, [dI 0]), (16, [dI 0])], 96⟩, ?_, of_decide_eq_true (by kernel_rfl), ?_⟩
  · unfold layD layC dI
    refine wk_to [64] [(8, 8), (16, 16)] (by kernel_rfl) (by kernel_rfl) (by kernel_rfl) (by kernel_rfl) (by kernel_rfl) ?_ ?_ <;> repeat' (first | exact trivial | exact vr_val _ | exact vr_list _ | exact vr_ptr _ _ _ rfl | apply vr_agg | refine vr_fl _ _ _ _ _ (by decide) rfl ?_ ?_ ?_ ?_ | refine And.intro ⟨_, rfl, .inl ⟨_, rfl, by decide, ?_⟩⟩ ?_ | apply And.intro)
    all_goals first | exact ints_one _ | exact ints_len _ | exact ints_flat _ | exact icells_in _ | exact icells_in [(k : Int)]
  simp (config := {maxSteps := 10000000}) (disch := first | exact okYes (by kernel_rfl) | omega) only [Nat.reduceSub, Int.reduceNeg, Nat.reduceAdd, eget_c, Nat.reduceBEq, ↓eget_h, cond_false]
  refine acallB nt (by repeat' (first | exact trivial | exact rfl | refine And.intro ?_ ?_)) (by kernel_rfl) (by kernel_rfl) (by kernel_rfl) ?_
  simp (config := {maxSteps := 10000000}) (disch := first | exact okYes (by kernel_rfl) | omega) only [Int.reduceNeg, Nat.reduceAdd, St.app, putO, dI, eput_c, Nat.reduceBEq, eput_n, cond_false, hups, hput_c, hput_n, List.map, List.append_nil, ARun_none, AOpRun, aexec, FSt.ev, St.F, eget_c, ↓eget_h, AGo_ok, opt1, Option.map, List.getElem?_cons_zero, List.getElem?_cons_succ, ARun_nil, dropE_c, inL_c, inL_n, beq_self_eq_true, cond_true, dropE_n]
  refine aw_seq (aw_seq (aw_region ?_))
  simp (config := {maxSteps := 10000000}) (disch := first | exact okYes (by kernel_rfl) | omega) only [thenQ, Int.reduceNeg, List.length, Nat.zero_add, Nat.reduceAdd, Nat.reduceMul, ARun_none, AOpRun, aexec, FSt.ev, St.F, eget_c, Nat.reduceBEq, ↓eget_h, cond_false, AGo_ok, St.app, putO, eput_c, eput_n, hups, List.map, isSh, Bool.false_eq_true, ↓reduceIte, Option.map, abin, bne_self_eq_false, ARun_nil, dropE_c, inL_c, inL_n, beq_self_eq_true, cond_true, dropE_n]
  refine aw_condF rfl (aw_skip ?_)
  refine aw_seq (aw_region ?_)
  simp (config := {maxSteps := 10000000}) (disch := first | exact okYes (by kernel_rfl) | omega) only [thenQ, List.length, Nat.zero_add, Nat.reduceMul, Nat.reduceAdd, Int.reduceNeg, ARun_none, AOpRun, aexec, FSt.ev, St.F, eget_c, Nat.reduceBEq, ↓eget_h, cond_false, hget_c, beq_self_eq_true, hget_n, cond_true, D.isBot, D.cells, Nat.reduceLeDiff, List.all, D.leaf, Bool.and_true, and_self, ↓reduceIte, splice, List.take, List.nil_append, List.drop, List.append_nil, AGo_ok, St.app, putO, hups, hput_c, hput_n, List.map, ARun_nil, dropE_c, inL_n, dropE_n]
  refine aw_wk (s' := ⟨[(2, dI k), (6, .ptr 8 0), (7, .ptr 16 0), (9, .ptr 96 0)], [(96, tpC l frs), (8, [dI (-1)]), (16, [dI 0])], 104⟩) ?_ ?_
  · unfold dI
    refine wk_to [] [(8, 8), (16, 16), (96, 96)] (by kernel_rfl) (by kernel_rfl) (by kernel_rfl) (by kernel_rfl) (by kernel_rfl) ?_ ?_ <;> repeat' (first | exact trivial | exact vr_val _ | exact vr_list _ | exact vr_ptr _ _ _ rfl | refine And.intro ⟨_, rfl, .inl ⟨_, rfl, by decide, ?_⟩⟩ ?_ | apply And.intro)
    all_goals exact tpC_in _ _ _
  refine aw_seq (aw_seq (aw_region ?_))
  simp (config := {maxSteps := 10000000}) (disch := first | exact okYes (by kernel_rfl) | omega) only [thenQ, List.length, Nat.zero_add, Nat.reduceAdd, Nat.reduceMul, dI, Int.reduceNeg, ARun_none, AOpRun, aexec, FSt.ev, St.F, eget_c, Nat.reduceBEq, ↓eget_h, cond_false, AGo_ok, St.app, putO, eput_c, eput_n, hups, List.map]
  refine acallB sa (by repeat' (first | exact trivial | exact rfl | refine And.intro ?_ ?_)) (by kernel_rfl) (by kernel_rfl) (by kernel_rfl) ?_
  simp (config := {maxSteps := 10000000}) (disch := first | exact okYes (by kernel_rfl) | omega) only [Nat.reduceAdd, St.app, putO, eput_c, Nat.reduceBEq, eput_n, cond_false, hups, Int.reduceNeg, hput_c, hput_n, beq_self_eq_true, cond_true, List.map, List.append_nil, ARun_nil, dropE_c, inL_c, inL_n, dropE_n]
  refine aw_wk (s' := ⟨[(6, .ptr 8 0), (7, .ptr 16 0), (25, .fn 113 [] [.ptr 120 0, .ptr 121 0])], [(96, tpC l frs), (120, [.ptr 96 0]), (121, flC f), (8, [dI (-1)]), (16, [dI 0])], 800⟩) ?_ ?_
  · unfold dI
    refine wk_to [] [(8, 8), (16, 16), (96, 96), (120, 120), (121, 121)] (by kernel_rfl) (by kernel_rfl) (by kernel_rfl) (by kernel_rfl) (by kernel_rfl) ?_ ?_ <;> repeat' (first | exact trivial | exact vr_val _ | exact vr_list _ | exact vr_ptr _ _ _ rfl | apply vr_fn | refine And.intro ⟨_, rfl, .inl ⟨_, rfl, by decide, ?_⟩⟩ ?_ | apply And.intro)
    all_goals first | exact tpC_in _ _ _ | exact flC_in _ _
  refine aw_block (aw_range [8, 16, 96, 120, 121] [(6, .ptr 8 0), (7, .ptr 16 0)] [.bot, .bot, .bot, .bot, .bot, .bot, .ptr 8 0, .ptr 16 0] kprecord_tape_samples_S1 rfl (by simp) ⟨.inl rfl, .inl rfl, .inl rfl, .inl rfl, .inl rfl, .inl rfl, .inr rfl, .inr rfl, trivial⟩ rfl rfl (by simp) ⟨.inr ⟨rfl, .ptr _ _ (by simp)⟩, .inr ⟨rfl, .ptr _ _ (by simp)⟩, trivial⟩ (fun r hr => ?_))
  refine samples_hit hr rfl l frs h2 h1 f hfo hf [8, 16, 96, 120, 121] (by decide) [.bot, .bot, .bot, .bot, .bot, .bot, .ptr 8 0, .ptr 16 0] rfl (by intro d hd; simp at hd; rcases hd with rfl | rfl | rfl; exact .bot; exact .ptr _ _ (by simp); exact .ptr _ _ (by simp)) (by simp) (by simp) (by simp) (fun i => [(8, [dI (pkS l f frs i).1]), (16, [dI (pkS l f frs i).2])])
    (fun i => .cons (by decide) (by intro d hd; simp at hd; subst hd; exact .val _) rfl (.cons (by decide) (by intro d hd; simp at hd; subst hd; exact .val _) rfl .nil)) (fun i hi hs => ?_) (fun i v hi hs => ?_) ?_
  · have : pkS l f frs (i + 1) = pkS l f frs i := by simp only [pkS, hs]
    simp only [this]
  · have e : pkS l f frs (i + 1) = if (pkS l f frs i).1 < 0 ∨ v > (pkS l f frs i).2 then ((i : Int), v) else pkS l f frs i := by simp only [pkS, hs]
    rw [e]
    generalize pkS l f frs i = p at *
    obtain ⟨a, b⟩ := p
    simp only
    unfold crecord_Peak_B26 smH
    refine aw_block (aw_seq (aw_region ?_))
    cases q1 : decide (a < 0) with
    | true =>
      rw [if_pos (.inl (of_decide_eq_true q1))]
      simp (config := {maxSteps := 10000000}) (disch := first | exact okYes (by kernel_rfl) | omega) only [thenQ, dI, List.length, Nat.zero_add, Nat.reduceAdd, Nat.reduceMul, bodyE, asgE, parE, envOf, eput_c, Nat.reduceBEq, eput_n, cond_false, eget_c, ↓eget_h, ARun_none, AOpRun, aexec, Option.map, run1, FSt.ev, St.F, hget_c, ↓hget_h, List.getElem?_cons_zero, AGo_ok, St.app, putO, hups, List.map, isSh, Bool.false_eq_true, ↓reduceIte, abin, q1, ARun_some, AG_tf, ARun_nil, dropE_c, inL_c, inL_n, beq_self_eq_true, cond_true, dropE_n]
      refine aw_condT rfl (aw_region ?_)
      simp (config := {maxSteps := 10000000}) (disch := first | exact okYes (by kernel_rfl) | omega) only [blockQ, List.length, Nat.zero_add, Nat.reduceAdd, Nat.reduceMul, true_and, ARun_none, AOpRun, aexec, FSt.ev, St.F, eget_c, Nat.reduceBEq, ↓eget_h, cond_false, AGo_ok, St.app, putO, eput_c, eput_n, hups, List.map, hget_c, ↓hget_h, D.isBot, D.cells, Nat.reduceLeDiff, List.all, D.leaf, Bool.and_true, and_self, ↓reduceIte, splice, List.take, List.nil_append, List.drop, List.append_nil, hput_c, beq_self_eq_true, hput_n, cond_true, ARun_nil, dropE_c, inL_c, inL_n, dropE_n]
      try refine ⟨rfl, ?_⟩
      refine wk_to [] [(8, 8), (16, 16), (96, 96), (120, 120), (121, 121), (800, 800), (808, 808), (1000, 1000)] (by kernel_rfl) (by kernel_rfl) (by kernel_rfl) (by kernel_rfl) (by kernel_rfl) ?_ ?_ <;> repeat' (first | exact trivial | exact vr_val _ | exact vr_list _ | exact vr_ptr _ _ _ rfl | refine And.intro ⟨_, rfl, .inl ⟨_, rfl, by decide, ?_⟩⟩ ?_ | apply And.intro | exact vr_yrefs _ _ rfl)
      all_goals first | exact tpC_in _ _ _ | exact flC_in _ _
    | false =>
      have n1 := of_decide_eq_false q1
      cases q2 : decide (v > b) with
      | true =>
        rw [if_pos (.inr (of_decide_eq_true q2))]
        simp (config := {maxSteps := 10000000}) (disch := first | exact okYes (by kernel_rfl) | omega) only [thenQ, dI, List.length, Nat.zero_add, Nat.reduceAdd, Nat.reduceMul, bodyE, asgE, parE, envOf, eput_c, Nat.reduceBEq, eput_n, cond_false, eget_c, ↓eget_h, ARun_none, AOpRun, aexec, Option.map, run1, FSt.ev, St.F, hget_c, ↓hget_h, List.getElem?_cons_zero, AGo_ok, St.app, putO, hups, List.map, isSh, Bool.false_eq_true, ↓reduceIte, abin, q1, ARun_some, AG_ff, q2, ARun_nil, dropE_c, inL_c, inL_n, beq_self_eq_true, cond_true, dropE_n]
        refine aw_condT rfl (aw_region ?_)
        simp (config := {maxSteps := 10000000}) (disch := first | exact okYes (by kernel_rfl) | omega) only [blockQ, List.length, Nat.zero_add, Nat.reduceAdd, Nat.reduceMul, true_and, ARun_none, AOpRun, aexec, FSt.ev, St.F, eget_c, Nat.reduceBEq, ↓eget_h, cond_false, AGo_ok, St.app, putO, eput_c, eput_n, hups, List.map, hget_c, ↓hget_h, D.isBot, D.cells, Nat.reduceLeDiff, List.all, D.leaf, Bool.and_true, and_self, ↓reduceIte, splice, List.take, List.nil_append, List.drop, List.append_nil, hput_c, beq_self_eq_true, hput_n, cond_true, ARun_nil, dropE_c, inL_c, inL_n, dropE_n]
        try refine ⟨rfl, ?_⟩
        refine wk_to [] [(8, 8), (16, 16), (96, 96), (120, 120), (121, 121), (800, 800), (808, 808), (1000, 1000)] (by kernel_rfl) (by kernel_rfl) (by kernel_rfl) (by kernel_rfl) (by kernel_rfl) ?_ ?_ <;> repeat' (first | exact trivial | exact vr_val _ | exact vr_list _ | exact vr_ptr _ _ _ rfl | refine And.intro ⟨_, rfl, .inl ⟨_, rfl, by decide, ?_⟩⟩ ?_ | apply And.intro | exact vr_yrefs _ _ rfl)
        all_goals first | exact tpC_in _ _ _ | exact flC_in _ _
      | false =>
        have n2 := of_decide_eq_false q2
        rw [if_neg (by rintro (h | h); exact n1 h; exact n2 h)]
        simp (config := {maxSteps := 10000000}) (disch := first | exact okYes (by kernel_rfl) | omega) only [thenQ, dI, List.length, Nat.zero_add, Nat.reduceAdd, Nat.reduceMul, bodyE, asgE, parE, envOf, eput_c, Nat.reduceBEq, eput_n, cond_false, eget_c, ↓eget_h, ARun_none, AOpRun, aexec, Option.map, run1, FSt.ev, St.F, hget_c, ↓hget_h, List.getElem?_cons_zero, AGo_ok, St.app, putO, hups, List.map, isSh, Bool.false_eq_true, ↓reduceIte, abin, q1, ARun_some, AG_ff, q2, ARun_nil, dropE_c, inL_c, inL_n, beq_self_eq_true, cond_true, dropE_n]
        refine aw_condF rfl (aw_skip ?_)
        try refine ⟨rfl, ?_⟩
        refine wk_to [] [(8, 8), (16, 16), (96, 96), (120, 120), (121, 121), (800, 800), (808, 808), (1000, 1000)] (by kernel_rfl) (by kernel_rfl) (by kernel_rfl) (by kernel_rfl) (by kernel_rfl) ?_ ?_ <;> repeat' (first | exact trivial | exact vr_val _ | exact vr_list _ | exact vr_ptr _ _ _ rfl | refine And.intro ⟨_, rfl, .inl ⟨_, rfl, by decide, ?_⟩⟩ ?_ | apply And.intro | exact vr_yrefs _ _ rfl)
        all_goals first | exact tpC_in _ _ _ | exact flC_in _ _
  · generalize pkS l f frs frs.length = p at *
    obtain ⟨a, b⟩ := p
    unfold smH
    simp only [blockQ, thenQ]
    cases q1 : decide (a < 0) with
    | true =>
      rw [if_pos (of_decide_eq_true q1)]
      (have hg : (987654321 : Nat) - 987654321 = 0 := rfl; have hr := hg; repeat' (first | refine aw_seq ?_ | (refine aw_skip ?_; repeat' (first | with_reducible refine thenQ_n ?_ | with_reducible refine blockQ_n ?_ | with_reducible refine thenQ_e ?_ | with_reducible refine blockQ_t ?_ | with_reducible refine blockQ_f (by decide) ?_)) | (refine aw_exit ?_; repeat' (first | with_reducible refine thenQ_n ?_ | with_reducible refine blockQ_n ?_ | with_reducible refine thenQ_e ?_ | with_reducible refine blockQ_t ?_ | with_reducible refine blockQ_f (by decide) ?_)) | refine aw_ret ?_ | refine aw_block ?_ | refine aw_condT rfl ?_ | refine aw_condF rfl ?_ | ((first | refine aw_hide fun K hK => aw_region ?_ | refine ago_if (by omega) ?_ | skip); simp (config := {maxSteps := 10000000}) (disch := first | exact okYes (by kernel_rfl) | omega) only [List.length, Nat.zero_add, Nat.reduceAdd, Nat.reduceMul, dI, ARun_none, AOpRun, aexec, Option.map, run1, FSt.ev, St.F, ↓eget_h, hget_c, Nat.reduceBEq, ↓hget_h, cond_false, List.getElem?_cons_zero, AGo_ok, St.app, putO, eput_c, eput_n, hups, List.map, eget_c, isSh, Bool.false_eq_true, ↓reduceIte, abin, q1, ARun_nil, dropE_c, inL_c, inL_n, beq_self_eq_true, cond_true, dropE_n, D.isBot, D.cells, Nat.reduceLeDiff, List.all, D.leaf, Bool.and_true, and_self, splice, List.take, List.nil_append, List.drop, List.append_nil, hput_c, hput_n, thenQ]) | (subst hK; repeat' (first | with_reducible refine thenQ_n ?_ | with_reducible refine blockQ_n ?_ | with_reducible refine thenQ_e ?_ | with_reducible refine blockQ_t ?_ | with_reducible refine blockQ_f (by decide) ?_))))
      (refine end_to [] [] (by first | exact .inl rfl | exact .inr rfl) rfl (by kernel_rfl) (by kernel_rfl) (by kernel_rfl) ?_ ?_ <;> repeat' (first | exact trivial | exact vr_val _ | apply vr_tup | apply And.intro))
    | false =>
      rw [if_neg (of_decide_eq_false q1)]
      (have hg : (987654321 : Nat) - 987654321 = 0 := rfl; have hr := hg; repeat' (first | refine aw_seq ?_ | (refine aw_skip ?_; repeat' (first | with_reducible refine thenQ_n ?_ | with_reducible refine blockQ_n ?_ | with_reducible refine thenQ_e ?_ | with_reducible refine blockQ_t ?_ | with_reducible refine blockQ_f (by decide) ?_)) | (refine aw_exit ?_; repeat' (first | with_reducible refine thenQ_n ?_ | with_reducible refine blockQ_n ?_ | with_reducible refine thenQ_e ?_ | with_reducible refine blockQ_t ?_ | with_reducible refine blockQ_f (by decide) ?_)) | refine aw_ret ?_ | refine aw_block ?_ | refine aw_condT rfl ?_ | refine aw_condF rfl ?_ | ((first | refine aw_hide fun K hK => aw_region ?_ | refine ago_if (by omega) ?_ | skip); simp (config := {maxSteps := 10000000}) (disch := first | exact okYes (by kernel_rfl) | omega) only [List.length, Nat.zero_add, Nat.reduceAdd, Nat.reduceMul, dI, ARun_none, AOpRun, aexec, Option.map, run1, FSt.ev, St.F, ↓eget_h, hget_c, Nat.reduceBEq, ↓hget_h, cond_false, List.getElem?_cons_zero, AGo_ok, St.app, putO, eput_c, eput_n, hups, List.map, eget_c, isSh, Bool.false_eq_true, ↓reduceIte, abin, q1, ARun_nil, dropE_c, inL_c, inL_n, beq_self_eq_true, cond_true, dropE_n, D.isBot, D.cells, Nat.reduceLeDiff, List.all, D.leaf, Bool.and_true, and_self, splice, List.take, List.nil_append, List.drop, List.append_nil, hput_c, hput_n]) | (subst hK; repeat' (first | with_reducible refine thenQ_n ?_ | with_reducible refine blockQ_n ?_ | with_reducible refine thenQ_e ?_ | with_reducible refine blockQ_t ?_ | with_reducible refine blockQ_f (by decide) ?_))))
      (refine end_to [] [] (by first | exact .inl rfl | exact .inr rfl) rfl (by kernel_rfl) (by kernel_rfl) (by kernel_rfl) ?_ ?_ <;> repeat' (first | exact trivial | exact vr_val _ | apply vr_tup | apply And.intro))
set_option maxRecDepth 100000 in
set_option maxHeartbeats 1000000 in
theorem peak_err (l : Lay) (frs : List (List Int)) (x : Int) (hl : LayIn l) (he : wfE l frs [x] ≠ 0) (hf : FrIn frs) : AC Try.prog 20 [layD l, .list (rows frs), dI x] [] [] (.tup [dI 0, dI 0, dI (wfE l frs [x])]) := by
  refine krecord_Peak.ac (n0 := 0) (by simp) ⟨in_layD _ _, .list _, .val _, trivial⟩ trivial rfl ?_
  unfold crecord_Peak layD layC
  have nt := withField_err l frs [x] hl hf (Nat.le_of_ble_eq_true rfl) he
  have h1 : (wfE l frs [x] != 0) = true := by simpa using he
  generalize wfE l frs [x] = E at *
  refine aw_seq (aw_region ?_)
  simp (config := {maxSteps := 10000000}) (disch := first | exact okYes (by kernel_rfl) | omega) only [thenQ, List.map, Int.reduceNeg, dI, List.length, Nat.zero_add, Nat.reduceAdd, Nat.reduceMul, envOf, ARun_none, AOpRun, aexec, D.isBot, FSt.ev, St.F, ↓eget_h, Bool.false_eq_true, Option.isSome, hget_n, or_self, ↓reduceIte, D.cells, AGo_ok, St.app, putO, eput_c, Nat.reduceBEq, eput_n, cond_false, hups, hput_n, hget_c, hput_c, ARun_nil, dropE_c, inL_n, dropE_n]
  refine aw_seq (aw_region ?_)
  simp (config := {maxSteps := 10000000}) (disch := first | exact okYes (by kernel_rfl) | omega) only [thenQ, Int.reduceNeg, List.length, Nat.zero_add, Nat.reduceAdd, Nat.reduceMul, ARun_none, AOpRun, aexec, FSt.ev, St.F, eget_c, Nat.reduceBEq, ↓eget_h, cond_false, hget_c, beq_self_eq_true, hget_n, cond_true, Nat.reduceLeDiff, ↓reduceIte, List.drop, List.take, AGo_ok, St.app, putO, eput_c, eput_n, hups, List.map, Option.isSome, Bool.false_eq_true, Option.map, fillD, D.isBot, D.cells, ne_eq, not_true_eq_false, Nat.reduceGT, or_self, splice, List.nil_append, List.append_nil, hput_c, hput_n]
  refine acall nt [56] ⟨.refl _, .refl _, vec_ints [x] (by simp) rfl rfl, trivial⟩ (.inr (.tup _ (by intro d hd; simp at hd; rcases hd with rfl | rfl <;> exact .val _))) (by intro g hg; simp at hg; subst hg; exact ⟨_, rfl⟩) (by kernel_rfl) ?_
  simp (config := {maxSteps := 10000000}) (disch := first | exact okYes (by kernel_rfl) | omega) only [Int.reduceNeg, Nat.reduceAdd, St.app, putO, dI, eput_c, Nat.reduceBEq, eput_n, cond_false, hups, ARun_none, AOpRun, aexec, FSt.ev, St.F, eget_c, ↓eget_h, AGo_ok, List.map, opt1, Option.map, List.getElem?_cons_zero, List.getElem?_cons_succ, beq_self_eq_true, cond_true, ARun_nil, dropE_c, inL_c, inL_n, dropE_n]
  (have hg : (987654321 : Nat) - 987654321 = 0 := rfl; have hr := hg; repeat' (first | refine aw_seq ?_ | (refine aw_skip ?_; repeat' (first | with_reducible refine thenQ_n ?_ | with_reducible refine blockQ_n ?_ | with_reducible refine thenQ_e ?_ | with_reducible refine blockQ_t ?_ | with_reducible refine blockQ_f (by decide) ?_)) | (refine aw_exit ?_; repeat' (first | with_reducible refine thenQ_n ?_ | with_reducible refine blockQ_n ?_ | with_reducible refine thenQ_e ?_ | with_reducible refine blockQ_t ?_ | with_reducible refine blockQ_f (by decide) ?_)) | refine aw_ret ?_ | refine aw_block ?_ | refine aw_condT rfl ?_ | refine aw_condF rfl ?_ | ((first | refine aw_hide fun K hK => aw_region ?_ | refine ago_if (by omega) ?_ | skip); simp (config := {maxSteps := 10000000}) (disch := first | exact okYes (by kernel_rfl) | omega) only [List.length, Nat.zero_add, Nat.reduceAdd, Nat.reduceMul, ARun_none, AOpRun, aexec, FSt.ev, St.F, eget_c, Nat.reduceBEq, ↓eget_h, cond_false, AGo_ok, St.app, putO, eput_c, eput_n, hups, List.map, isSh, Bool.false_eq_true, ↓reduceIte, Option.map, abin, h1, ARun_nil, dropE_c, inL_c, inL_n, beq_self_eq_true, cond_true, dropE_n, hget_c, ↓hget_h, D.isBot, D.cells, Nat.reduceLeDiff, List.all, D.leaf, Bool.and_true, and_self, splice, List.take, List.nil_append, List.drop, List.append_nil, hput_c, hput_n, thenQ]) | (subst hK; repeat' (first | with_reducible refine thenQ_n ?_ | with_reducible refine blockQ_n ?_ | with_reducible refine thenQ_e ?_ | with_reducible refine blockQ_t ?_ | with_reducible refine blockQ_f (by decide) ?_))))
  (refine end_to [] [] (by first | exact .inl rfl | exact .inr rfl) rfl (by kernel_rfl) (by kernel_rfl) (by kernel_rfl) ?_ ?_ <;> repeat' (first | exact trivial | exact vr_val _ | apply vr_tup | apply And.intro))
noncomputable def peakR (l : Lay) (frs : List (List Int)) (x : Int) : Int × Int × Int := if wfE l frs [x] = 0 then (if (pkS l (fAt l x.toNat) frs frs.length).1 < 0 then (0, 0, 3) else ((pkS l (fAt l x.toNat) frs frs.length).1, (pkS l (fAt l x.toNat) frs frs.length).2, 0)) else (0, 0, wfE l frs [x])
theorem peak_ac (l : Lay) (frs : List (List Int)) (x : Int) (hl : LayIn l) (hf : FrIn frs) : AC Try.prog 20 [layD l, .list (rows frs), dI x] [] [] (.tup [dI (peakR l frs x).1, dI (peakR l frs x).2.1, dI (peakR l frs x).2.2]) := by
  unfold peakR
  by_cases h : wfE l frs [x] = 0
  · obtain ⟨h1, h2, _, k, rfl, hk⟩ := wfE_ok h
    have := peak_ok l frs k hl h1 h2 hf hk
    rw [if_pos h, Int.toNat_natCast]
    by_cases hp : (pkS l (fAt l k) frs frs.length).1 < 0
    · rw [if_pos hp] at this ⊢; exact this
    · rw [if_neg hp] at this ⊢; exact this
  · rw [if_neg h]; exact peak_err l frs x hl h hf
end Go.Proofs.Ytdcodicoclecnaa
/- The document of record: a frame's subframe, a sample. No conditions. -/
set_option linter.unusedSimpArgs false
set_option linter.unusedVariables false
namespace Go.Proofs.Ytdcodicoclecnaa
open Go Go.RowKit Lift

theorem idx4_at (l : Lay) (x : Int) (k : Nat) (hk : k < 4) (hn : ∀ j, j < k → x ≠ (sync l)[j]?.getD 0) (he : x = (sync l)[k]?.getD 0) : idx4 l x = k := by
  rw [← idx_sync]
  exact idx_at (l := sync l) (by simpa [sync] using hk) (fun j hj h => hn j hj h.symm) he.symm
end Go.Proofs.Ytdcodicoclecnaa
/- A packed frame, in numbers. No conditions. -/
namespace Go.Proofs.Ytdcodicoclecnaa
open Go Go.RowKit Lift

theorem packE_zero {l : Lay} {s : Int} {r : List Int} (h : packE l s r = 0) : LayOk l ∧ 0 ≤ s ∧ s ≤ 3 ∧ r.length = l.fl.length ∧ pkAll s l r l.fl.length := by
  by_cases h1 : LayOk l
  · by_cases h2 : 0 ≤ s ∧ s ≤ 3 ∧ r.length = l.fl.length ∧ pkAll s l r l.fl.length
    · exact ⟨h1, h2⟩
    · rw [packE_no h1 h2] at h; cases h
  · rw [packE_lay h1] at h; cases h
theorem pk_sync (l : Lay) (n : Nat) (r : List Int) (k : Nat) (h : 0 < l.words.toNat) : (pk n l r k)[0]?.getD 0 = (sync l)[n]?.getD 0 := by simp [pk, h]
theorem pk_subF {l : Lay} {n : Nat} (h1 : LayOk l) (hn : n < 4) (r : List Int) : subF l (pk n l r l.fl.length) = n := by
  have w1 := h1.w1
  have hl := pk_len n l r l.fl.length
  have hok : frOk l (pk n l r l.fl.length) := by
    refine ⟨by rw [hl]; omega, List.all_eq_true.2 fun x hx => ?_⟩
    obtain ⟨w, hw, rfl⟩ := List.getElem_of_mem hx
    have hw' : w < l.words.toNat := by omega
    have e : (pk n l r l.fl.length)[w] = (pk n l r l.fl.length)[w]?.getD 0 := by simp [hw]
    rw [e]
    by_cases h0 : w = 0
    · subst h0
      rw [pk_sync l n r _ hw']
      have := h1.sy n hn
      unfold wOk
      simp only [Bool.and_eq_true, decide_eq_true_eq]
      exact this
    · rw [pk_get _ _ _ _ w hw' h0]
      have := pkW_lt n l r w (fun j hj => h1.fo j hj) l.fl.length (Nat.le_refl _)
      unfold wOk
      simp only [Bool.and_eq_true, decide_eq_true_eq]
      omega
  unfold subF
  rw [if_pos hok, pk_sync l n r _ (by omega)]
  exact idx4_at l _ n hn (fun j hj => h1.sd n hn j hj) rfl
theorem frm_one (fr : List Int) : frm [fr] 0 = fr := rfl
theorem gdI_pk {l : Lay} {n : Nat} (h1 : LayOk l) (hn : n < 4) (r : List Int) : goodR l [pk n l r l.fl.length] = [0] := by
  unfold goodR
  rw [if_pos (tpE_ok h1 (by simp))]
  show gdI l _ 1 = [0]
  have h0 : gdI l [pk n l r l.fl.length] 0 = [] := rfl
  rw [gdI_in l _ 0 (by rw [frm_one, pk_subF h1 hn]; omega), h0]
  rfl
theorem smp_pk {l : Lay} {n : Nat} (h1 : LayOk l) (hn : n < 4) {r : List Int} (hp : pkAll n l r l.fl.length) {i : Nat} (hi : i < l.fl.length) : smp l (fAt l i) (pk n l r l.fl.length) = if inSub (fAt l i) n then some (valI (fAt l i) (rAt r i)) else none := by
  have hs := pk_subF h1 hn r
  have hf := fAt_ok h1 hi
  have wd1 := hf.w1
  have wd2 := hf.w2
  by_cases hin : inSub (fAt l i) n
  · rw [if_pos hin]
    unfold smp
    rw [hs, if_pos ⟨by omega, hin⟩]
    have hpk := hp i hi
    unfold packOk at hpk
    rw [if_pos hin] at hpk
    have gp := pk_get n l r l.fl.length (fAt l i).word.toNat (by omega) (by omega)
    rw [Int.toNat_of_nonneg (by omega)] at gp
    rw [gp, Int.toNat_natCast, pk_raw h1 hn r hi hin hpk]
  · rw [if_neg hin]
    unfold smp
    rw [hs, if_neg fun h => hin h.2]
theorem readR_pk {l : Lay} {n : Nat} (h1 : LayOk l) (hn : n < 4) {r : List Int} (hp : pkAll n l r l.fl.length) {i : Nat} (hi : i < l.fl.length) : wfE l [pk n l r l.fl.length] [(i : Int)] = 0 ∧ readR l [pk n l r l.fl.length] i = if inSub (fAt l i) n then [(0, valI (fAt l i) (rAt r i))] else [] := by
  have h0 : wfE l [pk n l r l.fl.length] [(i : Int)] = 0 := by
    unfold wfE
    rw [if_pos (tpE_ok h1 (by simp)), if_pos (by rw [hasA_one]; exact wI_y (by omega) (by omega))]
  refine ⟨h0, ?_⟩
  unfold readR
  rw [if_pos h0, Int.toNat_natCast]
  show smps l (fAt l i) [_] 1 = _
  rw [smps_succ, frm_one, smp_pk h1 hn hp hi]
  by_cases hin : inSub (fAt l i) n
  · rw [if_pos hin, if_pos hin]; rfl
  · rw [if_neg hin, if_neg hin]; rfl
theorem canF_bd {w : Int} {f : Fl} (h : FOk w f) {x : Int} (hc : canF f x) : -4096 ≤ x ∧ x ≤ 4096 := by
  obtain ⟨z1, z2, z3, z4, z5, z6, z7⟩ := size_pow h
  have e1 : ((2 ^ f.size.toNat : Nat) : Int) = (2 : Int) ^ f.size.toNat := by simp
  have e2 : ((2 ^ (f.size.toNat - 1) : Nat) : Int) = (2 : Int) ^ (f.size.toNat - 1) := by simp
  unfold canF at hc
  split at hc <;> omega
end Go.Proofs.Ytdcodicoclecnaa
/- A safety case, in numbers. No conditions. -/
namespace Go.Proofs.Ytdcodicoclecnaa
open Go.RowKit Lift

/-- a claim -/
structure Clm where
  needs : List Int
  proofs : List Int
  any : Bool
/-- a case -/
structure Cas where
  cl : List Clm
  pf : List (Int × Int)
def clC (x : Clm) : List D := [.list (ints x.needs), .list (ints x.proofs), dB x.any]
def cls (l : List Clm) : List (List D) := l.map clC
def cl0 : Clm := ⟨[], [], false⟩
theorem cls_len (l : List Clm) : (cls l).length = l.length := by simp [cls]
theorem cls_all (l : List Clm) : (cls l).all (fun x => x.length == 3) = true := by simp [cls, clC]
theorem cls_three (l : List Clm) : ∀ e ∈ cls l, e.length = 3 := by simp [cls, clC]
theorem cls_gd (l : List Clm) (k : Nat) (h : k < l.length) : (cls l)[k]? = some (clC (l[k]?.getD cl0)) := by simp [cls, h]
/-- strictly ascending, from 0 to below a limit -/
def Asc (l : List Int) (b : Int) : Prop := ∀ i, i < l.length → 0 ≤ l[i]?.getD 0 ∧ l[i]?.getD 0 < b ∧ (0 < i → l[i - 1]?.getD 0 < l[i]?.getD 0)
def pfOk (a : Int × Int) : Prop := 0 ≤ a.1 ∧ a.1 ≤ a.2 ∧ a.2 ≤ 2000
instance (a : Int × Int) : Decidable (pfOk a) := inferInstanceAs (Decidable (_ ∧ _))
def clAt (c : Cas) (i : Nat) : Clm := c.cl[i]?.getD cl0
def pfAt (c : Cas) (i : Nat) : Int × Int := c.pf[i]?.getD (0, 0)
structure CasOk (c : Cas) : Prop where
  n1 : c.cl.length ≤ 16
  n2 : c.pf.length ≤ 12
  asc : ∀ i, i < c.cl.length → Asc (clAt c i).needs i ∧ Asc (clAt c i).proofs c.pf.length
  pf : ∀ i, i < c.pf.length → pfOk (pfAt c i)
open Classical in
noncomputable def casE (c : Cas) (E : Int) : Int := if CasOk c then 0 else E
theorem casE_ok {c : Cas} {E : Int} (h : CasOk c) : casE c E = 0 := if_pos h
theorem casE_no {c : Cas} {E : Int} (h : ¬ CasOk c) : casE c E = E := if_neg h
noncomputable def clmE (c : Cas) (claim tick E A : Int) : Int := if casE c E ≠ 0 then casE c E else if 0 ≤ claim ∧ claim ≤ (c.cl.length : Int) - 1 ∧ 0 ≤ tick ∧ tick ≤ 2000 then 0 else A
/-- the proofs that count in a tick -/
def cntT (c : Cas) (tick : Int) (i : Nat) : Bool := decide (i < c.pf.length) && (decide ((pfAt c i).1 ≤ tick) && decide (tick ≤ (pfAt c i).2))
/-- whether a claim holds, those before it known -/
def clV (x : Clm) (h : List Bool) (cn : Nat → Bool) : Bool :=
  if x.any = true then x.needs.any (fun n => h[n.toNat]?.getD false) || x.proofs.any (fun n => cn n.toNat)
  else x.needs.all (fun n => h[n.toNat]?.getD false) && x.proofs.all (fun n => cn n.toNat)
def hlK (c : Cas) (cn : Nat → Bool) : Nat → List Bool
  | 0 => []
  | i + 1 => hlK c cn i ++ [clV (clAt c i) (hlK c cn i) cn]
theorem hlK_len (c : Cas) (cn : Nat → Bool) : ∀ i, (hlK c cn i).length = i
  | 0 => rfl
  | i + 1 => by simp [hlK, hlK_len c cn i]
/-- whether a claim holds with proofs -/
def holdC (c : Cas) (cl : Nat) (cn : Nat → Bool) : Bool := (hlK c cn (cl + 1))[cl]?.getD false
/-- the list that is filled, claim by claim -/
def hlF (c : Cas) (cn : Nat → Bool) (n i : Nat) : List Bool := (List.range n).map fun j => if j < i then (hlK c cn i)[j]?.getD false else false
theorem hlF_len (c : Cas) (cn : Nat → Bool) (n i : Nat) : (hlF c cn n i).length = n := by simp [hlF]
theorem hlF_get (c : Cas) (cn : Nat → Bool) (n i j : Nat) (h : j < i) (hn : j < n) : (hlF c cn n i)[j]?.getD false = (hlK c cn i)[j]?.getD false := by simp [hlF, hn, h]
theorem hlF_zero (c : Cas) (cn : Nat → Bool) (n : Nat) : hlF c cn n 0 = List.replicate n false := by
  unfold hlF
  refine List.ext_getElem (by simp) fun i h1 h2 => ?_
  simp
theorem hlF_succ (c : Cas) (cn : Nat → Bool) (n i : Nat) (h : i < n) : hlF c cn n (i + 1) = (hlF c cn n i).set i (clV (clAt c i) (hlK c cn i) cn) := by
  unfold hlF
  refine List.ext_getElem (by simp) fun j h1 h2 => ?_
  rw [List.getElem_set]
  simp only [List.getElem_map, List.getElem_range]
  have hl := hlK_len c cn i
  by_cases e : i = j
  · subst e
    rw [if_pos rfl, if_pos (by omega), hlK, List.getElem?_append_right (by omega)]
    simp [hl]
  · rw [if_neg e]
    by_cases hj : j < i
    · rw [if_pos (by omega), if_pos hj, hlK, List.getElem?_append_left (by omega)]
    · rw [if_neg (by omega), if_neg hj]
/-- only the proofs that are named count -/
theorem asc_lt {l : List Int} {b : Int} (h : Asc l b) {n : Int} (hn : n ∈ l) : 0 ≤ n ∧ n < b := by
  obtain ⟨i, hi, rfl⟩ := List.getElem_of_mem hn
  have := h i hi
  simp [hi] at this
  exact ⟨this.1, this.2.1⟩
end Go.Proofs.Ytdcodicoclecnaa
/- The functions' bodies, translated. Written by a program; no conditions. -/
namespace Go.Proofs.Ytdcodicoclecnaa
open Go.RowKit Lift

/-- record_ascends -/
def crecord_ascends : ACode :=
  (.seq
   (.region false [⟨some 4, .mv (.const (.bool false)), none, []⟩] [])
  (.seq
   (.region false [⟨some 5, .mv (.const (.int .i64 (-1))), none, []⟩] [])
  (.seq
   (.seq
    (.region false [⟨some 8, .mv (.tmp 0), none, []⟩,
      ⟨some 9, .len_ (.tmp 8), none, []⟩,
      ⟨some 10, .mv (.const (.int .i64 0)), none, []⟩] [])
   (.block 0
     (.loop
       (.seq
        (.region false [⟨some 11, .bin .lss (.tmp 10) (.tmp 9), none, []⟩] [])
       (.seq
        (.cond (.tmp 11)
          .skip
          (.exit 0))
       (.seq
        (.block 1
          (.seq
           (.region false [⟨some 12, .iadS 1 (.tmp 8) (.tmp 10), none, []⟩,
             ⟨some 13, .load1 (.tmp 12), none, []⟩,
             ⟨some 7, .mv (.tmp 13), none, []⟩] [12, 13])
          (.seq
           (.seq
            (.region false [⟨some 14, .mv (.tmp 7), none, []⟩,
              ⟨some 15, .mv (.tmp 5), none, []⟩,
              ⟨some 16, .bin .leq (.tmp 14) (.tmp 15), none, []⟩,
              ⟨some 17, .mv (.tmp 16), none, []⟩,
              ⟨some 18, .mv (.tmp 7), (some (some 17, false)), []⟩,
              ⟨some 19, .mv (.tmp 1), (some (some 17, false)), []⟩,
              ⟨some 20, .bin .geq (.tmp 18) (.tmp 19), (some (some 17, false)), []⟩,
              ⟨some 21, .pick (.tmp 17) (.const (.bool true)) (.tmp 20), none, []⟩] [14, 15, 16, 17, 18, 19, 20])
           (.cond (.tmp 21)
             (.seq
              (.region false [⟨some 4, .mv (.const (.bool false)), none, []⟩] [])
             .ret)
             .skip))
          (.region false [⟨some 22, .mv (.tmp 7), none, []⟩,
            ⟨some 5, .mv (.tmp 22), none, []⟩] [22]))))
       (.region false [⟨some 23, .bin .add (.tmp 10) (.const (.int .i64 1)), none, []⟩,
         ⟨some 10, .mv (.tmp 23), none, []⟩] [23])))))))
  (.seq
   (.region false [⟨some 4, .mv (.const (.bool true)), none, []⟩] [])
  .ret))))
set_option maxRecDepth 100000 in
theorem krecord_ascends : IsCode Try.prog 145 24 crecord_ascends [.tmp 4] :=
  ⟨Try.f145, _, [21, 11, 0, 10, 9, 8, 7, 5, 1, 4], Try.func145, rfl, by decide, rfl, by kernel_rfl, by kernel_rfl⟩
/-- record_proof -/
def crecord_proof : ACode :=
  (.seq
   (.region false [⟨some 1, .box (.tmp 0), none, []⟩,
     ⟨some 2, .mv (.const (.bool false)), none, []⟩] [])
  (.seq
   (.region false [⟨some 3, .loadN 2 (.tmp 1), none, []⟩,
     ⟨some 4, .buildSl 2 1 [(.val (.int .i64 0)), (.val (.int .i64 0))] [(0, 2, (.tmp 3))], none, []⟩,
     ⟨some 5, .call (.func 159) [(.tmp 4)], none, []⟩,
     ⟨some 6, .bin .eql (.tmp 5) (.const (.int .i64 0)), none, []⟩,
     ⟨some 7, .mv (.tmp 6), none, []⟩,
     ⟨some 8, .fad 0 (.tmp 1), (some (some 7, true)), []⟩,
     ⟨some 9, .load1 (.tmp 8), (some (some 7, true)), []⟩,
     ⟨some 10, .bin .geq (.tmp 9) (.const (.int .i64 0)), (some (some 7, true)), []⟩,
     ⟨some 11, .pick (.tmp 7) (.tmp 10) (.const (.bool false)), none, []⟩,
     ⟨some 12, .mv (.tmp 11), none, []⟩,
     ⟨some 13, .fad 1 (.tmp 1), (some (some 12, true)), []⟩,
     ⟨some 14, .load1 (.tmp 13), (some (some 12, true)), []⟩,
     ⟨some 15, .bin .leq (.tmp 14) (.const (.int .i64 2000)), (some (some 12, true)), []⟩,
     ⟨some 16, .pick (.tmp 12) (.tmp 15) (.const (.bool false)), none, []⟩,
     ⟨some 2, .mv (.tmp 16), none, []⟩] [3, 4, 5, 6, 7, 8, 9, 10, 11, 12, 13, 14, 15, 16])
  .ret))
set_option maxRecDepth 100000 in
theorem krecord_proof : IsCode Try.prog 148 17 crecord_proof [.tmp 2] :=
  ⟨Try.f148, _, [0, 1, 2], Try.func148, rfl, by decide, rfl, by kernel_rfl, by kernel_rfl⟩
/-- record_valid -/
def crecord_valid : ACode :=
  (.seq
   (.region false [⟨some 1, .box (.tmp 0), none, []⟩,
     ⟨some 2, .mv (.const (.bool false)), none, []⟩] [])
  (.seq
   (.seq
    (.region false [⟨some 5, .fad 0 (.tmp 1), none, []⟩,
      ⟨some 6, .load1 (.tmp 5), none, []⟩,
      ⟨some 7, .len_ (.tmp 6), none, []⟩,
      ⟨some 8, .bin .gtr (.tmp 7) (.const (.int .i64 16)), none, []⟩,
      ⟨some 9, .mv (.tmp 8), none, []⟩,
      ⟨some 10, .fad 1 (.tmp 1), (some (some 9, false)), []⟩,
      ⟨some 11, .load1 (.tmp 10), (some (some 9, false)), []⟩,
      ⟨some 12, .len_ (.tmp 11), (some (some 9, false)), []⟩,
      ⟨some 13, .bin .gtr (.tmp 12) (.const (.int .i64 12)), (some (some 9, false)), []⟩,
      ⟨some 14, .pick (.tmp 9) (.const (.bool true)) (.tmp 13), none, []⟩] [5, 6, 7, 8, 9, 10, 11, 12, 13])
   (.cond (.tmp 14)
     (.seq
      (.region false [⟨some 2, .mv (.const (.bool false)), none, []⟩] [])
     .ret)
     .skip))
  (.seq
   (.seq
    (.region false [⟨some 15, .fad 0 (.tmp 1), none, []⟩,
      ⟨some 16, .load1 (.tmp 15), none, []⟩,
      ⟨some 17, .len_ (.tmp 16), none, []⟩,
      ⟨some 18, .mv (.const (.int .i64 0)), none, []⟩] [15])
   (.block 0
     (.loop
       (.seq
        (.region false [⟨some 19, .bin .lss (.tmp 18) (.tmp 17), none, []⟩] [])
       (.seq
        (.cond (.tmp 19)
          .skip
          (.exit 0))
       (.seq
        (.block 1
          (.seq
           (.region false [⟨some 20, .mv (.tmp 18), none, []⟩,
             ⟨some 21, .iadS 3 (.tmp 16) (.tmp 18), none, []⟩,
             ⟨some 22, .loadN 3 (.tmp 21), none, []⟩,
             ⟨some 4, .mem [(.val (.slice none 0 0)), (.val (.slice none 0 0)), (.val (.bool false))], none, []⟩,
             ⟨some 3, .mv (.tmp 20), none, []⟩,
             ⟨none, .store 3 (.tmp 4) (.tmp 22), none, []⟩] [20, 21, 22])
          (.seq
           (.region false [⟨some 23, .fad 0 (.tmp 4), none, []⟩,
             ⟨some 24, .load1 (.tmp 23), none, []⟩,
             ⟨some 25, .mv (.tmp 3), none, []⟩,
             ⟨some 26, .call (.func 145) [(.tmp 24), (.tmp 25)], none, []⟩,
             ⟨some 27, .un .not (.tmp 26), none, []⟩,
             ⟨some 28, .mv (.tmp 27), none, []⟩,
             ⟨some 29, .fad 1 (.tmp 4), (some (some 28, false)), []⟩,
             ⟨some 30, .load1 (.tmp 29), (some (some 28, false)), []⟩,
             ⟨some 31, .fad 1 (.tmp 1), (some (some 28, false)), []⟩,
             ⟨some 32, .load1 (.tmp 31), (some (some 28, false)), []⟩,
             ⟨some 33, .len_ (.tmp 32), (some (some 28, false)), []⟩,
             ⟨some 34, .call (.func 145) [(.tmp 30), (.tmp 33)], (some (some 28, false)), []⟩,
             ⟨some 35, .un .not (.tmp 34), (some (some 28, false)), []⟩,
             ⟨some 36, .pick (.tmp 28) (.const (.bool true)) (.tmp 35), none, []⟩] [23, 24, 25, 26, 27, 28, 29, 30, 31, 32, 33, 34, 35])
          (.cond (.tmp 36)
            (.seq
             (.region false [⟨some 2, .mv (.const (.bool false)), none, []⟩] [])
            .ret)
            .skip))))
       (.region false [⟨some 37, .bin .add (.tmp 18) (.const (.int .i64 1)), none, []⟩,
         ⟨some 18, .mv (.tmp 37), none, []⟩] [37])))))))
  (.seq
   (.region false [⟨some 38, .fad 1 (.tmp 1), none, []⟩,
     ⟨some 39, .load1 (.tmp 38), none, []⟩,
     ⟨some 40, .call (.func 146) [(.tmp 39), (.func 147)], none, []⟩,
     ⟨some 41, .un .not (.tmp 40), none, []⟩,
     ⟨some 2, .mv (.tmp 41), none, []⟩] [38, 39, 40, 41])
  .ret))))
set_option maxRecDepth 100000 in
theorem krecord_valid : IsCode Try.prog 118 42 crecord_valid [.tmp 2] :=
  ⟨Try.f118, _, [36, 19, 14, 0, 1, 18, 17, 16, 4, 3, 2], Try.func118, rfl, by decide, rfl, by kernel_rfl, by kernel_rfl⟩
/-- record_valid_S1 -/
def crecord_valid_S1 : ACode :=
  (.seq
   (.region false [⟨some 1, .box (.tmp 0), none, []⟩,
     ⟨some 2, .mv (.const (.bool false)), none, []⟩] [])
  (.seq
   (.region false [⟨some 3, .loadN 2 (.tmp 1), none, []⟩,
     ⟨some 4, .call (.func 148) [(.tmp 3)], none, []⟩,
     ⟨some 5, .un .not (.tmp 4), none, []⟩,
     ⟨some 2, .mv (.tmp 5), none, []⟩] [3, 4, 5])
  .ret))
set_option maxRecDepth 100000 in
theorem krecord_valid_S1 : IsCode Try.prog 147 6 crecord_valid_S1 [.tmp 2] :=
  ⟨Try.f147, _, [0, 1, 2], Try.func147, rfl, by decide, rfl, by kernel_rfl, by kernel_rfl⟩
/-- record_check -/
def crecord_check : ACode :=
  (.seq
   (.region false [⟨some 3, .box (.tmp 0), none, []⟩,
     ⟨some 6, .mv (.const (.int .i64 0)), none, []⟩] [])
  (.seq
   (.block 0
     (.seq
      (.region false [⟨some 8, .loadN 2 (.tmp 3), none, []⟩,
        ⟨some 9, .call (.func 118) [(.tmp 8)], none, []⟩,
        ⟨some 10, .un .not (.tmp 9), none, []⟩,
        ⟨some 7, .mv (.tmp 10), none, []⟩] [8, 9, 10])
     (.cond (.tmp 7)
       (.seq
        (.region false [⟨some 6, .mv (.const (.int .i64 122)), none, []⟩] [])
       .ret)
       (.seq
        (.seq
         (.region false [⟨some 12, .mv (.tmp 1), none, []⟩,
           ⟨some 13, .fad 0 (.tmp 3), none, []⟩,
           ⟨some 14, .load1 (.tmp 13), none, []⟩,
           ⟨some 15, .len_ (.tmp 14), none, []⟩,
           ⟨some 16, .bin .sub (.tmp 15) (.const (.int .i64 1)), none, []⟩,
           ⟨some 17, .call (.func 74) [(.tmp 12), (.const (.int .i64 0)), (.tmp 16)], none, []⟩,
           ⟨some 18, .un .not (.tmp 17), none, []⟩,
           ⟨some 11, .mv (.tmp 18), none, []⟩] [12, 13, 14, 15, 16, 17, 18])
        (.cond (.tmp 11)
          .skip
          (.region false [⟨some 19, .mv (.tmp 2), none, []⟩,
            ⟨some 20, .call (.func 74) [(.tmp 19), (.const (.int .i64 0)), (.const (.int .i64 2000))], none, []⟩,
            ⟨some 21, .un .not (.tmp 20), none, []⟩,
            ⟨some 11, .mv (.tmp 21), none, []⟩] [19, 20, 21])))
       (.cond (.tmp 11)
         (.seq
          (.region false [⟨some 6, .mv (.const (.int .i64 1)), none, []⟩] [])
         .ret)
         .skip)))))
  (.seq
   (.region false [⟨some 6, .mv (.const (.int .i64 0)), none, []⟩] [])
  .ret)))
set_option maxRecDepth 100000 in
theorem krecord_check : IsCode Try.prog 82 22 crecord_check [.tmp 6] :=
  ⟨Try.f82, _, [11, 7, 0, 3, 1, 2, 6], Try.func82, rfl, by decide, rfl, by kernel_rfl, by kernel_rfl⟩
/-- record_proofs_has -/
def crecord_proofs_has : ACode :=
  (.seq
   (.region false [⟨some 4, .mv (.const (.bool false)), none, []⟩] [])
  (.seq
   (.region false [⟨some 5, .mv (.tmp 0), none, []⟩,
     ⟨some 6, .mv (.tmp 1), none, []⟩,
     ⟨some 7, .bin .shr (.tmp 5) (.tmp 6), none, []⟩,
     ⟨some 8, .bin .and (.tmp 7) (.const (.int .i64 1)), none, []⟩,
     ⟨some 9, .bin .eql (.tmp 8) (.const (.int .i64 1)), none, []⟩,
     ⟨some 4, .mv (.tmp 9), none, []⟩] [5, 6, 7, 8, 9])
  .ret))
set_option maxRecDepth 100000 in
theorem krecord_proofs_has : IsCode Try.prog 89 10 crecord_proofs_has [.tmp 4] :=
  ⟨Try.f89, _, [0, 1, 4], Try.func89, rfl, by decide, rfl, by kernel_rfl, by kernel_rfl⟩
/-- record_proofs_with -/
def crecord_proofs_with : ACode :=
  (.seq
   (.region false [⟨some 4, .mv (.const (.int .i64 0)), none, []⟩] [])
  (.seq
   (.region false [⟨some 5, .mv (.tmp 0), none, []⟩,
     ⟨some 6, .mv (.tmp 1), none, []⟩,
     ⟨some 7, .bin .shl (.const (.int .i64 1)) (.tmp 6), none, []⟩,
     ⟨some 8, .bin .or (.tmp 5) (.tmp 7), none, []⟩,
     ⟨some 4, .mv (.tmp 8), none, []⟩] [5, 6, 7, 8])
  .ret))
set_option maxRecDepth 100000 in
theorem krecord_proofs_with : IsCode Try.prog 90 9 crecord_proofs_with [.tmp 4] :=
  ⟨Try.f90, _, [0, 1, 4], Try.func90, rfl, by decide, rfl, by kernel_rfl, by kernel_rfl⟩
/-- record_counting -/
def crecord_counting : ACode :=
  (.seq
   (.region false [⟨some 2, .box (.tmp 0), none, []⟩,
     ⟨some 4, .mv (.const (.int .i64 0)), none, []⟩] [])
  (.seq
   (.seq
    (.region false [⟨some 7, .fad 1 (.tmp 2), none, []⟩,
      ⟨some 8, .load1 (.tmp 7), none, []⟩,
      ⟨some 9, .len_ (.tmp 8), none, []⟩,
      ⟨some 10, .mv (.const (.int .i64 0)), none, []⟩] [7])
   (.block 0
     (.loop
       (.seq
        (.region false [⟨some 11, .bin .lss (.tmp 10) (.tmp 9), none, []⟩] [])
       (.seq
        (.cond (.tmp 11)
          .skip
          (.exit 0))
       (.seq
        (.block 1
          (.seq
           (.region false [⟨some 12, .mv (.tmp 10), none, []⟩,
             ⟨some 13, .iadS 2 (.tmp 8) (.tmp 10), none, []⟩,
             ⟨some 14, .loadN 2 (.tmp 13), none, []⟩,
             ⟨some 6, .mem [(.val (.int .i64 0)), (.val (.int .i64 0))], none, []⟩,
             ⟨some 5, .mv (.tmp 12), none, []⟩,
             ⟨none, .store 2 (.tmp 6) (.tmp 14), none, []⟩] [12, 13, 14])
          (.seq
           (.region false [⟨some 15, .mv (.tmp 1), none, []⟩,
             ⟨some 16, .fad 0 (.tmp 6), none, []⟩,
             ⟨some 17, .load1 (.tmp 16), none, []⟩,
             ⟨some 18, .fad 1 (.tmp 6), none, []⟩,
             ⟨some 19, .load1 (.tmp 18), none, []⟩,
             ⟨some 20, .call (.func 74) [(.tmp 15), (.tmp 17), (.tmp 19)], none, []⟩] [15, 16, 17, 18, 19])
          (.cond (.tmp 20)
            (.region false [⟨some 21, .mv (.tmp 4), none, []⟩,
              ⟨some 22, .mv (.tmp 5), none, []⟩,
              ⟨some 23, .call (.func 90) [(.tmp 21), (.tmp 22)], none, []⟩,
              ⟨some 4, .mv (.tmp 23), none, []⟩] [21, 22, 23])
            .skip))))
       (.region false [⟨some 24, .bin .add (.tmp 10) (.const (.int .i64 1)), none, []⟩,
         ⟨some 10, .mv (.tmp 24), none, []⟩] [24])))))))
  (.seq
   (.region false [⟨some 25, .mv (.tmp 4), none, []⟩,
     ⟨some 4, .mv (.tmp 25), none, []⟩] [25])
  .ret)))
set_option maxRecDepth 100000 in
theorem krecord_counting : IsCode Try.prog 84 26 crecord_counting [.tmp 4] :=
  ⟨Try.f84, _, [20, 11, 0, 2, 10, 9, 8, 1, 6, 4, 5], Try.func84, rfl, by decide, rfl, by kernel_rfl, by kernel_rfl⟩
/-- record_holds -/
def crecord_holds : ACode :=
  (.seq
   (.region false [⟨some 3, .box (.tmp 0), none, []⟩,
     ⟨some 6, .mv (.const (.bool false)), none, []⟩] [])
  (.seq
   (.region false [⟨some 11, .mv (.tmp 1), none, []⟩,
     ⟨some 12, .bin .add (.tmp 11) (.const (.int .i64 1)), none, []⟩,
     ⟨some 13, .mksl 1 1 [(.val (.bool false))] (.tmp 12) (.tmp 12), none, []⟩,
     ⟨some 7, .mem [(.val (.slice none 0 0))], none, []⟩,
     ⟨none, .store 1 (.tmp 7) (.tmp 13), none, []⟩] [11, 12, 13])
  (.seq
   (.seq
    (.region false [⟨some 14, .fad 0 (.tmp 3), none, []⟩,
      ⟨some 15, .load1 (.tmp 14), none, []⟩,
      ⟨some 16, .mv (.tmp 1), none, []⟩,
      ⟨some 17, .bin .add (.tmp 16) (.const (.int .i64 1)), none, []⟩,
      ⟨some 18, .slS 3 (.tmp 15) none (some (.tmp 17)), none, []⟩,
      ⟨some 19, .len_ (.tmp 18), none, []⟩,
      ⟨some 20, .mv (.const (.int .i64 0)), none, []⟩] [14, 15, 16, 17])
   (.block 0
     (.loop
       (.seq
        (.region false [⟨some 21, .bin .lss (.tmp 20) (.tmp 19), none, []⟩] [])
       (.seq
        (.cond (.tmp 21)
          .skip
          (.exit 0))
       (.seq
        (.block 1
          (.seq
           (.region false [⟨some 22, .mv (.tmp 20), none, []⟩,
             ⟨some 23, .iadS 3 (.tmp 18) (.tmp 20), none, []⟩,
             ⟨some 24, .loadN 3 (.tmp 23), none, []⟩,
             ⟨some 9, .mem [(.val (.slice none 0 0)), (.val (.slice none 0 0)), (.val (.bool false))], none, []⟩,
             ⟨some 8, .mv (.tmp 22), none, []⟩,
             ⟨none, .store 3 (.tmp 9) (.tmp 24), none, []⟩] [22, 23, 24])
          (.seq
           (.region true [⟨some 25, .fad 0 (.tmp 9), none, []⟩,
             ⟨some 26, .load1 (.tmp 25), none, [0]⟩,
             ⟨some 27, .mkfn 120 [] [(.tmp 7)], none, []⟩,
             ⟨some 28, .call (.func 119) [(.tmp 26), (.tmp 27)], none, [1, 0, 2]⟩,
             ⟨some 29, .fad 1 (.tmp 9), none, []⟩,
             ⟨some 30, .load1 (.tmp 29), none, [4]⟩,
             ⟨some 31, .mv (.tmp 2), none, []⟩,
             ⟨some 32, .mkfn 89 [(.tmp 31)] [], none, [6]⟩,
             ⟨some 33, .call (.func 119) [(.tmp 30), (.tmp 32)], none, [5, 4, 7, 6, 3, 1, 0, 2]⟩,
             ⟨some 34, .app 1 1 (.tmp 28) (.tmp 33), none, [3, 1, 0, 2, 8, 5, 4, 7, 6]⟩,
             ⟨some 10, .mv (.tmp 34), none, [9, 3, 1, 0, 2, 8, 5, 4, 7, 6]⟩] [25, 26, 27, 28, 29, 30, 31, 32, 33, 34])
          (.seq
           (.region false [⟨some 35, .fad 2 (.tmp 9), none, []⟩,
             ⟨some 36, .load1 (.tmp 35), none, []⟩] [35])
          (.cond (.tmp 36)
            (.region true [⟨some 37, .load1 (.tmp 7), none, []⟩,
              ⟨some 38, .mv (.tmp 8), none, []⟩,
              ⟨some 39, .mv (.tmp 10), none, []⟩,
              ⟨some 40, .call (.func 121) [(.tmp 39), (.const (.bool true))], none, [2]⟩,
              ⟨some 41, .iadS 1 (.tmp 37) (.tmp 38), none, [0, 1, 2, 3]⟩,
              ⟨none, .store 1 (.tmp 41) (.tmp 40), none, [4, 0, 1, 2, 3]⟩] [37, 38, 39, 40, 41])
            (.region true [⟨some 42, .load1 (.tmp 7), none, []⟩,
              ⟨some 43, .mv (.tmp 8), none, []⟩,
              ⟨some 44, .mv (.tmp 10), none, []⟩,
              ⟨some 45, .call (.func 121) [(.tmp 44), (.const (.bool false))], none, [2]⟩,
              ⟨some 46, .un .not (.tmp 45), none, [3, 2]⟩,
              ⟨some 47, .iadS 1 (.tmp 42) (.tmp 43), none, [0, 1, 2, 3, 4]⟩,
              ⟨none, .store 1 (.tmp 47) (.tmp 46), none, [5, 0, 1, 2, 3, 4]⟩] [42, 43, 44, 45, 46, 47]))))))
       (.region false [⟨some 48, .bin .add (.tmp 20) (.const (.int .i64 1)), none, []⟩,
         ⟨some 20, .mv (.tmp 48), none, []⟩] [48])))))))
  (.seq
   (.region false [⟨some 49, .load1 (.tmp 7), none, []⟩,
     ⟨some 50, .mv (.tmp 1), none, []⟩,
     ⟨some 51, .iadS 1 (.tmp 49) (.tmp 50), none, []⟩,
     ⟨some 52, .load1 (.tmp 51), none, []⟩,
     ⟨some 6, .mv (.tmp 52), none, []⟩] [49, 50, 51, 52])
  .ret))))
set_option maxRecDepth 100000 in
theorem krecord_holds : IsCode Try.prog 83 53 crecord_holds [.tmp 6] :=
  ⟨Try.f83, _, [36, 21, 0, 1, 3, 20, 19, 18, 9, 7, 2, 8, 10, 6], Try.func83, rfl, by decide, rfl, by kernel_rfl, by kernel_rfl⟩
/-- record_holds_S1 -/
def crecord_holds_S1 : ACode :=
  (.seq
   (.region false [⟨some 3, .mv (.const (.bool false)), none, []⟩] [])
  (.seq
   (.region false [⟨some 4, .load1 (.tmp 1), none, []⟩,
     ⟨some 5, .mv (.tmp 0), none, []⟩,
     ⟨some 6, .iadS 1 (.tmp 4) (.tmp 5), none, []⟩,
     ⟨some 7, .load1 (.tmp 6), none, []⟩,
     ⟨some 3, .mv (.tmp 7), none, []⟩] [4, 5, 6, 7])
  .ret))
set_option maxRecDepth 100000 in
theorem krecord_holds_S1 : IsCode Try.prog 120 8 crecord_holds_S1 [.tmp 3] :=
  ⟨Try.f120, _, [1, 0, 3], Try.func120, rfl, by decide, rfl, by kernel_rfl, by kernel_rfl⟩
/-- record_pick -/
def crecord_pick : ACode :=
  (.seq
   (.region false [⟨some 4, .mv (.const (.slice none 0 0)), none, []⟩] [])
  (.seq
   (.seq
    (.region false [⟨some 7, .mv (.tmp 0), none, []⟩,
      ⟨some 8, .len_ (.tmp 7), none, []⟩,
      ⟨some 9, .mv (.const (.int .i64 0)), none, []⟩] [])
   (.block 0
     (.loop
       (.seq
        (.region false [⟨some 10, .bin .lss (.tmp 9) (.tmp 8), none, []⟩] [])
       (.seq
        (.cond (.tmp 10)
          .skip
          (.exit 0))
       (.seq
        (.block 1
          (.seq
           (.region false [⟨some 11, .iadS 1 (.tmp 7) (.tmp 9), none, []⟩,
             ⟨some 12, .load1 (.tmp 11), none, []⟩,
             ⟨some 6, .mv (.tmp 12), none, []⟩] [11, 12])
          (.region false [⟨some 13, .mv (.tmp 4), none, []⟩,
            ⟨some 14, .mv (.tmp 1), none, []⟩,
            ⟨some 15, .mv (.tmp 6), none, []⟩,
            ⟨some 16, .call (.tmp 14) [(.tmp 15)], none, []⟩,
            ⟨some 17, .buildSl 1 1 [(.val (.bool false))] [(0, 1, (.tmp 16))], none, []⟩,
            ⟨some 18, .app 1 1 (.tmp 13) (.tmp 17), none, []⟩,
            ⟨some 4, .mv (.tmp 18), none, []⟩] [13, 14, 15, 16, 17, 18])))
       (.region false [⟨some 19, .bin .add (.tmp 9) (.const (.int .i64 1)), none, []⟩,
         ⟨some 9, .mv (.tmp 19), none, []⟩] [19])))))))
  (.seq
   (.region false [⟨some 20, .mv (.tmp 4), none, []⟩,
     ⟨some 4, .mv (.tmp 20), none, []⟩] [20])
  .ret)))
set_option maxRecDepth 100000 in
theorem krecord_pick : IsCode Try.prog 119 21 crecord_pick [.tmp 4] :=
  ⟨Try.f119, _, [10, 0, 9, 8, 7, 4, 1, 6], Try.func119, rfl, by decide, rfl, by kernel_rfl, by kernel_rfl⟩
/-- record_Until -/
def crecord_Until : ACode :=
  (.seq
   (.region false [⟨some 3, .box (.tmp 0), none, []⟩,
     ⟨some 6, .mv (.const (.int .i64 0)), none, []⟩,
     ⟨some 7, .mv (.const (.int .i64 0)), none, []⟩] [])
  (.seq
   (.seq
    (.region false [⟨some 10, .loadN 2 (.tmp 3), none, []⟩,
      ⟨some 11, .mv (.tmp 1), none, []⟩,
      ⟨some 12, .mv (.tmp 2), none, []⟩,
      ⟨some 13, .call (.func 82) [(.tmp 10), (.tmp 11), (.tmp 12)], none, []⟩,
      ⟨some 8, .mv (.tmp 13), none, []⟩] [10, 11, 12, 13])
   (.seq
    (.region false [⟨some 14, .mv (.tmp 8), none, []⟩,
      ⟨some 15, .bin .neq (.tmp 14) (.const (.int .i64 0)), none, []⟩] [14])
   (.cond (.tmp 15)
     (.seq
      (.region false [⟨some 16, .mv (.tmp 8), none, []⟩,
        ⟨some 6, .mv (.const (.int .i64 0)), none, []⟩,
        ⟨some 7, .mv (.tmp 16), none, []⟩] [16])
     .ret)
     .skip)))
  (.seq
   (.region false [⟨some 17, .mv (.tmp 2), none, []⟩,
     ⟨some 9, .mv (.tmp 17), none, []⟩] [17])
  (.seq
   (.block 0
     (.loop
       (.seq
        (.seq
         (.region true [⟨some 18, .mv (.tmp 9), none, []⟩,
           ⟨some 19, .bin .leq (.tmp 18) (.const (.int .i64 2000)), none, [0]⟩,
           ⟨some 20, .mv (.tmp 19), none, [1, 0]⟩,
           ⟨some 21, .loadN 2 (.tmp 3), (some (some 20, true)), [2, 1, 0]⟩,
           ⟨some 22, .mv (.tmp 1), (some (some 20, true)), [2, 1, 0]⟩,
           ⟨some 23, .loadN 2 (.tmp 3), (some (some 20, true)), [2, 1, 0]⟩,
           ⟨some 24, .mv (.tmp 9), (some (some 20, true)), [2, 1, 0]⟩,
           ⟨some 25, .call (.func 84) [(.tmp 23), (.tmp 24)], (some (some 20, true)), [5, 2, 1, 0, 6]⟩,
           ⟨some 26, .call (.func 83) [(.tmp 21), (.tmp 22), (.tmp 25)], (some (some 20, true)), [3, 2, 1, 0, 4, 7, 5, 6]⟩,
           ⟨some 27, .pick (.tmp 20) (.tmp 26) (.const (.bool false)), none, [2, 1, 0, 8, 3, 4, 7, 5, 6]⟩] [18, 19, 20, 21, 22, 23, 24, 25, 26])
        (.cond (.tmp 27)
          .skip
          (.exit 0)))
       (.block 1
         (.region false [⟨some 28, .mv (.tmp 9), none, []⟩,
           ⟨some 29, .bin .add (.tmp 28) (.const (.int .i64 1)), none, []⟩,
           ⟨some 9, .mv (.tmp 29), none, []⟩] [28, 29])))))
  (.seq
   (.seq
    (.region false [⟨some 30, .mv (.tmp 9), none, []⟩,
      ⟨some 31, .mv (.tmp 2), none, []⟩,
      ⟨some 32, .bin .eql (.tmp 30) (.tmp 31), none, []⟩] [30, 31])
   (.cond (.tmp 32)
     (.seq
      (.region false [⟨some 6, .mv (.const (.int .i64 0)), none, []⟩,
        ⟨some 7, .mv (.const (.int .i64 3)), none, []⟩] [])
     .ret)
     .skip))
  (.seq
   (.region false [⟨some 33, .mv (.tmp 9), none, []⟩,
     ⟨some 34, .bin .sub (.tmp 33) (.const (.int .i64 1)), none, []⟩,
     ⟨some 6, .mv (.tmp 34), none, []⟩,
     ⟨some 7, .mv (.const (.int .i64 0)), none, []⟩] [33, 34])
  .ret))))))
set_option maxRecDepth 100000 in
theorem krecord_Until : IsCode Try.prog 37 35 crecord_Until [.tmp 6, .tmp 7] :=
  ⟨Try.f37, _, [32, 27, 15, 0, 3, 1, 2, 8, 9, 6, 7], Try.func37, rfl, by decide, rfl, by kernel_rfl, by kernel_rfl⟩
/-- spans_Check -/
def cspans_Check : ACode :=
  (.seq
   (.region false [⟨some 2, .mv (.const (.int .i64 0)), none, []⟩] [])
  (.seq
   (.seq
    (.region false [⟨some 3, .mv (.tmp 0), none, []⟩,
      ⟨some 4, .len_ (.tmp 3), none, []⟩,
      ⟨some 5, .call (.func 161) [(.tmp 4), (.const (.int .i64 1)), (.const (.int .i64 3))], none, []⟩,
      ⟨some 6, .un .not (.tmp 5), none, []⟩] [3, 4, 5])
   (.cond (.tmp 6)
     (.seq
      (.region false [⟨some 2, .mv (.const (.int .i64 10)), none, []⟩] [])
     .ret)
     .skip))
  (.seq
   (.region false [⟨some 7, .mv (.tmp 0), none, []⟩,
     ⟨some 8, .call (.func 162) [(.tmp 7)], none, []⟩,
     ⟨some 2, .mv (.tmp 8), none, []⟩] [7, 8])
  .ret)))
set_option maxRecDepth 100000 in
theorem kspans_Check : IsCode Try.prog 159 9 cspans_Check [.tmp 2] :=
  ⟨Try.f159, _, [6, 0, 2], Try.func159, rfl, by decide, rfl, by kernel_rfl, by kernel_rfl⟩
/-- spans_spanned -/
def cspans_spanned : ACode :=
  (.seq
   (.region false [⟨some 2, .mv (.const (.int .i64 0)), none, []⟩] [])
  (.seq
   (.seq
    (.region false [⟨some 3, .mv (.tmp 0), none, []⟩,
      ⟨some 4, .call (.func 146) [(.tmp 3), (.func 164)], none, []⟩] [3])
   (.cond (.tmp 4)
     (.seq
      (.region false [⟨some 2, .mv (.const (.int .i64 10)), none, []⟩] [])
     .ret)
     .skip))
  (.seq
   (.region false [⟨some 2, .mv (.const (.int .i64 0)), none, []⟩] [])
  .ret)))
set_option maxRecDepth 100000 in
theorem kspans_spanned : IsCode Try.prog 162 5 cspans_spanned [.tmp 2] :=
  ⟨Try.f162, _, [4, 0, 2], Try.func162, rfl, by decide, rfl, by kernel_rfl, by kernel_rfl⟩
/-- spans_spanned_S1 -/
def cspans_spanned_S1 : ACode :=
  (.seq
   (.region false [⟨some 1, .box (.tmp 0), none, []⟩,
     ⟨some 2, .mv (.const (.bool false)), none, []⟩] [])
  (.seq
   (.region false [⟨some 3, .loadN 2 (.tmp 1), none, []⟩,
     ⟨some 4, .call (.func 165) [(.tmp 3)], none, []⟩,
     ⟨some 5, .un .not (.tmp 4), none, []⟩,
     ⟨some 2, .mv (.tmp 5), none, []⟩] [3, 4, 5])
  .ret))
set_option maxRecDepth 100000 in
theorem kspans_spanned_S1 : IsCode Try.prog 164 6 cspans_spanned_S1 [.tmp 2] :=
  ⟨Try.f164, _, [0, 1, 2], Try.func164, rfl, by decide, rfl, by kernel_rfl, by kernel_rfl⟩
/-- spans_valid -/
def cspans_valid : ACode :=
  (.seq
   (.region false [⟨some 1, .box (.tmp 0), none, []⟩,
     ⟨some 2, .mv (.const (.bool false)), none, []⟩] [])
  (.seq
   (.region false [⟨some 3, .fad 0 (.tmp 1), none, []⟩,
     ⟨some 4, .load1 (.tmp 3), none, []⟩,
     ⟨some 5, .fad 1 (.tmp 1), none, []⟩,
     ⟨some 6, .load1 (.tmp 5), none, []⟩,
     ⟨some 7, .call (.func 161) [(.tmp 4), (.const (.int .i64 (-1000000))), (.tmp 6)], none, []⟩,
     ⟨some 8, .mv (.tmp 7), none, []⟩,
     ⟨some 9, .fad 1 (.tmp 1), (some (some 8, true)), []⟩,
     ⟨some 10, .load1 (.tmp 9), (some (some 8, true)), []⟩,
     ⟨some 11, .bin .leq (.tmp 10) (.const (.int .i64 1000000)), (some (some 8, true)), []⟩,
     ⟨some 12, .pick (.tmp 8) (.tmp 11) (.const (.bool false)), none, []⟩,
     ⟨some 2, .mv (.tmp 12), none, []⟩] [3, 4, 5, 6, 7, 8, 9, 10, 11, 12])
  .ret))
set_option maxRecDepth 100000 in
theorem kspans_valid : IsCode Try.prog 165 13 cspans_valid [.tmp 2] :=
  ⟨Try.f165, _, [0, 1, 2], Try.func165, rfl, by decide, rfl, by kernel_rfl, by kernel_rfl⟩
/-- spans_within -/
def cspans_within : ACode :=
  (.seq
   (.region false [⟨some 6, .mv (.const (.bool false)), none, []⟩] [])
  (.seq
   (.region false [⟨some 7, .mv (.tmp 0), none, []⟩,
     ⟨some 8, .mv (.tmp 1), none, []⟩,
     ⟨some 9, .bin .geq (.tmp 7) (.tmp 8), none, []⟩,
     ⟨some 10, .mv (.tmp 9), none, []⟩,
     ⟨some 11, .mv (.tmp 0), (some (some 10, true)), []⟩,
     ⟨some 12, .mv (.tmp 2), (some (some 10, true)), []⟩,
     ⟨some 13, .bin .leq (.tmp 11) (.tmp 12), (some (some 10, true)), []⟩,
     ⟨some 14, .pick (.tmp 10) (.tmp 13) (.const (.bool false)), none, []⟩,
     ⟨some 6, .mv (.tmp 14), none, []⟩] [7, 8, 9, 10, 11, 12, 13, 14])
  .ret))
set_option maxRecDepth 100000 in
theorem kspans_within : IsCode Try.prog 161 15 cspans_within [.tmp 6] :=
  ⟨Try.f161, _, [0, 1, 2, 6], Try.func161, rfl, by decide, rfl, by kernel_rfl, by kernel_rfl⟩
/-- slices_Contains_L_L_Jbool_Kbool_J -/
def cslices_Contains_L_L_Jbool_Kbool_J : ACode :=
  (.seq
   (.region false [⟨some 4, .mv (.const (.bool false)), none, []⟩] [])
  (.seq
   (.region false [⟨some 5, .mv (.tmp 0), none, []⟩,
     ⟨some 6, .mv (.tmp 1), none, []⟩,
     ⟨some 7, .call (.func 149) [(.tmp 5), (.tmp 6)], none, []⟩,
     ⟨some 8, .bin .geq (.tmp 7) (.const (.int .i64 0)), none, []⟩,
     ⟨some 4, .mv (.tmp 8), none, []⟩] [5, 6, 7, 8])
  .ret))
set_option maxRecDepth 100000 in
theorem kslices_Contains_L_L_Jbool_Kbool_J : IsCode Try.prog 121 9 cslices_Contains_L_L_Jbool_Kbool_J [.tmp 4] :=
  ⟨Try.f121, _, [0, 1, 4], Try.func121, rfl, by decide, rfl, by kernel_rfl, by kernel_rfl⟩
/-- slices_Index_L_L_Jbool_Kbool_J -/
def cslices_Index_L_L_Jbool_Kbool_J : ACode :=
  (.seq
   (.region false [⟨some 4, .mv (.const (.int .i64 0)), none, []⟩] [])
  (.seq
   (.seq
    (.region false [⟨some 6, .mv (.tmp 0), none, []⟩,
      ⟨some 7, .len_ (.tmp 6), none, []⟩,
      ⟨some 8, .mv (.const (.int .i64 0)), none, []⟩] [6])
   (.block 0
     (.loop
       (.seq
        (.region false [⟨some 9, .bin .lss (.tmp 8) (.tmp 7), none, []⟩] [])
       (.seq
        (.cond (.tmp 9)
          .skip
          (.exit 0))
       (.seq
        (.block 1
          (.seq
           (.region false [⟨some 10, .mv (.tmp 8), none, []⟩,
             ⟨some 5, .mv (.tmp 10), none, []⟩] [10])
          (.seq
           (.region false [⟨some 11, .mv (.tmp 1), none, []⟩,
             ⟨some 12, .mv (.tmp 0), none, []⟩,
             ⟨some 13, .mv (.tmp 5), none, []⟩,
             ⟨some 14, .iadS 1 (.tmp 12) (.tmp 13), none, []⟩,
             ⟨some 15, .load1 (.tmp 14), none, []⟩,
             ⟨some 16, .eqb false (.tmp 11) (.tmp 15), none, []⟩] [11, 12, 13, 14, 15])
          (.cond (.tmp 16)
            (.seq
             (.region false [⟨some 17, .mv (.tmp 5), none, []⟩,
               ⟨some 4, .mv (.tmp 17), none, []⟩] [17])
            .ret)
            .skip))))
       (.region false [⟨some 18, .bin .add (.tmp 8) (.const (.int .i64 1)), none, []⟩,
         ⟨some 8, .mv (.tmp 18), none, []⟩] [18])))))))
  (.seq
   (.region false [⟨some 4, .mv (.const (.int .i64 (-1))), none, []⟩] [])
  .ret)))
set_option maxRecDepth 100000 in
theorem kslices_Index_L_L_Jbool_Kbool_J : IsCode Try.prog 149 19 cslices_Index_L_L_Jbool_Kbool_J [.tmp 4] :=
  ⟨Try.f149, _, [16, 9, 0, 8, 7, 1, 5, 4], Try.func149, rfl, by decide, rfl, by kernel_rfl, by kernel_rfl⟩
/-- slices_ContainsFunc_L_L_Japi_Span_Kapi_Span_J -/
def cslices_ContainsFunc_L_L_Japi_Span_Kapi_Span_J : ACode :=
  (.seq
   (.region false [⟨some 4, .mv (.const (.bool false)), none, []⟩] [])
  (.seq
   (.region false [⟨some 5, .mv (.tmp 0), none, []⟩,
     ⟨some 6, .mv (.tmp 1), none, []⟩,
     ⟨some 7, .call (.func 158) [(.tmp 5), (.tmp 6)], none, []⟩,
     ⟨some 8, .bin .geq (.tmp 7) (.const (.int .i64 0)), none, []⟩,
     ⟨some 4, .mv (.tmp 8), none, []⟩] [5, 6, 7, 8])
  .ret))
set_option maxRecDepth 100000 in
theorem kslices_ContainsFunc_L_L_Japi_Span_Kapi_Span_J : IsCode Try.prog 146 9 cslices_ContainsFunc_L_L_Japi_Span_Kapi_Span_J [.tmp 4] :=
  ⟨Try.f146, _, [0, 1, 4], Try.func146, rfl, by decide, rfl, by kernel_rfl, by kernel_rfl⟩
/-- slices_IndexFunc_L_L_Japi_Span_Kapi_Span_J -/
def cslices_IndexFunc_L_L_Japi_Span_Kapi_Span_J : ACode :=
  (.seq
   (.region false [⟨some 4, .mv (.const (.int .i64 0)), none, []⟩] [])
  (.seq
   (.seq
    (.region false [⟨some 6, .mv (.tmp 0), none, []⟩,
      ⟨some 7, .len_ (.tmp 6), none, []⟩,
      ⟨some 8, .mv (.const (.int .i64 0)), none, []⟩] [6])
   (.block 0
     (.loop
       (.seq
        (.region false [⟨some 9, .bin .lss (.tmp 8) (.tmp 7), none, []⟩] [])
       (.seq
        (.cond (.tmp 9)
          .skip
          (.exit 0))
       (.seq
        (.block 1
          (.seq
           (.region false [⟨some 10, .mv (.tmp 8), none, []⟩,
             ⟨some 5, .mv (.tmp 10), none, []⟩] [10])
          (.seq
           (.region false [⟨some 11, .mv (.tmp 1), none, []⟩,
             ⟨some 12, .mv (.tmp 0), none, []⟩,
             ⟨some 13, .mv (.tmp 5), none, []⟩,
             ⟨some 14, .iadS 2 (.tmp 12) (.tmp 13), none, []⟩,
             ⟨some 15, .loadN 2 (.tmp 14), none, []⟩,
             ⟨some 16, .call (.tmp 11) [(.tmp 15)], none, []⟩] [11, 12, 13, 14, 15])
          (.cond (.tmp 16)
            (.seq
             (.region false [⟨some 17, .mv (.tmp 5), none, []⟩,
               ⟨some 4, .mv (.tmp 17), none, []⟩] [17])
            .ret)
            .skip))))
       (.region false [⟨some 18, .bin .add (.tmp 8) (.const (.int .i64 1)), none, []⟩,
         ⟨some 8, .mv (.tmp 18), none, []⟩] [18])))))))
  (.seq
   (.region false [⟨some 4, .mv (.const (.int .i64 (-1))), none, []⟩] [])
  .ret)))
set_option maxRecDepth 100000 in
theorem kslices_IndexFunc_L_L_Japi_Span_Kapi_Span_J : IsCode Try.prog 158 19 cslices_IndexFunc_L_L_Japi_Span_Kapi_Span_J [.tmp 4] :=
  ⟨Try.f158, _, [16, 9, 0, 8, 7, 1, 5, 4], Try.func158, rfl, by decide, rfl, by kernel_rfl, by kernel_rfl⟩
/-- law12_works -/
def claw12_works : ACode :=
  (.seq
   (.region false [⟨some 0, .mv (.const (.bool false)), none, []⟩] [])
  (.seq
   (.region false [⟨some 10, .call (.func 64) [], none, []⟩,
     ⟨some 9, .mv (.tmp 10), none, []⟩,
     ⟨some 11, .ext (.tmp 9) 0, none, []⟩,
     ⟨some 12, .ext (.tmp 9) 1, none, []⟩,
     ⟨some 13, .ext (.tmp 9) 2, none, []⟩,
     ⟨some 1, .mem [(.val (.int .i64 0)), (.val (.int .i64 0)), (.val (.int .i64 0)), (.val (.int .i64 0)), (.val (.int .i64 0)), (.val (.slice none 0 0))], none, []⟩,
     ⟨some 3, .mem [(.val (.slice none 0 0)), (.val (.slice none 0 0))], none, []⟩,
     ⟨none, .store 6 (.tmp 1) (.tmp 11), none, []⟩,
     ⟨some 2, .mv (.tmp 12), none, []⟩,
     ⟨none, .store 2 (.tmp 3) (.tmp 13), none, []⟩] [10, 9, 11, 12, 13])
  (.seq
   (.region false [⟨some 15, .loadN 6 (.tmp 1), none, []⟩,
     ⟨some 16, .mv (.tmp 2), none, []⟩,
     ⟨some 17, .call (.func 20) [(.tmp 15), (.tmp 16), (.const (.int .i64 0))], none, []⟩,
     ⟨some 14, .mv (.tmp 17), none, []⟩,
     ⟨some 18, .ext (.tmp 14) 0, none, []⟩,
     ⟨some 19, .ext (.tmp 14) 1, none, []⟩,
     ⟨some 20, .ext (.tmp 14) 2, none, []⟩,
     ⟨some 4, .mv (.tmp 18), none, []⟩,
     ⟨some 5, .mv (.tmp 19), none, []⟩,
     ⟨some 6, .mv (.tmp 20), none, []⟩] [15, 16, 17, 14, 18, 19, 20])
  (.seq
   (.region false [⟨some 22, .loadN 2 (.tmp 3), none, []⟩,
     ⟨some 23, .call (.func 37) [(.tmp 22), (.const (.int .i64 1)), (.const (.int .i64 5))], none, []⟩,
     ⟨some 21, .mv (.tmp 23), none, []⟩,
     ⟨some 24, .ext (.tmp 21) 0, none, []⟩,
     ⟨some 25, .ext (.tmp 21) 1, none, []⟩,
     ⟨some 7, .mv (.tmp 24), none, []⟩,
     ⟨some 8, .mv (.tmp 25), none, []⟩] [22, 23, 21, 24, 25])
  (.seq
   (.region false [⟨some 26, .mv (.tmp 6), none, []⟩,
     ⟨some 27, .bin .eql (.tmp 26) (.const (.int .i64 0)), none, []⟩,
     ⟨some 28, .mv (.tmp 27), none, []⟩,
     ⟨some 29, .mv (.tmp 8), (some (some 28, true)), []⟩,
     ⟨some 30, .bin .eql (.tmp 29) (.const (.int .i64 0)), (some (some 28, true)), []⟩,
     ⟨some 31, .pick (.tmp 28) (.tmp 30) (.const (.bool false)), none, []⟩,
     ⟨some 32, .mv (.tmp 31), none, []⟩,
     ⟨some 33, .mv (.tmp 4), (some (some 32, true)), []⟩,
     ⟨some 34, .bin .eql (.tmp 33) (.const (.int .i64 2)), (some (some 32, true)), []⟩,
     ⟨some 35, .pick (.tmp 32) (.tmp 34) (.const (.bool false)), none, []⟩,
     ⟨some 36, .mv (.tmp 35), none, []⟩,
     ⟨some 37, .mv (.tmp 5), (some (some 36, true)), []⟩,
     ⟨some 38, .bin .eql (.tmp 37) (.const (.int .i64 26)), (some (some 36, true)), []⟩,
     ⟨some 39, .pick (.tmp 36) (.tmp 38) (.const (.bool false)), none, []⟩,
     ⟨some 40, .mv (.tmp 39), none, []⟩,
     ⟨some 41, .mv (.tmp 7), (some (some 40, true)), []⟩,
     ⟨some 42, .bin .eql (.tmp 41) (.const (.int .i64 30)), (some (some 40, true)), []⟩,
     ⟨some 43, .pick (.tmp 40) (.tmp 42) (.const (.bool false)), none, []⟩,
     ⟨some 0, .mv (.tmp 43), none, []⟩] [26, 27, 28, 29, 30, 31, 32, 33, 34, 35, 36, 37, 38, 39, 40, 41, 42, 43])
  .ret)))))
set_option maxRecDepth 100000 in
theorem klaw12_works : IsCode Try.prog 16 44 claw12_works [.tmp 0] :=
  ⟨Try.f16, _, [1, 2, 3, 6, 8, 4, 5, 7, 0], Try.func16, rfl, by decide, rfl, by kernel_rfl, by kernel_rfl⟩
/-- law12_Example -/
def claw12_Example : ACode :=
  (.seq
   (.region false [⟨some 0, .mem [(.val (.int .i64 0)), (.val (.int .i64 0)), (.val (.int .i64 0)), (.val (.int .i64 0)), (.val (.int .i64 0)), (.val (.slice none 0 0))], none, []⟩,
     ⟨some 1, .mv (.const (.slice none 0 0)), none, []⟩,
     ⟨some 2, .mem [(.val (.slice none 0 0)), (.val (.slice none 0 0))], none, []⟩] [])
  (.seq
   (.region false [⟨some 5, .build [(.val (.int .i64 0)), (.val (.int .i64 0)), (.val (.int .i64 0)), (.val (.int .i64 0))] [(0, 1, (.const (.int .i64 100))), (1, 1, (.const (.int .i64 200))), (2, 1, (.const (.int .i64 300))), (3, 1, (.const (.int .i64 400)))], none, []⟩,
     ⟨some 6, .build [(.val (.int .i64 0)), (.val (.int .i64 0)), (.val (.int .i64 0)), (.val (.bool false)), (.val (.int .i64 0)), (.val (.int .i64 0)), (.val (.int .i64 0)), (.val (.int .i64 0)), (.val (.int .i64 0))] [(0, 1, (.const (.int .i64 1))), (2, 1, (.const (.int .i64 8))), (3, 1, (.const (.bool true))), (4, 1, (.const (.int .i64 1))), (5, 1, (.const (.int .i64 2))), (6, 1, (.const (.int .i64 10))), (7, 1, (.const (.int .i64 1)))], none, []⟩,
     ⟨some 7, .build [(.val (.int .i64 0)), (.val (.int .i64 0)), (.val (.int .i64 0)), (.val (.bool false)), (.val (.int .i64 0)), (.val (.int .i64 0)), (.val (.int .i64 0)), (.val (.int .i64 0)), (.val (.int .i64 0))] [(0, 1, (.const (.int .i64 2))), (1, 1, (.const (.int .i64 4))), (2, 1, (.const (.int .i64 3))), (4, 1, (.const (.int .i64 5))), (5, 1, (.const (.int .i64 1))), (7, 1, (.const (.int .i64 2))), (8, 1, (.const (.int .i64 1)))], none, []⟩,
     ⟨some 8, .build [(.val (.int .i64 0)), (.val (.int .i64 0)), (.val (.int .i64 0)), (.val (.bool false)), (.val (.int .i64 0)), (.val (.int .i64 0)), (.val (.int .i64 0)), (.val (.int .i64 0)), (.val (.int .i64 0))] [(0, 1, (.const (.int .i64 3))), (2, 1, (.const (.int .i64 1))), (4, 1, (.const (.int .i64 1))), (5, 1, (.const (.int .i64 1))), (7, 1, (.const (.int .i64 1)))], none, []⟩,
     ⟨some 9, .buildSl 9 3 [(.val (.int .i64 0)), (.val (.int .i64 0)), (.val (.int .i64 0)), (.val (.bool false)), (.val (.int .i64 0)), (.val (.int .i64 0)), (.val (.int .i64 0)), (.val (.int .i64 0)), (.val (.int .i64 0)), (.val (.int .i64 0)), (.val (.int .i64 0)), (.val (.int .i64 0)), (.val (.bool false)), (.val (.int .i64 0)), (.val (.int .i64 0)), (.val (.int .i64 0)), (.val (.int .i64 0)), (.val (.int .i64 0)), (.val (.int .i64 0)), (.val (.int .i64 0)), (.val (.int .i64 0)), (.val (.bool false)), (.val (.int .i64 0)), (.val (.int .i64 0)), (.val (.int .i64 0)), (.val (.int .i64 0)), (.val (.int .i64 0))] [(0, 9, (.tmp 6)), (9, 9, (.tmp 7)), (18, 9, (.tmp 8))], none, []⟩,
     ⟨some 10, .build [(.val (.int .i64 0)), (.val (.int .i64 0)), (.val (.int .i64 0)), (.val (.int .i64 0)), (.val (.int .i64 0)), (.val (.slice none 0 0))] [(0, 1, (.const (.int .i64 4))), (1, 4, (.tmp 5)), (5, 1, (.tmp 9))], none, []⟩,
     ⟨some 3, .mem [(.val (.int .i64 0)), (.val (.int .i64 0)), (.val (.int .i64 0)), (.val (.int .i64 0)), (.val (.int .i64 0)), (.val (.slice none 0 0))], none, []⟩,
     ⟨none, .store 6 (.tmp 3) (.tmp 10), none, []⟩] [5, 6, 7, 8, 9, 10])
  (.seq
   (.region false [⟨some 11, .buildSl 1 2 [(.val (.int .i64 0)), (.val (.int .i64 0))] [(0, 1, (.const (.int .i64 0))), (1, 1, (.const (.int .i64 1)))], none, []⟩,
     ⟨some 12, .build [(.val (.slice none 0 0)), (.val (.slice none 0 0)), (.val (.bool false))] [(1, 1, (.tmp 11))], none, []⟩,
     ⟨some 13, .buildSl 1 1 [(.val (.int .i64 0))] [(0, 1, (.const (.int .i64 0)))], none, []⟩,
     ⟨some 14, .buildSl 1 1 [(.val (.int .i64 0))] [(0, 1, (.const (.int .i64 2)))], none, []⟩,
     ⟨some 15, .build [(.val (.slice none 0 0)), (.val (.slice none 0 0)), (.val (.bool false))] [(0, 1, (.tmp 13)), (1, 1, (.tmp 14)), (2, 1, (.const (.bool true)))], none, []⟩,
     ⟨some 16, .buildSl 1 2 [(.val (.int .i64 0)), (.val (.int .i64 0))] [(0, 1, (.const (.int .i64 0))), (1, 1, (.const (.int .i64 1)))], none, []⟩,
     ⟨some 17, .build [(.val (.slice none 0 0)), (.val (.slice none 0 0)), (.val (.bool false))] [(0, 1, (.tmp 16))], none, []⟩,
     ⟨some 18, .buildSl 3 3 [(.val (.slice none 0 0)), (.val (.slice none 0 0)), (.val (.bool false)), (.val (.slice none 0 0)), (.val (.slice none 0 0)), (.val (.bool false)), (.val (.slice none 0 0)), (.val (.slice none 0 0)), (.val (.bool false))] [(0, 3, (.tmp 12)), (3, 3, (.tmp 15)), (6, 3, (.tmp 17))], none, []⟩,
     ⟨some 19, .build [(.val (.int .i64 0)), (.val (.int .i64 0))] [(1, 1, (.const (.int .i64 10)))], none, []⟩,
     ⟨some 20, .build [(.val (.int .i64 0)), (.val (.int .i64 0))] [(0, 1, (.const (.int .i64 5))), (1, 1, (.const (.int .i64 20)))], none, []⟩,
     ⟨some 21, .build [(.val (.int .i64 0)), (.val (.int .i64 0))] [(0, 1, (.const (.int .i64 8))), (1, 1, (.const (.int .i64 30)))], none, []⟩,
     ⟨some 22, .buildSl 2 3 [(.val (.int .i64 0)), (.val (.int .i64 0)), (.val (.int .i64 0)), (.val (.int .i64 0)), (.val (.int .i64 0)), (.val (.int .i64 0))] [(0, 2, (.tmp 19)), (2, 2, (.tmp 20)), (4, 2, (.tmp 21))], none, []⟩,
     ⟨some 23, .build [(.val (.slice none 0 0)), (.val (.slice none 0 0))] [(0, 1, (.tmp 18)), (1, 1, (.tmp 22))], none, []⟩,
     ⟨some 4, .mem [(.val (.slice none 0 0)), (.val (.slice none 0 0))], none, []⟩,
     ⟨none, .store 2 (.tmp 4) (.tmp 23), none, []⟩] [11, 12, 13, 14, 15, 16, 17, 18, 19, 20, 21, 22, 23])
  (.seq
   (.region true [⟨some 24, .loadN 6 (.tmp 3), none, []⟩,
     ⟨some 25, .buildSl 1 4 [(.val (.int .i64 0)), (.val (.int .i64 0)), (.val (.int .i64 0)), (.val (.int .i64 0))] [(0, 1, (.const (.int .i64 100))), (1, 1, (.const (.int .i64 4))), (2, 1, (.const (.int .i64 0))), (3, 1, (.const (.int .i64 0)))], none, []⟩,
     ⟨some 26, .buildSl 1 4 [(.val (.int .i64 0)), (.val (.int .i64 0)), (.val (.int .i64 0)), (.val (.int .i64 0))] [(0, 1, (.const (.int .i64 200))), (1, 1, (.const (.int .i64 254))), (2, 1, (.const (.int .i64 48))), (3, 1, (.const (.int .i64 1)))], none, []⟩,
     ⟨some 27, .buildSl 1 4 [(.val (.int .i64 0)), (.val (.int .i64 0)), (.val (.int .i64 0)), (.val (.int .i64 0))] [(0, 1, (.const (.int .i64 300))), (1, 1, (.const (.int .i64 6))), (2, 1, (.const (.int .i64 0))), (3, 1, (.const (.int .i64 0)))], none, []⟩,
     ⟨some 28, .buildSl 1 3 [(.val (.slice none 0 0)), (.val (.slice none 0 0)), (.val (.slice none 0 0))] [(0, 1, (.tmp 25)), (1, 1, (.tmp 26)), (2, 1, (.tmp 27))], none, [1, 2, 3]⟩,
     ⟨some 29, .loadN 2 (.tmp 4), none, []⟩,
     ⟨none, .store 6 (.tmp 0) (.tmp 24), none, [0]⟩,
     ⟨some 1, .mv (.tmp 28), none, [4, 1, 2, 3, 6, 0]⟩,
     ⟨none, .store 2 (.tmp 2) (.tmp 29), none, [5, 7, 4, 1, 2, 3, 6, 0]⟩] [24, 25, 26, 27, 28, 29])
  .ret))))
set_option maxRecDepth 100000 in
theorem klaw12_Example : IsCode Try.prog 64 30 claw12_Example [.cellN 0 6, .tmp 1, .cellN 2 2] :=
  ⟨Try.f64, _, [3, 4, 0, 2, 1], Try.func64, rfl, by decide, rfl, by kernel_rfl, by kernel_rfl⟩
end Go.Proofs.Ytdcodicoclecnaa
