/- Texts of the law RecordWears, part 9. No conditions. -/
import Derived.Test.YtdcodicoclecnaaPRecordWears08
import Derived.Test.YtdcodicoclecnaaRows
set_option linter.unusedSimpArgs false
set_option linter.unusedVariables false
/- record: Read, Peak (a reference to a yield, .yref, lies in memory). No conditions. -/
namespace Go.Proofs.Ytdcodicoclecnaa
open Go.RowKit Lift

def pkS (l : Lay) (f : Fl) (frs : List (List Int)) : Nat → Int × Int
  | 0 => (-1, 0)
  | i + 1 => match smp l f (frm frs i) with
    | some v => if (pkS l f frs i).1 < 0 ∨ v > (pkS l f frs i).2 then ((i : Int), v) else pkS l f frs i
    | none => pkS l f frs i
theorem scV_low (n g v : Nat) (L : List (Int × Int)) (m : Nat) (hg : g < n) (hv : v < n) {h : Hp} (h1 : LowH n h) : LowH n ((g, [.vec v m 2]) :: (v, scells L) :: h) :=
  .cons hg (by intro d hd; simp at hd; subst hd; exact .vec _ _ _ hv) rfl (.cons hv (fun d hd => (scells_in L d hd).mono fun _ h => h.elim) (scells_noY _) h1)
theorem sc_snoc (L : List (Int × Int)) (x : Int × Int) : scells L ++ [.val (.int .i64 x.1), .val (.int .i64 x.2)] = scells (L ++ [x]) := by
  rw [← sps_flat, ← sps_flat]; simp [sps]
theorem sc_all (L : List (Int × Int)) : (scells L).take (L.length * 2) = scells L := List.take_of_length_le (by rw [scells_len]; omega)
theorem hasA_one (l : Lay) (x : Int) : hasA l [x] = wI x 0 ((l.fl.length : Int) - 1) := by simp [hasA]
theorem wfE_ok {l : Lay} {frs : List (List Int)} {x : Int} (h : wfE l frs [x] = 0) : LayOk l ∧ frs.length ≤ 200 ∧ hasA l [x] = true ∧ ∃ k : Nat, x = k ∧ k < l.fl.length := by
  unfold wfE at h
  rcases tpE_cases l frs with ⟨h0, h1, h2⟩ | ⟨h0, _⟩
  · rw [if_pos h0] at h
    cases hh : hasA l [x] with
    | false => rw [hh] at h; cases h
    | true =>
      refine ⟨h1, h2, rfl, x.toNat, ?_⟩
      rw [hasA_one] at hh
      have := wI_t hh
      omega
  · rw [if_neg h0] at h; exact absurd h h0
set_option maxRecDepth 100000 in
set_option maxHeartbeats 4000000 in
theorem read_ok (l : Lay) (frs : List (List Int)) (k : Nat) (hl : LayIn l) (h1 : LayOk l) (h2 : frs.length ≤ 200) (hf : FrIn frs) (hk : k < l.fl.length) : AC Try.prog 18 [layD l, .list (rows frs), dI k] [] [] (.tup [.list (sps (smps l (fAt l k) frs frs.length)), dI 0]) := by
  refine krecord_Read.ac (n0 := 0) (by simp) ⟨in_layD _ _, .list _, .val _, trivial⟩ trivial rfl ?_
  unfold crecord_Read layD layC
  have hh : hasA l [(k : Int)] = true := by rw [hasA_one]; exact wI_y (by omega) (by omega)
  have nt := withField_ok l frs [(k : Int)] hl h1 h2 hf (Nat.le_of_ble_eq_true rfl) hh
  have sa := samples_ac l frs k hk (by have := h1.nf; omega)
  have hfo := fAt_ok h1 hk
  generalize fAt l k = f at *
  refine aw_seq (aw_region ?_)
  simp (disch := first | exact okY | omega) only [ZU, dI, Nat.reduceAdd, Nat.reduceMul, AOpRun, aexec, D.isBot, ↓eget_h, or_self, ↓reduceIte, D.cells, Nat.reduceBEq]
  refine aw_wk (s' := ⟨[(1, .list (rows frs)), (2, dI k), (3, .ptr 0 0), (6, .ptr 8 0)], [(0, [dI l.words, dI l.s0, dI l.s1, dI l.s2, dI l.s3, .list (fls l.fl)]), (8, [.vec 24 0 2]), (24, scells [])], 40⟩) ?_ ?_
  · unfold dI
    refine wk_q [] [(0, 0), (8, 8), (24, 900)] ?_ ?_ <;> repeat' (first | exact trivial | exact vr_val _ | exact vr_list _ | exact vr_ptr _ _ _ rfl | exact vr_nilv _ _ _ rfl | refine And.intro ⟨_, rfl, .inl ⟨_, rfl, by decide, ?_⟩⟩ ?_ | refine And.intro ⟨_, rfl, .inr ⟨rfl, rfl, of_decide_eq_true (by kernel_rfl)⟩⟩ ?_ | apply And.intro)
  refine aw_seq (aw_region_cut [⟨some 12, .loadN 6 (.tmp 3), none, []⟩,
     ⟨some 13, .mv (.tmp 1), none, []⟩,
     ⟨some 14, .mv (.tmp 2), none, []⟩,
     ⟨some 15, .buildSl 1 1 [(.val (.int .i64 0))] [(0, 1, (.tmp 14))], none, []⟩]
     [⟨some 16, .call (.func 66) [(.tmp 12), (.tmp 13), (.tmp 15)], none, []⟩,
     ⟨some 11, .mv (.tmp 16), none, []⟩,
     ⟨some 17, .ext (.tmp 11) 0, none, []⟩,
     ⟨some 18, .ext (.tmp 11) 1, none, []⟩,
     ⟨some 8, .mv (.tmp 17), none, []⟩,
     ⟨some 7, .mv (.tmp 18), none, []⟩] ?_)
  simp (disch := first | exact okY | omega) only [ZU, Nat.reduceAdd, Nat.reduceMul, AOpRun, dI, aexec, Nat.reduceBEq, ↓eget_h, Nat.reduceLeDiff, ↓reduceIte, List.drop, List.take, fillD, D.isBot, D.cells, ne_eq, not_true_eq_false, Nat.reduceGT, or_self, splice]
  refine ⟨⟨[(2, dI k), (6, .ptr 8 0), (12, layD l), (13, .list (rows frs)), (15, .list (ints [(k : Int)]))], [(8, [.vec 24 0 2]), (24, scells [])], 96⟩, ?_, of_decide_eq_true (by kernel_rfl), ?_⟩
  · unfold layD layC dI
    refine wk_q [64] [(8, 8), (24, 24)] ?_ ?_ <;> repeat' (first | exact trivial | exact vr_val _ | exact vr_list _ | exact vr_vec _ _ _ _ rfl | exact vr_ptr _ _ _ rfl | apply vr_agg | refine vr_fl _ _ _ _ _ (by decide) rfl ?_ ?_ ?_ ?_ | refine And.intro ⟨_, rfl, .inl ⟨_, rfl, by decide, ?_⟩⟩ ?_ | apply And.intro)
    all_goals first | exact ints_one _ | exact ints_len _ | exact ints_flat _ | exact icells_in _ | exact icells_in [(k : Int)]
  simp (disch := first | exact okY | omega) only [ZU, Nat.reduceSub, Nat.reduceAdd, Nat.reduceBEq, ↓eget_h]
  refine acallB nt (by repeat' (first | exact trivial | exact rfl | refine And.intro ?_ ?_)) (by kernel_rfl) (by kernel_rfl) (by kernel_rfl) ?_
  simp (disch := first | exact okY | omega) only [ZU, Nat.reduceAdd, dI, Nat.reduceBEq, AOpRun, aexec, ↓eget_h, opt1]
  refine aw_seq (aw_seq (aw_region ?_))
  simp (disch := first | exact okY | omega) only [ZU, Nat.reduceAdd, Nat.reduceMul, AOpRun, aexec, Nat.reduceBEq, ↓eget_h, isSh, ↓reduceIte, abin, bne_self_eq_false]
  refine aw_condF rfl (aw_skip ?_)
  refine aw_wk (s' := ⟨[(2, dI k), (6, .ptr 8 0), (8, .ptr 96 0)], [(96, tpC l frs), (8, [.vec 24 0 2]), (24, scells [])], 104⟩) ?_ ?_
  · unfold dI
    refine wk_q [] [(8, 8), (24, 24), (96, 96)] ?_ ?_ <;> repeat' (first | exact trivial | exact vr_val _ | exact vr_list _ | exact vr_vec _ _ _ _ rfl | exact vr_ptr _ _ _ rfl | refine And.intro ⟨_, rfl, .inl ⟨_, rfl, by decide, ?_⟩⟩ ?_ | apply And.intro)
    all_goals exact tpC_in _ _ _
  refine aw_seq (aw_seq (aw_region ?_))
  simp (disch := first | exact okY | omega) only [ZU, Nat.reduceAdd, Nat.reduceMul, dI, AOpRun, aexec, Nat.reduceBEq, ↓eget_h]
  refine acallB sa (by repeat' (first | exact trivial | exact rfl | refine And.intro ?_ ?_)) (by kernel_rfl) (by kernel_rfl) (by kernel_rfl) ?_
  simp (disch := first | exact okY | omega) only [ZU, Nat.reduceAdd, Nat.reduceBEq]
  refine aw_wk (s' := ⟨[(6, .ptr 8 0), (24, .fn 113 [] [.ptr 120 0, .ptr 121 0])], [(96, tpC l frs), (120, [.ptr 96 0]), (121, flC f), (8, [.vec 24 0 2]), (24, scells [])], 800⟩) ?_ ?_
  · refine wk_q [] [(8, 8), (24, 24), (96, 96), (120, 120), (121, 121)] ?_ ?_ <;> repeat' (first | exact trivial | exact vr_val _ | exact vr_list _ | exact vr_vec _ _ _ _ rfl | exact vr_ptr _ _ _ rfl | apply vr_fn | refine And.intro ⟨_, rfl, .inl ⟨_, rfl, by decide, ?_⟩⟩ ?_ | apply And.intro)
    all_goals first | exact tpC_in _ _ _ | exact flC_in _ _
  refine aw_block (aw_range [8, 96, 120, 121] [(6, .ptr 8 0)] [.bot, .bot, .bot, .bot, .bot, .bot, .ptr 8 0] kprecord_tape_samples_S1 rfl (by simp) ⟨.inl rfl, .inl rfl, .inl rfl, .inl rfl, .inl rfl, .inl rfl, .inr rfl, trivial⟩ rfl rfl (by simp) ⟨.inr ⟨rfl, .ptr _ _ (by simp)⟩, trivial⟩ (fun r hr => ?_))
  refine samples_hit hr rfl l frs h2 h1 f hfo hf [8, 96, 120, 121] (by decide) [.bot, .bot, .bot, .bot, .bot, .bot, .ptr 8 0] rfl (by intro d hd; simp at hd; rcases hd with rfl | rfl; exact .bot; exact .ptr _ _ (by simp)) (by simp) (by simp) (by simp) (fun i => [(8, [.vec 24 (smps l f frs i).length 2]), (24, scells (smps l f frs i))]) (fun i => scV_low 800 8 24 _ _ (by decide) (by decide) .nil) (fun i hi hs => ?_) (fun i v hi hs => ?_) ?_
  · have : smps l f frs (i + 1) = smps l f frs i := by rw [smps_succ, hs]; simp
    simp only [this]
  · have hgl := smps_len l f frs i
    have e : smps l f frs (i + 1) = smps l f frs i ++ [((i : Int), v)] := by rw [smps_succ, hs]
    rw [e]
    generalize smps l f frs i = L at *
    rw [← sc_snoc L ((i : Int), v)]
    have hic : (scells L).length = L.length * 2 := scells_len _
    have hit : (scells L).take (L.length * 2) = scells L := sc_all L
    have hcin : ∀ y ∈ scells L ++ [.val (.int .i64 (i : Int)), .val (.int .i64 v)], In (fun _ => False) y := by rw [sc_snoc L ((i : Int), v)]; exact scells_in _
    have hlen : (L ++ [((i : Int), v)]).length = L.length + 1 := by simp
    rw [hlen]
    unfold crecord_Read_B25 smH
    refine aw_block (aw_region ?_)
    simp (disch := first | exact okY | omega) only [ZU, blockQ, Nat.reduceAdd, Nat.reduceMul, true_and, bodyE, asgE, parE, dI, Nat.reduceBEq, ↓eget_h, AOpRun, aexec, run1, ↓hget_h, fillD, D.isBot, D.cells, ne_eq, not_true_eq_false, Nat.reduceGT, or_self, ↓reduceIte, splice, List.take, List.drop, base, hic, Nat.le_refl, hit, elems, List.all, D.leaf, and_true, ups]
    refine ago_if (by omega) ?_
    simp (disch := first | exact okY | omega) only [ZU, Nat.reduceAdd, Nat.reduceBEq, hdel_c, hdel_n, AOpRun, aexec, ↓eget_h, ↓hget_h, D.isBot, D.cells, Nat.reduceLeDiff, List.all, D.leaf, ↓reduceIte, splice, List.take, List.drop]
    try refine ⟨rfl, ?_⟩
    refine wk_q [] [(8, 8), (24, 1540), (96, 96), (120, 120), (121, 121), (800, 800), (808, 808), (1000, 1000)] ?_ ?_ <;> repeat' (first | exact trivial | exact vr_val _ | exact vr_list _ | exact vr_vec _ _ _ _ rfl | exact vr_ptr _ _ _ rfl | refine And.intro ⟨_, rfl, .inl ⟨_, rfl, by decide, ?_⟩⟩ ?_ | apply And.intro | exact vr_yrefs _ _ rfl | exact vrl_flat _ (by first | exact icells_in _ | exact rcells_in _ | exact scells_in _ | exact bcells_in _ | assumption))
    all_goals first | exact tpC_in _ _ _ | exact flC_in _ _ | assumption
  · have hgl := smps_len l f frs frs.length
    generalize smps l f frs frs.length = L at *
    unfold smH
    simp only [blockQ, thenQ]
    (repeat' (first | (with_reducible first | refine thenQ_n ?_ | refine blockQ_n ?_ | refine thenQ_e ?_ | refine blockQ_t ?_ | refine blockQ_f (by decide) ?_) | apply aw_seq | apply aw_skip | apply aw_exit | apply aw_ret | apply aw_block | apply aw_condT rfl | apply aw_condF rfl | ((first | refine aw_hide fun K hK => aw_region ?_ | refine ago_if (by omega) ?_ | skip); simp (disch := first | exact okY | omega) only [ZU, Nat.reduceAdd, Nat.reduceMul, AOpRun, aexec, run1, ↓eget_h, Nat.reduceBEq, ↓hget_h, D.isBot, D.cells, Nat.reduceLeDiff, List.all, D.leaf, ↓reduceIte, splice, List.take, List.drop]) | subst hK))
    refine end_q [24] [] ?_ ?_ <;> repeat' (first | exact trivial | exact vr_val _ | apply vr_tup | refine vr_fl _ _ _ _ _ (by decide) rfl ?_ ?_ ?_ ?_ | apply And.intro)
    all_goals first | exact sps_two _ | exact sps_len _ | exact sps_flat _ | exact scells_in _
set_option maxRecDepth 100000 in
set_option maxHeartbeats 1000000 in
theorem read_err (l : Lay) (frs : List (List Int)) (x : Int) (hl : LayIn l) (he : wfE l frs [x] ≠ 0) (hf : FrIn frs) : AC Try.prog 18 [layD l, .list (rows frs), dI x] [] [] (.tup [.list (sps []), dI (wfE l frs [x])]) := by
  refine krecord_Read.ac (n0 := 0) (by simp) ⟨in_layD _ _, .list _, .val _, trivial⟩ trivial rfl ?_
  unfold crecord_Read layD layC
  have nt := withField_err l frs [x] hl hf (Nat.le_of_ble_eq_true rfl) he
  have h1 : (wfE l frs [x] != 0) = true := by simpa using he
  generalize wfE l frs [x] = E at *
  refine aw_seq (aw_region ?_)
  simp (disch := first | exact okY | omega) only [ZU, dI, Nat.reduceAdd, Nat.reduceMul, AOpRun, aexec, D.isBot, ↓eget_h, or_self, ↓reduceIte, D.cells, Nat.reduceBEq]
  refine aw_seq (aw_region ?_)
  simp (disch := first | exact okY | omega) only [ZU, Nat.reduceAdd, Nat.reduceMul, AOpRun, aexec, Nat.reduceBEq, ↓eget_h, Nat.reduceLeDiff, ↓reduceIte, List.drop, List.take, fillD, D.isBot, D.cells, ne_eq, not_true_eq_false, Nat.reduceGT, or_self, splice]
  refine acall nt [48] ⟨.refl _, .refl _, vec_ints [x] (by simp) rfl rfl, trivial⟩ (.inr (.tup _ (by intro d hd; simp at hd; rcases hd with rfl | rfl <;> exact .val _))) (by intro g hg; simp at hg; subst hg; exact ⟨_, rfl⟩) (by kernel_rfl) ?_
  simp (disch := first | exact okY | omega) only [ZU, Nat.reduceAdd, dI, Nat.reduceBEq, AOpRun, aexec, ↓eget_h, opt1]
  (repeat' (first | (with_reducible first | refine thenQ_n ?_ | refine blockQ_n ?_ | refine thenQ_e ?_ | refine blockQ_t ?_ | refine blockQ_f (by decide) ?_) | apply aw_seq | apply aw_skip | apply aw_exit | apply aw_ret | apply aw_block | apply aw_condT rfl | apply aw_condF rfl | ((first | refine aw_hide fun K hK => aw_region ?_ | refine ago_if (by omega) ?_ | skip); simp (disch := first | exact okY | omega) only [ZU, Nat.reduceAdd, Nat.reduceMul, AOpRun, aexec, Nat.reduceBEq, ↓eget_h, isSh, ↓reduceIte, abin, h1, ↓hget_h, D.isBot, D.cells, Nat.reduceLeDiff, List.all, D.leaf, splice, List.take, List.drop]) | subst hK))
  (refine end_q [] [] ?_ ?_ <;> repeat' (first | exact trivial | exact vr_val _ | exact vr_nil | apply vr_tup | apply And.intro))
noncomputable def readR (l : Lay) (frs : List (List Int)) (x : Int) : List (Int × Int) := if wfE l frs [x] = 0 then smps l (fAt l x.toNat) frs frs.length else []
theorem read_ac (l : Lay) (frs : List (List Int)) (x : Int) (hl : LayIn l) (hf : FrIn frs) : AC Try.prog 18 [layD l, .list (rows frs), dI x] [] [] (.tup [.list (sps (readR l frs x)), dI (wfE l frs [x])]) := by
  unfold readR
  by_cases h : wfE l frs [x] = 0
  · obtain ⟨h1, h2, _, k, rfl, hk⟩ := wfE_ok h
    rw [if_pos h, h]; exact read_ok l frs k hl h1 h2 hf hk
  · rw [if_neg h]; exact read_err l frs x hl h hf
set_option maxRecDepth 100000 in
set_option maxHeartbeats 4000000 in
theorem peak_ok (l : Lay) (frs : List (List Int)) (k : Nat) (hl : LayIn l) (h1 : LayOk l) (h2 : frs.length ≤ 200) (hf : FrIn frs) (hk : k < l.fl.length) : AC Try.prog 20 [layD l, .list (rows frs), dI k] [] [] (if (pkS l (fAt l k) frs frs.length).1 < 0 then .tup [dI 0, dI 0, dI 3] else .tup [dI (pkS l (fAt l k) frs frs.length).1, dI (pkS l (fAt l k) frs frs.length).2, dI 0]) := by
  have hin : In (fun _ => False) (if (pkS l (fAt l k) frs frs.length).1 < 0 then D.tup [dI 0, dI 0, dI 3] else .tup [dI (pkS l (fAt l k) frs frs.length).1, dI (pkS l (fAt l k) frs frs.length).2, dI 0]) := by
    split <;> exact .tup _ (by intro d hd; simp at hd; rcases hd with rfl | rfl | rfl <;> exact .val _)
  refine krecord_Peak.ac (n0 := 0) (by simp) ⟨in_layD _ _, .list _, .val _, trivial⟩ trivial rfl ?_
  unfold crecord_Peak layD layC
  have hh : hasA l [(k : Int)] = true := by rw [hasA_one]; exact wI_y (by omega) (by omega)
  have nt := withField_ok l frs [(k : Int)] hl h1 h2 hf (Nat.le_of_ble_eq_true rfl) hh
  have sa := samples_ac l frs k hk (by have := h1.nf; omega)
  have hfo := fAt_ok h1 hk
  generalize fAt l k = f at *
  refine aw_seq (aw_region ?_)
  simp (disch := first | exact okY | omega) only [ZU, Int.reduceNeg, dI, Nat.reduceAdd, Nat.reduceMul, AOpRun, aexec, D.isBot, ↓eget_h, or_self, ↓reduceIte, D.cells, Nat.reduceBEq]
  refine aw_wk (s' := ⟨[(1, .list (rows frs)), (2, dI k), (3, .ptr 0 0), (6, .ptr 8 0), (7, .ptr 16 0)], [(0, [dI l.words, dI l.s0, dI l.s1, dI l.s2, dI l.s3, .list (fls l.fl)]), (8, [dI 0]), (16, [dI 0])], 40⟩) ?_ ?_
  · unfold dI
    refine wk_q [] [(0, 0), (8, 8), (16, 16)] ?_ ?_ <;> repeat' (first | exact trivial | exact vr_val _ | exact vr_list _ | exact vr_ptr _ _ _ rfl | refine And.intro ⟨_, rfl, .inl ⟨_, rfl, by decide, ?_⟩⟩ ?_ | apply And.intro)
  refine aw_seq (aw_region_cut [⟨some 13, .loadN 6 (.tmp 3), none, []⟩,
     ⟨some 14, .mv (.tmp 1), none, []⟩,
     ⟨some 15, .mv (.tmp 2), none, []⟩,
     ⟨some 16, .buildSl 1 1 [(.val (.int .i64 0))] [(0, 1, (.tmp 15))], none, []⟩]
     [⟨some 17, .call (.func 66) [(.tmp 13), (.tmp 14), (.tmp 16)], none, []⟩,
     ⟨some 12, .mv (.tmp 17), none, []⟩,
     ⟨some 18, .ext (.tmp 12) 0, none, []⟩,
     ⟨some 19, .ext (.tmp 12) 1, none, []⟩,
     ⟨some 9, .mv (.tmp 18), none, []⟩,
     ⟨some 8, .mv (.tmp 19), none, []⟩] ?_)
  simp (disch := first | exact okY | omega) only [ZU, Nat.reduceAdd, Nat.reduceMul, Int.reduceNeg, AOpRun, dI, aexec, Nat.reduceBEq, ↓eget_h, Nat.reduceLeDiff, ↓reduceIte, List.drop, List.take, fillD, D.isBot, D.cells, ne_eq, not_true_eq_false, Nat.reduceGT, or_self, splice]
  refine ⟨⟨[(2, dI k), (6, .ptr 8 0), (7, .ptr 16 0), (13, layD l), (14, .list (rows frs)), (16, .list (ints [(k : Int)]))], [(8, [dI 0]), (16, [dI 0])], 96⟩, ?_, of_decide_eq_true (by kernel_rfl), ?_⟩
  · unfold layD layC dI
    refine wk_q [64] [(8, 8), (16, 16)] ?_ ?_ <;> repeat' (first | exact trivial | exact vr_val _ | exact vr_list _ | exact vr_ptr _ _ _ rfl | apply vr_agg | refine vr_fl _ _ _ _ _ (by decide) rfl ?_ ?_ ?_ ?_ | refine And.intro ⟨_, rfl, .inl ⟨_, rfl, by decide, ?_⟩⟩ ?_ | apply And.intro)
    all_goals first | exact ints_one _ | exact ints_len _ | exact ints_flat _ | exact icells_in _ | exact icells_in [(k : Int)]
  simp (disch := first | exact okY | omega) only [ZU, Nat.reduceSub, Int.reduceNeg, Nat.reduceAdd, Nat.reduceBEq, ↓eget_h]
  refine acallB nt (by repeat' (first | exact trivial | exact rfl | refine And.intro ?_ ?_)) (by kernel_rfl) (by kernel_rfl) (by kernel_rfl) ?_
  simp (disch := first | exact okY | omega) only [ZU, Int.reduceNeg, Nat.reduceAdd, dI, Nat.reduceBEq, AOpRun, aexec, ↓eget_h, opt1]
  refine aw_seq (aw_seq (aw_region ?_))
  simp (disch := first | exact okY | omega) only [ZU, Int.reduceNeg, Nat.reduceAdd, Nat.reduceMul, AOpRun, aexec, Nat.reduceBEq, ↓eget_h, isSh, ↓reduceIte, abin, bne_self_eq_false]
  refine aw_condF rfl (aw_skip ?_)
  refine aw_seq (aw_region ?_)
  simp (disch := first | exact okY | omega) only [ZU, Nat.reduceMul, Nat.reduceAdd, Int.reduceNeg, AOpRun, aexec, Nat.reduceBEq, ↓eget_h, D.isBot, D.cells, Nat.reduceLeDiff, List.all, D.leaf, ↓reduceIte, splice, List.take, List.drop]
  refine aw_wk (s' := ⟨[(2, dI k), (6, .ptr 8 0), (7, .ptr 16 0), (9, .ptr 96 0)], [(96, tpC l frs), (8, [dI (-1)]), (16, [dI 0])], 104⟩) ?_ ?_
  · unfold dI
    refine wk_q [] [(8, 8), (16, 16), (96, 96)] ?_ ?_ <;> repeat' (first | exact trivial | exact vr_val _ | exact vr_list _ | exact vr_ptr _ _ _ rfl | refine And.intro ⟨_, rfl, .inl ⟨_, rfl, by decide, ?_⟩⟩ ?_ | apply And.intro)
    all_goals exact tpC_in _ _ _
  refine aw_seq (aw_seq (aw_region ?_))
  simp (disch := first | exact okY | omega) only [ZU, Nat.reduceAdd, Nat.reduceMul, dI, Int.reduceNeg, AOpRun, aexec, Nat.reduceBEq, ↓eget_h]
  refine acallB sa (by repeat' (first | exact trivial | exact rfl | refine And.intro ?_ ?_)) (by kernel_rfl) (by kernel_rfl) (by kernel_rfl) ?_
  simp (disch := first | exact okY | omega) only [ZU, Nat.reduceAdd, Nat.reduceBEq, Int.reduceNeg]
  refine aw_wk (s' := ⟨[(6, .ptr 8 0), (7, .ptr 16 0), (25, .fn 113 [] [.ptr 120 0, .ptr 121 0])], [(96, tpC l frs), (120, [.ptr 96 0]), (121, flC f), (8, [dI (-1)]), (16, [dI 0])], 800⟩) ?_ ?_
  · unfold dI
    refine wk_q [] [(8, 8), (16, 16), (96, 96), (120, 120), (121, 121)] ?_ ?_ <;> repeat' (first | exact trivial | exact vr_val _ | exact vr_list _ | exact vr_ptr _ _ _ rfl | apply vr_fn | refine And.intro ⟨_, rfl, .inl ⟨_, rfl, by decide, ?_⟩⟩ ?_ | apply And.intro)
    all_goals first | exact tpC_in _ _ _ | exact flC_in _ _
  refine aw_block (aw_range [8, 16, 96, 120, 121] [(6, .ptr 8 0), (7, .ptr 16 0)] [.bot, .bot, .bot, .bot, .bot, .bot, .ptr 8 0, .ptr 16 0] kprecord_tape_samples_S1 rfl (by simp) ⟨.inl rfl, .inl rfl, .inl rfl, .inl rfl, .inl rfl, .inl rfl, .inr rfl, .inr rfl, trivial⟩ rfl rfl (by simp) ⟨.inr ⟨rfl, .ptr _ _ (by simp)⟩, .inr ⟨rfl, .ptr _ _ (by simp)⟩, trivial⟩ (fun r hr => ?_))
  refine samples_hit hr rfl l frs h2 h1 f hfo hf [8, 16, 96, 120, 121] (by decide) [.bot, .bot, .bot, .bot, .bot, .bot, .ptr 8 0, .ptr 16 0] rfl (by intro d hd; simp at hd; rcases hd with rfl | rfl | rfl; exact .bot; exact .ptr _ _ (by simp); exact .ptr _ _ (by simp)) (by simp) (by simp) (by simp) (fun i => [(8, [dI (pkS l f frs i).1]), (16, [dI (pkS l f frs i).2])])
    (fun i => .cons (by decide) (by intro d hd; simp at hd; subst hd; exact .val _) rfl (.cons (by decide) (by intro d hd; simp at hd; subst hd; exact .val _) rfl .nil)) (fun i hi hs => ?_) (fun i v hi hs => ?_) ?_
  · have : pkS l f frs (i + 1) = pkS l f frs i := by simp only [pkS, hs]
    simp only [this]
  · have e : pkS l f frs (i + 1) = if (pkS l f frs i).1 < 0 ∨ v > (pkS l f frs i).2 then ((i : Int), v) else pkS l f frs i := by simp only [pkS, hs]
    rw [e]
    generalize pkS l f frs i = p at *
    obtain ⟨a, b⟩ := p
    simp only
    unfold crecord_Peak_B26 smH
    refine aw_block (aw_seq (aw_region ?_))
    cases q1 : decide (a < 0) with
    | true =>
      rw [if_pos (.inl (of_decide_eq_true q1))]
      simp (disch := first | exact okY | omega) only [ZU, dI, Nat.reduceAdd, Nat.reduceMul, bodyE, asgE, parE, Nat.reduceBEq, ↓eget_h, AOpRun, aexec, run1, ↓hget_h, isSh, ↓reduceIte, abin, q1, ARun_some, AG_tf]
      refine aw_condT rfl (aw_region ?_)
      simp (disch := first | exact okY | omega) only [ZU, blockQ, Nat.reduceAdd, Nat.reduceMul, true_and, AOpRun, aexec, Nat.reduceBEq, ↓eget_h, ↓hget_h, D.isBot, D.cells, Nat.reduceLeDiff, List.all, D.leaf, ↓reduceIte, splice, List.take, List.drop]
      try refine ⟨rfl, ?_⟩
      refine wk_q [] [(8, 8), (16, 16), (96, 96), (120, 120), (121, 121), (800, 800), (808, 808), (1000, 1000)] ?_ ?_ <;> repeat' (first | exact trivial | exact vr_val _ | exact vr_list _ | exact vr_ptr _ _ _ rfl | refine And.intro ⟨_, rfl, .inl ⟨_, rfl, by decide, ?_⟩⟩ ?_ | apply And.intro | exact vr_yrefs _ _ rfl)
      all_goals first | exact tpC_in _ _ _ | exact flC_in _ _
    | false =>
      have n1 := of_decide_eq_false q1
      cases q2 : decide (v > b) with
      | true =>
        rw [if_pos (.inr (of_decide_eq_true q2))]
        simp (disch := first | exact okY | omega) only [ZU, dI, Nat.reduceAdd, Nat.reduceMul, bodyE, asgE, parE, Nat.reduceBEq, ↓eget_h, AOpRun, aexec, run1, ↓hget_h, isSh, ↓reduceIte, abin, q1, ARun_some, AG_ff, q2]
        refine aw_condT rfl (aw_region ?_)
        simp (disch := first | exact okY | omega) only [ZU, blockQ, Nat.reduceAdd, Nat.reduceMul, true_and, AOpRun, aexec, Nat.reduceBEq, ↓eget_h, ↓hget_h, D.isBot, D.cells, Nat.reduceLeDiff, List.all, D.leaf, ↓reduceIte, splice, List.take, List.drop]
        try refine ⟨rfl, ?_⟩
        refine wk_q [] [(8, 8), (16, 16), (96, 96), (120, 120), (121, 121), (800, 800), (808, 808), (1000, 1000)] ?_ ?_ <;> repeat' (first | exact trivial | exact vr_val _ | exact vr_list _ | exact vr_ptr _ _ _ rfl | refine And.intro ⟨_, rfl, .inl ⟨_, rfl, by decide, ?_⟩⟩ ?_ | apply And.intro | exact vr_yrefs _ _ rfl)
        all_goals first | exact tpC_in _ _ _ | exact flC_in _ _
      | false =>
        have n2 := of_decide_eq_false q2
        rw [if_neg (by rintro (h | h); exact n1 h; exact n2 h)]
        simp (disch := first | exact okY | omega) only [ZU, dI, Nat.reduceAdd, Nat.reduceMul, bodyE, asgE, parE, Nat.reduceBEq, ↓eget_h, AOpRun, aexec, run1, ↓hget_h, isSh, ↓reduceIte, abin, q1, ARun_some, AG_ff, q2]
        refine aw_condF rfl (aw_skip ?_)
        try refine ⟨rfl, ?_⟩
        refine wk_q [] [(8, 8), (16, 16), (96, 96), (120, 120), (121, 121), (800, 800), (808, 808), (1000, 1000)] ?_ ?_ <;> repeat' (first | exact trivial | exact vr_val _ | exact vr_list _ | exact vr_ptr _ _ _ rfl | refine And.intro ⟨_, rfl, .inl ⟨_, rfl, by decide, ?_⟩⟩ ?_ | apply And.intro | exact vr_yrefs _ _ rfl)
        all_goals first | exact tpC_in _ _ _ | exact flC_in _ _
  · generalize pkS l f frs frs.length = p at *
    obtain ⟨a, b⟩ := p
    unfold smH
    simp only [blockQ, thenQ]
    cases q1 : decide (a < 0) with
    | true =>
      rw [if_pos (of_decide_eq_true q1)]
      (repeat' (first | (with_reducible first | refine thenQ_n ?_ | refine blockQ_n ?_ | refine thenQ_e ?_ | refine blockQ_t ?_ | refine blockQ_f (by decide) ?_) | apply aw_seq | apply aw_skip | apply aw_exit | apply aw_ret | apply aw_block | apply aw_condT rfl | apply aw_condF rfl | ((first | refine aw_hide fun K hK => aw_region ?_ | refine ago_if (by omega) ?_ | skip); simp (disch := first | exact okY | omega) only [ZU, Nat.reduceAdd, Nat.reduceMul, dI, AOpRun, aexec, run1, ↓eget_h, Nat.reduceBEq, ↓hget_h, isSh, ↓reduceIte, abin, q1, D.isBot, D.cells, Nat.reduceLeDiff, List.all, D.leaf, splice, List.take, List.drop]) | subst hK))
      (refine end_q [] [] ?_ ?_ <;> repeat' (first | exact trivial | exact vr_val _ | apply vr_tup | apply And.intro))
    | false =>
      rw [if_neg (of_decide_eq_false q1)]
      (repeat' (first | (with_reducible first | refine thenQ_n ?_ | refine blockQ_n ?_ | refine thenQ_e ?_ | refine blockQ_t ?_ | refine blockQ_f (by decide) ?_) | apply aw_seq | apply aw_skip | apply aw_exit | apply aw_ret | apply aw_block | apply aw_condT rfl | apply aw_condF rfl | ((first | refine aw_hide fun K hK => aw_region ?_ | refine ago_if (by omega) ?_ | skip); simp (disch := first | exact okY | omega) only [ZU, Nat.reduceAdd, Nat.reduceMul, dI, AOpRun, aexec, run1, ↓eget_h, Nat.reduceBEq, ↓hget_h, isSh, ↓reduceIte, abin, q1, D.isBot, D.cells, Nat.reduceLeDiff, List.all, D.leaf, splice, List.take, List.drop]) | subst hK))
      (refine end_q [] [] ?_ ?_ <;> repeat' (first | exact trivial | exact vr_val _ | apply vr_tup | apply And.intro))
set_option maxRecDepth 100000 in
set_option maxHeartbeats 1000000 in
theorem peak_err (l : Lay) (frs : List (List Int)) (x : Int) (hl : LayIn l) (he : wfE l frs [x] ≠ 0) (hf : FrIn frs) : AC Try.prog 20 [layD l, .list (rows frs), dI x] [] [] (.tup [dI 0, dI 0, dI (wfE l frs [x])]) := by
  refine krecord_Peak.ac (n0 := 0) (by simp) ⟨in_layD _ _, .list _, .val _, trivial⟩ trivial rfl ?_
  unfold crecord_Peak layD layC
  have nt := withField_err l frs [x] hl hf (Nat.le_of_ble_eq_true rfl) he
  have h1 : (wfE l frs [x] != 0) = true := by simpa using he
  generalize wfE l frs [x] = E at *
  refine aw_seq (aw_region ?_)
  simp (disch := first | exact okY | omega) only [ZU, Int.reduceNeg, dI, Nat.reduceAdd, Nat.reduceMul, AOpRun, aexec, D.isBot, ↓eget_h, or_self, ↓reduceIte, D.cells, Nat.reduceBEq]
  refine aw_seq (aw_region ?_)
  simp (disch := first | exact okY | omega) only [ZU, Int.reduceNeg, Nat.reduceAdd, Nat.reduceMul, AOpRun, aexec, Nat.reduceBEq, ↓eget_h, Nat.reduceLeDiff, ↓reduceIte, List.drop, List.take, fillD, D.isBot, D.cells, ne_eq, not_true_eq_false, Nat.reduceGT, or_self, splice]
  refine acall nt [56] ⟨.refl _, .refl _, vec_ints [x] (by simp) rfl rfl, trivial⟩ (.inr (.tup _ (by intro d hd; simp at hd; rcases hd with rfl | rfl <;> exact .val _))) (by intro g hg; simp at hg; subst hg; exact ⟨_, rfl⟩) (by kernel_rfl) ?_
  simp (disch := first | exact okY | omega) only [ZU, Int.reduceNeg, Nat.reduceAdd, dI, Nat.reduceBEq, AOpRun, aexec, ↓eget_h, opt1]
  (repeat' (first | (with_reducible first | refine thenQ_n ?_ | refine blockQ_n ?_ | refine thenQ_e ?_ | refine blockQ_t ?_ | refine blockQ_f (by decide) ?_) | apply aw_seq | apply aw_skip | apply aw_exit | apply aw_ret | apply aw_block | apply aw_condT rfl | apply aw_condF rfl | ((first | refine aw_hide fun K hK => aw_region ?_ | refine ago_if (by omega) ?_ | skip); simp (disch := first | exact okY | omega) only [ZU, Nat.reduceAdd, Nat.reduceMul, AOpRun, aexec, Nat.reduceBEq, ↓eget_h, isSh, ↓reduceIte, abin, h1, ↓hget_h, D.isBot, D.cells, Nat.reduceLeDiff, List.all, D.leaf, splice, List.take, List.drop]) | subst hK))
  (refine end_q [] [] ?_ ?_ <;> repeat' (first | exact trivial | exact vr_val _ | apply vr_tup | apply And.intro))
noncomputable def peakR (l : Lay) (frs : List (List Int)) (x : Int) : Int × Int × Int := if wfE l frs [x] = 0 then (if (pkS l (fAt l x.toNat) frs frs.length).1 < 0 then (0, 0, 3) else ((pkS l (fAt l x.toNat) frs frs.length).1, (pkS l (fAt l x.toNat) frs frs.length).2, 0)) else (0, 0, wfE l frs [x])
theorem peak_ac (l : Lay) (frs : List (List Int)) (x : Int) (hl : LayIn l) (hf : FrIn frs) : AC Try.prog 20 [layD l, .list (rows frs), dI x] [] [] (.tup [dI (peakR l frs x).1, dI (peakR l frs x).2.1, dI (peakR l frs x).2.2]) := by
  unfold peakR
  by_cases h : wfE l frs [x] = 0
  · obtain ⟨h1, h2, _, k, rfl, hk⟩ := wfE_ok h
    have := peak_ok l frs k hl h1 h2 hf hk
    rw [if_pos h, Int.toNat_natCast]
    by_cases hp : (pkS l (fAt l k) frs frs.length).1 < 0
    · rw [if_pos hp] at this ⊢; exact this
    · rw [if_neg hp] at this ⊢; exact this
  · rw [if_neg h]; exact peak_err l frs x hl h hf
end Go.Proofs.Ytdcodicoclecnaa
/- A vibration, its check and its average, in numbers. No conditions. -/
namespace Go.Proofs.Ytdcodicoclecnaa
open Go.RowKit Lift

def iat (l : List Int) (k : Nat) : Int := l[k]?.getD 0
structure VibOk (s m : List Int) : Prop where
  sl : s.length ≤ 400
  sb : ∀ k, k < s.length → -100 ≤ iat s k ∧ iat s k ≤ 100
  ml : 2 ≤ m.length
  mh : m.length ≤ 9
  mb : ∀ k, k < m.length → 0 ≤ iat m k ∧ iat m k ≤ (s.length : Int) - 1
  mr : ∀ k, k + 1 < m.length → iat m k < iat m (k + 1)
end Go.Proofs.Ytdcodicoclecnaa
/- The functions' bodies, translated. Written by a program; no conditions. -/
namespace Go.Proofs.Ytdcodicoclecnaa
open Go.RowKit Lift

def cref12_Series : ACode :=
 (.seq
 (.region false [⟨some 2, .mv (.const (.slice none 0 0)), none, []⟩] [])
 (.seq
 (.region false [⟨some 3, .mv (.const (.slice none 0 0)), none, []⟩] [])
 (.seq
 (.seq
 (.region false [⟨some 4, .mv (.const (.int .i64 0)), none, []⟩] [])
 (.block 0
 (.loop
 (.seq
 (.seq
 (.region false [⟨some 5, .mv (.tmp 4), none, []⟩,
 ⟨some 6, .mv (.tmp 0), none, []⟩,
 ⟨some 7, .len_ (.tmp 6), none, []⟩,
 ⟨some 8, .bin .lss (.tmp 5) (.tmp 7), none, []⟩] [5, 6, 7])
 (.cond (.tmp 8)
 .skip
 (.exit 0)))
 (.seq
 (.block 1
 (.region false [⟨some 11, .mv (.tmp 3), none, []⟩,
 ⟨some 12, .mv (.tmp 0), none, []⟩,
 ⟨some 13, .mv (.tmp 4), none, []⟩,
 ⟨some 14, .iadS 2 (.tmp 12) (.tmp 13), none, []⟩,
 ⟨some 15, .iadA 2 1 (.tmp 14) (.const (.int .i64 1)), none, []⟩,
 ⟨some 16, .load1 (.tmp 15), none, []⟩,
 ⟨some 17, .buildSl 1 1 [(.val (.int .i64 0))] [(0, 1, (.tmp 16))], none, []⟩,
 ⟨some 18, .app 1 8 (.tmp 11) (.tmp 17), none, []⟩,
 ⟨some 3, .mv (.tmp 18), none, []⟩] [11, 12, 13, 14, 15, 16, 17, 18]))
 (.region false [⟨some 9, .mv (.tmp 4), none, []⟩,
 ⟨some 10, .bin .add (.tmp 9) (.const (.int .i64 1)), none, []⟩,
 ⟨some 4, .mv (.tmp 10), none, []⟩] [9, 10]))))))
 (.seq
 (.region false [⟨some 19, .mv (.tmp 3), none, []⟩,
 ⟨some 2, .mv (.tmp 19), none, []⟩] [19])
 .ret))))
set_option maxRecDepth 100000 in
theorem kref12_Series : IsCode Try.prog 61 20 cref12_Series [.tmp 2] :=
 ⟨Try.f61, _, [8, 4, 0, 3, 2], Try.func61, rfl, by decide, rfl, by kernel_rfl, by kernel_rfl⟩
end Go.Proofs.Ytdcodicoclecnaa
/- record: Shake (a reference to a yield, .yref, lies in memory). No conditions. -/
namespace Go.Proofs.Ytdcodicoclecnaa
open Go.RowKit Lift

def smV (l : Lay) (f : Fl) (frs : List (List Int)) (k : Nat) : List Int := (smps l f frs k).map (·.2)
theorem smV_len (l : Lay) (f : Fl) (frs : List (List Int)) (k : Nat) : (smV l f frs k).length = (smps l f frs k).length := by simp [smV]
end Go.Proofs.Ytdcodicoclecnaa
/- The document's check of a layout, walked. No conditions. -/
namespace Go.Proofs.Ytdcodicoclecnaa
open Go.RowKit Lift

def MeetP (f g : Fl) : Prop := Ovl f g ∧ ∃ s : Nat, s < 4 ∧ inSub f s ∧ inSub g s
open Classical in
noncomputable def meetB (f g : Fl) : Bool := decide (MeetP f g)
theorem meetB_t {f g : Fl} (h : MeetP f g) : meetB f g = true := by unfold meetB; simpa using h
theorem meetB_f {f g : Fl} (h : ¬ MeetP f g) : meetB f g = false := by unfold meetB; simpa using h
set_option maxRecDepth 100000 in
set_option maxHeartbeats 4000000 in
theorem meet_ac {w : Int} {f g : Fl} (hf : FOk w f) (hg' : FOk w g) : AC Try.prog 80 [flD f, flD g] [] [] (dB (meetB f g)) := by
  refine kref12_meet.ac (n0 := 0) (by simp) ⟨in_flD _ _, in_flD _ _, trivial⟩ trivial rfl ?_
  unfold cref12_meet flD flC
  have f1 := hf.b1; have f2 := hf.s1; have f3 := hf.bs
  have g1 := hg'.b1; have g2 := hg'.s1; have g3 := hg'.bs
  have ef : ¬ f.every = 0 := by have := hf.ev; omega
  have eg : ¬ g.every = 0 := by have := hg'.ev; omega
  by_cases h1 : f.word = g.word
  case neg =>
    rw [meetB_f fun h => h1 h.1.1]
    have q : (f.word != g.word) = true := by simp [h1]
    (repeat' (first | (with_reducible first | refine thenQ_n ?_ | refine blockQ_n ?_ | refine thenQ_e ?_ | refine blockQ_t ?_ | refine blockQ_f (by decide) ?_) | apply aw_seq | apply aw_skip | apply aw_exit | apply aw_ret | apply aw_block | apply aw_condT rfl | apply aw_condF rfl | ((first | refine aw_hide fun K hK => aw_region ?_ | refine ago_if (by omega) ?_ | skip); simp (disch := first | exact okY | omega) only [ZU, Nat.reduceAdd, Nat.reduceMul, dI, dB, AOpRun, aexec, D.isBot, ↓eget_h, or_self, ↓reduceIte, D.cells, Nat.reduceBEq, run1, ↓hget_h, isSh, abin, q, ARun_some, AG_tf]) | subst hK))
    all_goals (refine end_q [] [] ?_ ?_ <;> repeat' (first | exact trivial | exact vr_val _))
  have q1 : (f.word != g.word) = false := by simp [h1]
  by_cases h2 : f.bit < g.bit + g.size
  case neg =>
    rw [meetB_f fun h => h2 h.1.2.1]
    have q2 : decide (f.bit ≥ g.bit + g.size) = true := decide_eq_true (by omega)
    (repeat' (first | (with_reducible first | refine thenQ_n ?_ | refine blockQ_n ?_ | refine thenQ_e ?_ | refine blockQ_t ?_ | refine blockQ_f (by decide) ?_) | apply aw_seq | apply aw_skip | apply aw_exit | apply aw_ret | apply aw_block | apply aw_condT rfl | apply aw_condF rfl | ((first | refine aw_hide fun K hK => aw_region ?_ | refine ago_if (by omega) ?_ | skip); simp (disch := first | exact okY | omega) only [ZU, Nat.reduceAdd, Nat.reduceMul, dI, dB, AOpRun, aexec, D.isBot, ↓eget_h, or_self, ↓reduceIte, D.cells, Nat.reduceBEq, run1, ↓hget_h, isSh, abin, q1, ARun_some, AG_ff, fits, q2, AG_tf]) | subst hK))
    all_goals (refine end_q [] [] ?_ ?_ <;> repeat' (first | exact trivial | exact vr_val _))
  have q2 : decide (f.bit ≥ g.bit + g.size) = false := decide_eq_false (by omega)
  by_cases h3 : g.bit < f.bit + f.size
  case neg =>
    rw [meetB_f fun h => h3 h.1.2.2]
    have q3 : decide (g.bit ≥ f.bit + f.size) = true := decide_eq_true (by omega)
    (repeat' (first | (with_reducible first | refine thenQ_n ?_ | refine blockQ_n ?_ | refine thenQ_e ?_ | refine blockQ_t ?_ | refine blockQ_f (by decide) ?_) | apply aw_seq | apply aw_skip | apply aw_exit | apply aw_ret | apply aw_block | apply aw_condT rfl | apply aw_condF rfl | ((first | refine aw_hide fun K hK => aw_region ?_ | refine ago_if (by omega) ?_ | skip); simp (disch := first | exact okY | omega) only [ZU, Nat.reduceAdd, Nat.reduceMul, dI, dB, AOpRun, aexec, D.isBot, ↓eget_h, or_self, ↓reduceIte, D.cells, Nat.reduceBEq, run1, ↓hget_h, isSh, abin, q1, ARun_some, AG_ff, fits, q2, q3]) | subst hK))
    all_goals (refine end_q [] [] ?_ ?_ <;> repeat' (first | exact trivial | exact vr_val _))
  have q3 : decide (g.bit ≥ f.bit + f.size) = false := decide_eq_false (by omega)
  (repeat' (first | (with_reducible first | refine thenQ_n ?_ | refine blockQ_n ?_ | refine thenQ_e ?_ | refine blockQ_t ?_ | refine blockQ_f (by decide) ?_) | apply aw_seq | apply aw_skip | apply aw_exit | apply aw_ret | apply aw_block | apply aw_condT rfl | apply aw_condF rfl | ((first | refine aw_hide fun K hK => aw_region ?_ | refine ago_if (by omega) ?_ | skip); simp (disch := first | exact okY | omega) only [ZU, Nat.reduceAdd, Nat.reduceMul, dI, dB, AOpRun, aexec, D.isBot, ↓eget_h, or_self, ↓reduceIte, D.cells, Nat.reduceBEq, run1, ↓hget_h, isSh, abin, q1, ARun_some, AG_ff, fits, q2, q3]) | subst hK))
  refine aw_loop (fun s : Nat => ⟨[(2, .ptr 0 0), (3, .ptr 8 0), (4, dB false), (5, dI s)], [(0, [dI f.word, dI f.bit, dI f.size, dB f.sgn, dI f.num, dI f.den, dI f.add, dI f.every, dI f.phase]), (8, [dI g.word, dI g.bit, dI g.size, dB g.sgn, dI g.num, dI g.den, dI g.add, dI g.every, dI g.phase])], 100⟩) (fun s => s ≤ 4 ∧ ∀ t : Nat, t < s → ¬ (inSub f t ∧ inSub g t)) (fun s => 4 - s) ⟨0, ⟨by omega, fun j hj => by omega⟩, ?_⟩ ?_
  · refine wk_q [] [(0, 0), (8, 8)] ?_ ?_ <;> repeat' (first | exact trivial | exact vr_val _ | exact vr_ptr _ _ _ rfl | refine And.intro ⟨_, rfl, .inl ⟨_, rfl, by decide, ?_⟩⟩ ?_ | apply And.intro)
  rintro s ⟨hs, hno⟩
  by_cases hs4 : s < 4
  · have ki : (s : Int) < 4 := by omega
    by_cases hi : inSub f s
    · have qi : ((s : Int).tmod f.every == f.phase) = true := inB_t hi
      by_cases hj : inSub g s
      · have qj : ((s : Int).tmod g.every == g.phase) = true := inB_t hj
        rw [meetB_t ⟨⟨h1, h2, h3⟩, s, hs4, hi, hj⟩]
        (repeat' (first | (with_reducible first | refine thenQ_n ?_ | refine blockQ_n ?_ | refine thenQ_e ?_ | refine blockQ_t ?_ | refine blockQ_f (by decide) ?_) | apply aw_seq | apply aw_skip | apply aw_exit | apply aw_ret | apply aw_block | apply aw_condT rfl | apply aw_condF rfl | ((first | refine aw_hide fun K hK => aw_region ?_ | refine ago_if (by omega) ?_ | skip); simp (disch := first | exact okY | omega) only [ZU, Nat.reduceAdd, Nat.reduceMul, dB, dI, AOpRun, aexec, Nat.reduceBEq, ↓eget_h, isSh, ↓reduceIte, abin, ki, run1, ef, qi, ARun_some, AG_tt, ↓hget_h, eg, qj, blockQ]) | subst hK))
        all_goals (refine end_q [] [] ?_ ?_ <;> repeat' (first | exact trivial | exact vr_val _))
      · have qj : ((s : Int).tmod g.every == g.phase) = false := inB_f hj
        (repeat' (first | (with_reducible first | refine thenQ_n ?_ | refine blockQ_n ?_ | refine thenQ_e ?_ | refine blockQ_t ?_ | refine blockQ_f (by decide) ?_) | apply aw_seq | apply aw_skip | apply aw_exit | apply aw_ret | apply aw_block | apply aw_condT rfl | apply aw_condF rfl | ((first | refine aw_hide fun K hK => aw_region ?_ | refine ago_if (by omega) ?_ | skip); simp (disch := first | exact okY | omega) only [ZU, Nat.reduceAdd, Nat.reduceMul, dB, dI, AOpRun, aexec, Nat.reduceBEq, ↓eget_h, isSh, ↓reduceIte, abin, ki, run1, ef, qi, ARun_some, AG_tt, ↓hget_h, eg, qj, fits]) | subst hK))
        refine ⟨s + 1, ⟨by omega, fun t ht => ?_⟩, by omega, ?_⟩
        · rcases (by omega : t < s ∨ t = s) with h | rfl
          · exact hno t h
          · exact fun h => hj h.2
        · refine wk_q [] [(0, 0), (8, 8)] ?_ ?_ <;> repeat' (first | exact trivial | exact vr_val _ | exact vr_ptr _ _ _ rfl | refine And.intro ⟨_, rfl, .inl ⟨_, rfl, by decide, ?_⟩⟩ ?_ | apply And.intro)
    · have qi : ((s : Int).tmod f.every == f.phase) = false := inB_f hi
      (repeat' (first | (with_reducible first | refine thenQ_n ?_ | refine blockQ_n ?_ | refine thenQ_e ?_ | refine blockQ_t ?_ | refine blockQ_f (by decide) ?_) | apply aw_seq | apply aw_skip | apply aw_exit | apply aw_ret | apply aw_block | apply aw_condT rfl | apply aw_condF rfl | ((first | refine aw_hide fun K hK => aw_region ?_ | refine ago_if (by omega) ?_ | skip); simp (disch := first | exact okY | omega) only [ZU, Nat.reduceAdd, Nat.reduceMul, dB, dI, AOpRun, aexec, Nat.reduceBEq, ↓eget_h, isSh, ↓reduceIte, abin, ki, run1, ef, qi, ARun_some, AG_ft, fits]) | subst hK))
      refine ⟨s + 1, ⟨by omega, fun t ht => ?_⟩, by omega, ?_⟩
      · rcases (by omega : t < s ∨ t = s) with h | rfl
        · exact hno t h
        · exact fun h => hi h.1
      · refine wk_q [] [(0, 0), (8, 8)] ?_ ?_ <;> repeat' (first | exact trivial | exact vr_val _ | exact vr_ptr _ _ _ rfl | refine And.intro ⟨_, rfl, .inl ⟨_, rfl, by decide, ?_⟩⟩ ?_ | apply And.intro)
  · obtain rfl : s = 4 := by omega
    rw [meetB_f fun h => by obtain ⟨_, t, ht, h⟩ := h; exact hno t ht h]
    (repeat' (first | (with_reducible first | refine thenQ_n ?_ | refine blockQ_n ?_ | refine thenQ_e ?_ | refine blockQ_t ?_ | refine blockQ_f (by decide) ?_) | apply aw_seq | apply aw_skip | apply aw_exit | apply aw_ret | apply aw_block | apply aw_condT rfl | apply aw_condF rfl | ((first | refine aw_hide fun K hK => aw_region ?_ | refine ago_if (by omega) ?_ | skip); simp (disch := first | exact okY | omega) only [ZU, Nat.reduceAdd, Nat.reduceMul, dB, dI, cast_lit, AOpRun, aexec, Nat.reduceBEq, ↓eget_h, isSh, ↓reduceIte, abin, Int.reduceLT, decide_false]) | subst hK))
    all_goals (refine end_q [] [] ?_ ?_ <;> repeat' (first | exact trivial | exact vr_val _))
theorem sync_at (l : Lay) (k : Nat) (hk : k < 4) : ([.val (.int .i64 l.words), .val (.int .i64 l.s0), .val (.int .i64 l.s1), .val (.int .i64 l.s2), .val (.int .i64 l.s3), .list (fls l.fl)] : List D)[1 + k]? = some (.val (.int .i64 ((sync l)[k]?.getD 0))) := by
  rcases (by omega : k = 0 ∨ k = 1 ∨ k = 2 ∨ k = 3) with rfl | rfl | rfl | rfl <;> rfl
set_option maxRecDepth 100000 in
set_option maxHeartbeats 16000000 in
theorem rcheck_ac (l : Lay) (hl : LayIn l) : AC Try.prog 28 [layD l] [] [] (dI (layE l 120)) := by
  refine kref12_Check.ac (n0 := 0) (by simp) ⟨in_layD _ _, trivial⟩ trivial rfl ?_
  unfold cref12_Check layD layC
  have hmax : maxLen = 9223372036854775807 := rfl
  have hnf := hl.nf
  cases h1 : wI l.words 2 32 with
  | false =>
    have e : layE l 120 = 120 := layE_no fun h => by have := wI_f h1; have := h.w1; have := h.w2; omega
    rw [e]
    (repeat' (first | (with_reducible first | refine thenQ_n ?_ | refine blockQ_n ?_ | refine thenQ_e ?_ | refine blockQ_t ?_ | refine blockQ_f (by decide) ?_) | apply aw_seq | apply aw_skip | apply aw_exit | apply aw_ret | apply aw_block | apply aw_condT rfl | apply aw_condF rfl | ((first | refine aw_hide fun K hK => aw_region ?_ | refine acall0 (from_ac _ _ _) ?_ | refine ago_if (by omega) ?_ | skip); simp (disch := first | exact okY | omega) only [ZU, Nat.reduceAdd, Nat.reduceMul, dI, AOpRun, aexec, D.isBot, ↓eget_h, or_self, ↓reduceIte, D.cells, Nat.reduceBEq, run1, dB, h1, ARun_some, AG_tf]) | subst hK))
    all_goals (refine end_q [] [] ?_ ?_ <;> repeat' (first | exact trivial | exact vr_val _))
  | true =>
  have w1 := wI_t h1
  by_cases h2 : l.fl.length ≤ 16
  case neg =>
    have e : layE l 120 = 120 := layE_no fun h => h2 h.nf
    have q : decide ((l.fl.length : Int) > 16) = true := decide_eq_true (by omega)
    rw [e]
    (repeat' (first | (with_reducible first | refine thenQ_n ?_ | refine blockQ_n ?_ | refine thenQ_e ?_ | refine blockQ_t ?_ | refine blockQ_f (by decide) ?_) | apply aw_seq | apply aw_skip | apply aw_exit | apply aw_ret | apply aw_block | apply aw_condT rfl | apply aw_condF rfl | ((first | refine aw_hide fun K hK => aw_region ?_ | refine acall0 (from_ac _ _ _) ?_ | refine ago_if (by omega) ?_ | skip); simp (disch := first | exact okY | omega) only [ZU, Nat.reduceAdd, Nat.reduceMul, dI, AOpRun, aexec, D.isBot, ↓eget_h, or_self, ↓reduceIte, D.cells, Nat.reduceBEq, run1, dB, h1, ARun_some, AG_ff, fls_len, isSh, abin, q]) | subst hK))
    all_goals (refine end_q [] [] ?_ ?_ <;> repeat' (first | exact trivial | exact vr_val _))
  have q2 : decide ((l.fl.length : Int) > 16) = false := decide_eq_false (by omega)
  (repeat' (first | (with_reducible first | refine thenQ_n ?_ | refine blockQ_n ?_ | refine thenQ_e ?_ | refine blockQ_t ?_ | refine blockQ_f (by decide) ?_) | apply aw_seq | apply aw_skip | apply aw_exit | apply aw_ret | apply aw_block | apply aw_condT rfl | apply aw_condF rfl | ((first | refine aw_hide fun K hK => aw_region ?_ | refine acall0 (from_ac _ _ _) ?_ | refine ago_if (by omega) ?_ | skip); simp (disch := first | exact okY | omega) only [ZU, Nat.reduceAdd, Nat.reduceMul, dI, AOpRun, aexec, D.isBot, ↓eget_h, or_self, ↓reduceIte, D.cells, Nat.reduceBEq, run1, dB, h1, ARun_some, AG_ff, fls_len, isSh, abin, q2, Int.reduceNeg]) | subst hK))
  refine aw_loop (fun k : Nat => ⟨[(1, .ptr 0 0), (3, dI k)], [(0, [dI l.words, dI l.s0, dI l.s1, dI l.s2, dI l.s3, .list (fls l.fl)])], 100⟩) (fun k => k ≤ 4 ∧ SyncOk l k) (fun k => 4 - k) ⟨0, ⟨by omega, fun j hj => by omega⟩, ?_⟩ ?_
  · refine wk_q [] [(0, 0)] ?_ ?_ <;> repeat' (first | exact trivial | exact vr_val _ | exact vr_list _ | exact vr_ptr _ _ _ rfl | refine And.intro ⟨_, rfl, .inl ⟨_, rfl, by decide, ?_⟩⟩ ?_ | apply And.intro)
  rintro k ⟨hk, hin⟩
  by_cases hk4 : k < 4
  · have gx := sync_at l k hk4
    have hno := sync_no l k hk4
    have hst := sync_step hk4 hin
    obtain ⟨x, hx⟩ : ∃ x, (sync l)[k]?.getD 0 = x := ⟨_, rfl⟩
    rw [hx] at hno hst gx
    have ki : (k : Int) < 4 := by omega
    cases hw : wI x 0 4095 with
    | false =>
      have e : layE l 120 = 120 := layE_no (hno (.inl hw))
      rw [e]
      (repeat' (first | (with_reducible first | refine thenQ_n ?_ | refine blockQ_n ?_ | refine thenQ_e ?_ | refine blockQ_t ?_ | refine blockQ_f (by decide) ?_) | apply aw_seq | apply aw_skip | apply aw_exit | apply aw_ret | apply aw_block | apply aw_condT rfl | apply aw_condF rfl | ((first | refine aw_hide fun K hK => aw_region ?_ | refine acall0 (from_ac _ _ _) ?_ | refine ago_if (by omega) ?_ | skip); simp (disch := first | exact okY | omega) only [ZU, Nat.reduceAdd, Nat.reduceMul, dI, AOpRun, aexec, Nat.reduceBEq, ↓eget_h, isSh, ↓reduceIte, abin, ki, cast_lit, Nat.mul_one, run1, Nat.add_zero, gx, dB, hw, blockQ]) | subst hK))
      all_goals (refine end_q [] [] ?_ ?_ <;> repeat' (first | exact trivial | exact vr_val _))
    | true =>
      (repeat' (first | (with_reducible first | refine thenQ_n ?_ | refine blockQ_n ?_ | refine thenQ_e ?_ | refine blockQ_t ?_ | refine blockQ_f (by decide) ?_) | apply aw_seq | apply aw_skip | apply aw_exit | apply aw_ret | apply aw_block | apply aw_condT rfl | apply aw_condF rfl | ((first | refine aw_hide fun K hK => aw_region ?_ | refine acall0 (from_ac _ _ _) ?_ | refine ago_if (by omega) ?_ | skip); simp (disch := first | exact okY | omega) only [ZU, Nat.reduceAdd, Nat.reduceMul, dI, AOpRun, aexec, Nat.reduceBEq, ↓eget_h, isSh, ↓reduceIte, abin, ki, cast_lit, Nat.mul_one, run1, Nat.add_zero, gx, dB, hw, Int.reduceNeg]) | subst hK))
      refine aw_loop (fun j : Nat => ⟨[(1, .ptr 0 0), (3, dI k), (4, dI j)], [(0, [dI l.words, dI l.s0, dI l.s1, dI l.s2, dI l.s3, .list (fls l.fl)])], 100⟩) (fun j => j ≤ k ∧ ∀ i, i < j → (sync l)[i]?.getD 0 ≠ x) (fun j => k - j) ⟨0, ⟨by omega, fun j hj => by omega⟩, ?_⟩ ?_
      · refine wk_q [] [(0, 0)] ?_ ?_ <;> repeat' (first | exact trivial | exact vr_val _ | exact vr_list _ | exact vr_ptr _ _ _ rfl | refine And.intro ⟨_, rfl, .inl ⟨_, rfl, by decide, ?_⟩⟩ ?_ | apply And.intro)
      rintro j ⟨hj, hne⟩
      by_cases hjk : j < k
      · have gj := sync_at l j (by omega)
        have kj : (j : Int) < (k : Int) := by omega
        have kj4 : (j : Int) < 4 := by omega
        by_cases he : (sync l)[j]?.getD 0 = x
        · have q : (x == (sync l)[j]?.getD 0) = true := by simp [he]
          have e : layE l 120 = 120 := layE_no (hno (.inr (by
            have hj4 : j < (sync l).length := by simp [sync]; omega
            rw [List.mem_take_iff_getElem]
            exact ⟨j, by omega, by simpa [hj4] using he⟩)))
          rw [e]
          (repeat' (first | (with_reducible first | refine thenQ_n ?_ | refine blockQ_n ?_ | refine thenQ_e ?_ | refine blockQ_t ?_ | refine blockQ_f (by decide) ?_) | apply aw_seq | apply aw_skip | apply aw_exit | apply aw_ret | apply aw_block | apply aw_condT rfl | apply aw_condF rfl | ((first | refine aw_hide fun K hK => aw_region ?_ | refine ago_if (by omega) ?_ | skip); simp (disch := first | exact okY | omega) only [ZU, Nat.reduceAdd, Nat.reduceMul, dI, AOpRun, aexec, Nat.reduceBEq, ↓eget_h, isSh, ↓reduceIte, abin, kj, cast_lit, ki, Nat.mul_one, run1, Nat.add_zero, gx, kj4, gj, q, blockQ]) | subst hK))
          all_goals (refine end_q [] [] ?_ ?_ <;> repeat' (first | exact trivial | exact vr_val _))
        · have q : (x == (sync l)[j]?.getD 0) = false := by simp only [beq_eq_false_iff_ne]; exact fun h => he h.symm
          (repeat' (first | (with_reducible first | refine thenQ_n ?_ | refine blockQ_n ?_ | refine thenQ_e ?_ | refine blockQ_t ?_ | refine blockQ_f (by decide) ?_) | apply aw_seq | apply aw_skip | apply aw_exit | apply aw_ret | apply aw_block | apply aw_condT rfl | apply aw_condF rfl | ((first | refine aw_hide fun K hK => aw_region ?_ | refine ago_if (by omega) ?_ | skip); simp (disch := first | exact okY | omega) only [ZU, Nat.reduceAdd, Nat.reduceMul, dI, AOpRun, aexec, Nat.reduceBEq, ↓eget_h, isSh, ↓reduceIte, abin, kj, cast_lit, ki, Nat.mul_one, run1, Nat.add_zero, gx, kj4, gj, q, fits, ne_eq]) | subst hK))
          refine ⟨j + 1, ⟨by omega, fun i hi => ?_⟩, by omega, ?_⟩
          · rcases (by omega : i < j ∨ i = j) with h | rfl
            · exact hne i h
            · exact he
          · refine wk_q [] [(0, 0)] ?_ ?_ <;> repeat' (first | exact trivial | exact vr_val _ | exact vr_list _ | exact vr_ptr _ _ _ rfl | refine And.intro ⟨_, rfl, .inl ⟨_, rfl, by decide, ?_⟩⟩ ?_ | apply And.intro)
      · obtain rfl : j = k := by omega
        (have hg : (987654321 : Nat) - 987654321 = 0 := rfl; have hr := hg; repeat' (first | (with_reducible first | refine thenQ_n ?_ | refine blockQ_n ?_ | refine thenQ_e ?_ | refine blockQ_t ?_ | refine blockQ_f (by decide) ?_) | apply aw_seq | apply aw_skip | apply aw_exit | apply aw_ret | apply aw_block | apply aw_condT rfl | apply aw_condF rfl | (refine aw_cond rfl (fun hg => ?_) (fun hg => ?_) <;> (try (have hq := hg; simp only [Bool.not_eq_true', Bool.not_eq_false', Bool.and_eq_true, Bool.and_eq_false_iff, Bool.or_eq_true, Bool.or_eq_false_iff, decide_eq_true_eq, decide_eq_false_iff_not, bne_iff_ne, beq_iff_eq, beq_eq_false_iff_ne, bne_eq_false_iff_eq, ne_eq, Int.not_lt, Int.not_le, Decidable.not_not] at hq)) <;> (try (have hr := hg; simp only [decide_eq_true_eq, decide_eq_false_iff_not] at hr)) <;> (try (exfalso; omega))) | ((first | refine aw_hide fun K hK => aw_region ?_ | refine ago_if (by omega) ?_ | skip); simp (disch := first | exact okY | omega) only [ZU, Nat.reduceAdd, Nat.reduceMul, dI, AOpRun, aexec, Nat.reduceBEq, ↓eget_h, isSh, ↓reduceIte, abin, hr, decide_false, fits]) | subst hK))
        refine ⟨j + 1, ⟨by omega, hst hw fun h => ?_⟩, by omega, ?_⟩
        · obtain ⟨i, hi, he⟩ := List.getElem_of_mem h
          have hij : i < j := by simp at hi; omega
          rw [List.getElem_take] at he
          have hi4 : i < (sync l).length := by simp [sync]; omega
          exact hne i hij (by simp [hi4, he])
        · refine wk_q [] [(0, 0)] ?_ ?_ <;> repeat' (first | exact trivial | exact vr_val _ | exact vr_list _ | exact vr_ptr _ _ _ rfl | refine And.intro ⟨_, rfl, .inl ⟨_, rfl, by decide, ?_⟩⟩ ?_ | apply And.intro)
  obtain rfl : k = 4 := by omega
  have cF : ∀ k, k < l.fl.length → (fls l.fl)[k]? = some (flC (fAt l k)) := fun k h => fls_gd l.fl k h
  (repeat' (first | (with_reducible first | refine thenQ_n ?_ | refine blockQ_n ?_ | refine thenQ_e ?_ | refine blockQ_t ?_ | refine blockQ_f (by decide) ?_) | apply aw_seq | apply aw_skip | apply aw_exit | apply aw_ret | apply aw_block | apply aw_condT rfl | apply aw_condF rfl | ((first | refine aw_hide fun K hK => aw_region ?_ | refine ago_if (by omega) ?_ | skip); simp (disch := first | exact okY | omega) only [ZU, Nat.reduceAdd, Nat.reduceMul, dI, cast_lit, AOpRun, aexec, Nat.reduceBEq, ↓eget_h, isSh, ↓reduceIte, abin, Int.reduceLT, decide_false]) | subst hK))
  refine aw_loop (fun k : Nat => ⟨[(1, .ptr 0 0), (5, dI k)], [(0, [dI l.words, dI l.s0, dI l.s1, dI l.s2, dI l.s3, .list (fls l.fl)])], 100⟩) (fun k => k ≤ l.fl.length ∧ ∀ j, j < k → FOk l.words (fAt l j)) (fun k => l.fl.length - k) ⟨0, ⟨by omega, fun j hj => by omega⟩, ?_⟩ ?_
  · refine wk_q [] [(0, 0)] ?_ ?_ <;> repeat' (first | exact trivial | exact vr_val _ | exact vr_list _ | exact vr_ptr _ _ _ rfl | refine And.intro ⟨_, rfl, .inl ⟨_, rfl, by decide, ?_⟩⟩ ?_ | apply And.intro)
  · rintro k ⟨hk, hfo⟩
    by_cases hk2 : k < l.fl.length
    · have g1 := cF k hk2
      have ki : (k : Int) < (l.fl.length : Int) := by omega
      have no : ¬ FOk l.words (fAt l k) → layE l 120 = 120 := fun h => layE_no fun ho => h (ho.fo k hk2)
      have yes : FOk l.words (fAt l k) → ∀ j, j < k + 1 → FOk l.words (fAt l j) := fun h j hj => by
        rcases (by omega : j < k ∨ j = k) with h' | rfl
        · exact hfo j h'
        · exact h
      generalize fAt l k = f at g1 no yes

      cases c1 : wI f.word 1 (l.words - 1) with
      | false =>
        rw [no fun hf => by have h := c1; have := wI_f h; have := hf.w1; have := hf.w2; omega]
        (repeat' (first | (with_reducible first | refine thenQ_n ?_ | refine blockQ_n ?_ | refine thenQ_e ?_ | refine blockQ_t ?_ | refine blockQ_f (by decide) ?_) | apply aw_seq | apply aw_skip | apply aw_exit | apply aw_ret | apply aw_block | apply aw_condT rfl | apply aw_condF rfl | ((first | refine aw_hide fun K hK => aw_region ?_ | refine acall0 (from_ac _ _ _) ?_ | refine ago_if (by omega) ?_ | skip); simp (disch := first | exact okY | omega) only [ZU, Nat.reduceAdd, Nat.reduceMul, dI, AOpRun, aexec, Nat.reduceBEq, ↓eget_h, run1, fls_len, isSh, ↓reduceIte, abin, ki, fls_all, opt1, g1, flC, dB, Nat.reduceLeDiff, List.take, ↓hget_h, D.isBot, D.cells, List.all, D.leaf, splice, List.drop, Int.reduceNeg, fits, c1, ARun_some, AG_tf, Nat.mul_one, blockQ]) | subst hK))
        all_goals (refine end_q [] [] ?_ ?_ <;> repeat' (first | exact trivial | exact vr_val _))
      | true =>
      have b1 := wI_t c1
      cases c2 : wI f.bit 0 12 with
      | false =>
        rw [no fun hf => by have h := c2; have := wI_f h; have := hf.b1; have := hf.bs; have := hf.s1; omega]
        (repeat' (first | (with_reducible first | refine thenQ_n ?_ | refine blockQ_n ?_ | refine thenQ_e ?_ | refine blockQ_t ?_ | refine blockQ_f (by decide) ?_) | apply aw_seq | apply aw_skip | apply aw_exit | apply aw_ret | apply aw_block | apply aw_condT rfl | apply aw_condF rfl | ((first | refine aw_hide fun K hK => aw_region ?_ | refine acall0 (from_ac _ _ _) ?_ | refine ago_if (by omega) ?_ | skip); simp (disch := first | exact okY | omega) only [ZU, Nat.reduceAdd, Nat.reduceMul, dI, AOpRun, aexec, Nat.reduceBEq, ↓eget_h, run1, fls_len, isSh, ↓reduceIte, abin, ki, fls_all, opt1, g1, flC, dB, Nat.reduceLeDiff, List.take, ↓hget_h, D.isBot, D.cells, List.all, D.leaf, splice, List.drop, Int.reduceNeg, fits, c1, ARun_some, AG_ff, c2, AG_tf, Nat.mul_one, blockQ]) | subst hK))
        all_goals (refine end_q [] [] ?_ ?_ <;> repeat' (first | exact trivial | exact vr_val _))
      | true =>
      have b2 := wI_t c2
      cases c3 : wI f.size 1 12 with
      | false =>
        rw [no fun hf => by have h := c3; have := wI_f h; have := hf.b1; have := hf.bs; have := hf.s1; omega]
        (repeat' (first | (with_reducible first | refine thenQ_n ?_ | refine blockQ_n ?_ | refine thenQ_e ?_ | refine blockQ_t ?_ | refine blockQ_f (by decide) ?_) | apply aw_seq | apply aw_skip | apply aw_exit | apply aw_ret | apply aw_block | apply aw_condT rfl | apply aw_condF rfl | ((first | refine aw_hide fun K hK => aw_region ?_ | refine acall0 (from_ac _ _ _) ?_ | refine ago_if (by omega) ?_ | skip); simp (disch := first | exact okY | omega) only [ZU, Nat.reduceAdd, Nat.reduceMul, dI, AOpRun, aexec, Nat.reduceBEq, ↓eget_h, run1, fls_len, isSh, ↓reduceIte, abin, ki, fls_all, opt1, g1, flC, dB, Nat.reduceLeDiff, List.take, ↓hget_h, D.isBot, D.cells, List.all, D.leaf, splice, List.drop, Int.reduceNeg, fits, c1, ARun_some, AG_ff, c2, c3, AG_tf, Nat.mul_one, blockQ]) | subst hK))
        all_goals (refine end_q [] [] ?_ ?_ <;> repeat' (first | exact trivial | exact vr_val _))
      | true =>
      have b3 := wI_t c3
      cases c4 : decide (f.bit + f.size > 12) with
      | true =>
        rw [no fun hf => by have := hf.bs; have := of_decide_eq_true c4; omega]
        (repeat' (first | (with_reducible first | refine thenQ_n ?_ | refine blockQ_n ?_ | refine thenQ_e ?_ | refine blockQ_t ?_ | refine blockQ_f (by decide) ?_) | apply aw_seq | apply aw_skip | apply aw_exit | apply aw_ret | apply aw_block | apply aw_condT rfl | apply aw_condF rfl | ((first | refine aw_hide fun K hK => aw_region ?_ | refine acall0 (from_ac _ _ _) ?_ | refine ago_if (by omega) ?_ | skip); simp (disch := first | exact okY | omega) only [ZU, Nat.reduceAdd, Nat.reduceMul, dI, AOpRun, aexec, Nat.reduceBEq, ↓eget_h, run1, fls_len, isSh, ↓reduceIte, abin, ki, fls_all, opt1, g1, flC, dB, Nat.reduceLeDiff, List.take, ↓hget_h, D.isBot, D.cells, List.all, D.leaf, splice, List.drop, Int.reduceNeg, fits, c1, ARun_some, AG_ff, c2, c3, c4, AG_tf, Nat.mul_one, blockQ]) | subst hK))
        all_goals (refine end_q [] [] ?_ ?_ <;> repeat' (first | exact trivial | exact vr_val _))
      | false =>
      cases c5 : wI f.num (-1000) 1000 with
      | false =>
        rw [no fun hf => by have h := c5; have := wI_f h; have := hf.n1; have := hf.n2; omega]
        (repeat' (first | (with_reducible first | refine thenQ_n ?_ | refine blockQ_n ?_ | refine thenQ_e ?_ | refine blockQ_t ?_ | refine blockQ_f (by decide) ?_) | apply aw_seq | apply aw_skip | apply aw_exit | apply aw_ret | apply aw_block | apply aw_condT rfl | apply aw_condF rfl | ((first | refine aw_hide fun K hK => aw_region ?_ | refine acall0 (from_ac _ _ _) ?_ | refine ago_if (by omega) ?_ | skip); simp (disch := first | exact okY | omega) only [ZU, Nat.reduceAdd, Nat.reduceMul, dI, AOpRun, aexec, Nat.reduceBEq, ↓eget_h, run1, fls_len, isSh, ↓reduceIte, abin, ki, fls_all, opt1, g1, flC, dB, Nat.reduceLeDiff, List.take, ↓hget_h, D.isBot, D.cells, List.all, D.leaf, splice, List.drop, Int.reduceNeg, fits, c1, ARun_some, AG_ff, c2, c3, c4, c5, AG_tf, Nat.mul_one, blockQ]) | subst hK))
        all_goals (refine end_q [] [] ?_ ?_ <;> repeat' (first | exact trivial | exact vr_val _))
      | true =>
      have b5 := wI_t c5
      cases c6 : wI f.den 1 1000 with
      | false =>
        rw [no fun hf => by have h := c6; have := wI_f h; have := hf.d1; have := hf.d2; omega]
        (repeat' (first | (with_reducible first | refine thenQ_n ?_ | refine blockQ_n ?_ | refine thenQ_e ?_ | refine blockQ_t ?_ | refine blockQ_f (by decide) ?_) | apply aw_seq | apply aw_skip | apply aw_exit | apply aw_ret | apply aw_block | apply aw_condT rfl | apply aw_condF rfl | ((first | refine aw_hide fun K hK => aw_region ?_ | refine acall0 (from_ac _ _ _) ?_ | refine ago_if (by omega) ?_ | skip); simp (disch := first | exact okY | omega) only [ZU, Nat.reduceAdd, Nat.reduceMul, dI, AOpRun, aexec, Nat.reduceBEq, ↓eget_h, run1, fls_len, isSh, ↓reduceIte, abin, ki, fls_all, opt1, g1, flC, dB, Nat.reduceLeDiff, List.take, ↓hget_h, D.isBot, D.cells, List.all, D.leaf, splice, List.drop, Int.reduceNeg, fits, c1, ARun_some, AG_ff, c2, c3, c4, c5, c6, AG_tf, Nat.mul_one, blockQ]) | subst hK))
        all_goals (refine end_q [] [] ?_ ?_ <;> repeat' (first | exact trivial | exact vr_val _))
      | true =>
      have b6 := wI_t c6
      cases c7 : wI f.add (-1000000) 1000000 with
      | false =>
        rw [no fun hf => by have h := c7; have := wI_f h; have := hf.a1; have := hf.a2; omega]
        (repeat' (first | (with_reducible first | refine thenQ_n ?_ | refine blockQ_n ?_ | refine thenQ_e ?_ | refine blockQ_t ?_ | refine blockQ_f (by decide) ?_) | apply aw_seq | apply aw_skip | apply aw_exit | apply aw_ret | apply aw_block | apply aw_condT rfl | apply aw_condF rfl | ((first | refine aw_hide fun K hK => aw_region ?_ | refine acall0 (from_ac _ _ _) ?_ | refine ago_if (by omega) ?_ | skip); simp (disch := first | exact okY | omega) only [ZU, Nat.reduceAdd, Nat.reduceMul, dI, AOpRun, aexec, Nat.reduceBEq, ↓eget_h, run1, fls_len, isSh, ↓reduceIte, abin, ki, fls_all, opt1, g1, flC, dB, Nat.reduceLeDiff, List.take, ↓hget_h, D.isBot, D.cells, List.all, D.leaf, splice, List.drop, Int.reduceNeg, fits, c1, ARun_some, AG_ff, c2, c3, c4, c5, c6, c7, Nat.mul_one, blockQ]) | subst hK))
        all_goals (refine end_q [] [] ?_ ?_ <;> repeat' (first | exact trivial | exact vr_val _))
      | true =>
      have b7 := wI_t c7
      have b4 := of_decide_eq_false c4
      by_cases hev : f.every = 1 ∨ f.every = 2 ∨ f.every = 4
      case neg =>
        have r1 : (f.every != 1) = true := by simp only [bne_iff_ne]; omega
        have r2 : (f.every != 2) = true := by simp only [bne_iff_ne]; omega
        have r3 : (f.every != 4) = true := by simp only [bne_iff_ne]; omega
        rw [no fun hf => hev hf.ev]
        (repeat' (first | (with_reducible first | refine thenQ_n ?_ | refine blockQ_n ?_ | refine thenQ_e ?_ | refine blockQ_t ?_ | refine blockQ_f (by decide) ?_) | apply aw_seq | apply aw_skip | apply aw_exit | apply aw_ret | apply aw_block | apply aw_condT rfl | apply aw_condF rfl | ((first | refine aw_hide fun K hK => aw_region ?_ | refine acall0 (from_ac _ _ _) ?_ | refine ago_if (by omega) ?_ | skip); simp (disch := first | exact okY | omega) only [ZU, Nat.reduceAdd, Nat.reduceMul, dI, AOpRun, aexec, Nat.reduceBEq, ↓eget_h, run1, fls_len, isSh, ↓reduceIte, abin, ki, fls_all, opt1, g1, flC, dB, Nat.reduceLeDiff, List.take, ↓hget_h, D.isBot, D.cells, List.all, D.leaf, splice, List.drop, Int.reduceNeg, fits, c1, ARun_some, AG_ff, c2, c3, c4, c5, c6, c7, r1, AG_tt, r2, r3, AG_tf, Nat.mul_one, blockQ]) | subst hK))
        all_goals (refine end_q [] [] ?_ ?_ <;> repeat' (first | exact trivial | exact vr_val _))
      have he1 : 1 ≤ f.every := by omega
      have he4 : f.every ≤ 4 := by omega
      have fin : wI f.phase 0 (f.every - 1) = true → FOk l.words f := fun h => by
        have := wI_t h
        exact ⟨b1.1, b1.2, b2.1, b3.1, by omega, b5.1, b5.2, b6.1, b6.2, b7.1, b7.2, hev, this.1, this.2⟩
      cases c9 : wI f.phase 0 (f.every - 1) with
      | false =>
        rw [no fun hf => by have := wI_f c9; have := hf.p1; have := hf.p2; omega]
        rcases hev with hev | hev | hev
        · have r1 : (f.every != 1) = false := (by simp [hev])
          (repeat' (first | (with_reducible first | refine thenQ_n ?_ | refine blockQ_n ?_ | refine thenQ_e ?_ | refine blockQ_t ?_ | refine blockQ_f (by decide) ?_) | apply aw_seq | apply aw_skip | apply aw_exit | apply aw_ret | apply aw_block | apply aw_condT rfl | apply aw_condF rfl | ((first | refine aw_hide fun K hK => aw_region ?_ | refine acall0 (from_ac _ _ _) ?_ | refine ago_if (by omega) ?_ | skip); simp (disch := first | exact okY | omega) only [ZU, Nat.reduceAdd, Nat.reduceMul, dI, AOpRun, aexec, Nat.reduceBEq, ↓eget_h, run1, fls_len, isSh, ↓reduceIte, abin, ki, fls_all, opt1, g1, flC, dB, Nat.reduceLeDiff, List.take, ↓hget_h, D.isBot, D.cells, List.all, D.leaf, splice, List.drop, Int.reduceNeg, fits, c1, ARun_some, AG_ff, c2, c3, c4, c5, c6, c7, r1, AG_ft, c9, Nat.mul_one, blockQ]) | subst hK))
          all_goals (refine end_q [] [] ?_ ?_ <;> repeat' (first | exact trivial | exact vr_val _))
        · have r1 : (f.every != 1) = true := (by simp [hev]); have r2 : (f.every != 2) = false := (by simp [hev])
          (repeat' (first | (with_reducible first | refine thenQ_n ?_ | refine blockQ_n ?_ | refine thenQ_e ?_ | refine blockQ_t ?_ | refine blockQ_f (by decide) ?_) | apply aw_seq | apply aw_skip | apply aw_exit | apply aw_ret | apply aw_block | apply aw_condT rfl | apply aw_condF rfl | ((first | refine aw_hide fun K hK => aw_region ?_ | refine acall0 (from_ac _ _ _) ?_ | refine ago_if (by omega) ?_ | skip); simp (disch := first | exact okY | omega) only [ZU, Nat.reduceAdd, Nat.reduceMul, dI, AOpRun, aexec, Nat.reduceBEq, ↓eget_h, run1, fls_len, isSh, ↓reduceIte, abin, ki, fls_all, opt1, g1, flC, dB, Nat.reduceLeDiff, List.take, ↓hget_h, D.isBot, D.cells, List.all, D.leaf, splice, List.drop, Int.reduceNeg, fits, c1, ARun_some, AG_ff, c2, c3, c4, c5, c6, c7, r1, AG_tt, r2, AG_ft, c9, Nat.mul_one, blockQ]) | subst hK))
          all_goals (refine end_q [] [] ?_ ?_ <;> repeat' (first | exact trivial | exact vr_val _))
        · have r1 : (f.every != 1) = true := (by simp [hev]); have r2 : (f.every != 2) = true := (by simp [hev]); have r3 : (f.every != 4) = false := (by simp [hev])
          (repeat' (first | (with_reducible first | refine thenQ_n ?_ | refine blockQ_n ?_ | refine thenQ_e ?_ | refine blockQ_t ?_ | refine blockQ_f (by decide) ?_) | apply aw_seq | apply aw_skip | apply aw_exit | apply aw_ret | apply aw_block | apply aw_condT rfl | apply aw_condF rfl | ((first | refine aw_hide fun K hK => aw_region ?_ | refine acall0 (from_ac _ _ _) ?_ | refine ago_if (by omega) ?_ | skip); simp (disch := first | exact okY | omega) only [ZU, Nat.reduceAdd, Nat.reduceMul, dI, AOpRun, aexec, Nat.reduceBEq, ↓eget_h, run1, fls_len, isSh, ↓reduceIte, abin, ki, fls_all, opt1, g1, flC, dB, Nat.reduceLeDiff, List.take, ↓hget_h, D.isBot, D.cells, List.all, D.leaf, splice, List.drop, Int.reduceNeg, fits, c1, ARun_some, AG_ff, c2, c3, c4, c5, c6, c7, r1, AG_tt, r2, r3, c9, Nat.mul_one, blockQ]) | subst hK))
          all_goals (refine end_q [] [] ?_ ?_ <;> repeat' (first | exact trivial | exact vr_val _))
      | true =>
        rcases hev with hev | hev | hev
        · have r1 : (f.every != 1) = false := (by simp [hev])
          (repeat' (first | (with_reducible first | refine thenQ_n ?_ | refine blockQ_n ?_ | refine thenQ_e ?_ | refine blockQ_t ?_ | refine blockQ_f (by decide) ?_) | apply aw_seq | apply aw_skip | apply aw_exit | apply aw_ret | apply aw_block | apply aw_condT rfl | apply aw_condF rfl | ((first | refine aw_hide fun K hK => aw_region ?_ | refine acall0 (from_ac _ _ _) ?_ | refine ago_if (by omega) ?_ | skip); simp (disch := first | exact okY | omega) only [ZU, Nat.reduceAdd, Nat.reduceMul, dI, AOpRun, aexec, Nat.reduceBEq, ↓eget_h, run1, fls_len, isSh, ↓reduceIte, abin, ki, fls_all, opt1, g1, flC, dB, Nat.reduceLeDiff, List.take, ↓hget_h, D.isBot, D.cells, List.all, D.leaf, splice, List.drop, Int.reduceNeg, fits, c1, ARun_some, AG_ff, c2, c3, c4, c5, c6, c7, r1, AG_ft, c9]) | subst hK))
          refine ⟨k + 1, ⟨by omega, yes (fin c9)⟩, by omega, ?_⟩
          refine wk_q [] [(0, 0)] ?_ ?_ <;> repeat' (first | exact trivial | exact vr_val _ | exact vr_list _ | exact vr_ptr _ _ _ rfl | refine And.intro ⟨_, rfl, .inl ⟨_, rfl, by decide, ?_⟩⟩ ?_ | apply And.intro)
        · have r1 : (f.every != 1) = true := (by simp [hev]); have r2 : (f.every != 2) = false := (by simp [hev])
          (repeat' (first | (with_reducible first | refine thenQ_n ?_ | refine blockQ_n ?_ | refine thenQ_e ?_ | refine blockQ_t ?_ | refine blockQ_f (by decide) ?_) | apply aw_seq | apply aw_skip | apply aw_exit | apply aw_ret | apply aw_block | apply aw_condT rfl | apply aw_condF rfl | ((first | refine aw_hide fun K hK => aw_region ?_ | refine acall0 (from_ac _ _ _) ?_ | refine ago_if (by omega) ?_ | skip); simp (disch := first | exact okY | omega) only [ZU, Nat.reduceAdd, Nat.reduceMul, dI, AOpRun, aexec, Nat.reduceBEq, ↓eget_h, run1, fls_len, isSh, ↓reduceIte, abin, ki, fls_all, opt1, g1, flC, dB, Nat.reduceLeDiff, List.take, ↓hget_h, D.isBot, D.cells, List.all, D.leaf, splice, List.drop, Int.reduceNeg, fits, c1, ARun_some, AG_ff, c2, c3, c4, c5, c6, c7, r1, AG_tt, r2, AG_ft, c9]) | subst hK))
          refine ⟨k + 1, ⟨by omega, yes (fin c9)⟩, by omega, ?_⟩
          refine wk_q [] [(0, 0)] ?_ ?_ <;> repeat' (first | exact trivial | exact vr_val _ | exact vr_list _ | exact vr_ptr _ _ _ rfl | refine And.intro ⟨_, rfl, .inl ⟨_, rfl, by decide, ?_⟩⟩ ?_ | apply And.intro)
        · have r1 : (f.every != 1) = true := (by simp [hev]); have r2 : (f.every != 2) = true := (by simp [hev]); have r3 : (f.every != 4) = false := (by simp [hev])
          (repeat' (first | (with_reducible first | refine thenQ_n ?_ | refine blockQ_n ?_ | refine thenQ_e ?_ | refine blockQ_t ?_ | refine blockQ_f (by decide) ?_) | apply aw_seq | apply aw_skip | apply aw_exit | apply aw_ret | apply aw_block | apply aw_condT rfl | apply aw_condF rfl | ((first | refine aw_hide fun K hK => aw_region ?_ | refine acall0 (from_ac _ _ _) ?_ | refine ago_if (by omega) ?_ | skip); simp (disch := first | exact okY | omega) only [ZU, Nat.reduceAdd, Nat.reduceMul, dI, AOpRun, aexec, Nat.reduceBEq, ↓eget_h, run1, fls_len, isSh, ↓reduceIte, abin, ki, fls_all, opt1, g1, flC, dB, Nat.reduceLeDiff, List.take, ↓hget_h, D.isBot, D.cells, List.all, D.leaf, splice, List.drop, Int.reduceNeg, fits, c1, ARun_some, AG_ff, c2, c3, c4, c5, c6, c7, r1, AG_tt, r2, r3, c9]) | subst hK))
          refine ⟨k + 1, ⟨by omega, yes (fin c9)⟩, by omega, ?_⟩
          refine wk_q [] [(0, 0)] ?_ ?_ <;> repeat' (first | exact trivial | exact vr_val _ | exact vr_list _ | exact vr_ptr _ _ _ rfl | refine And.intro ⟨_, rfl, .inl ⟨_, rfl, by decide, ?_⟩⟩ ?_ | apply And.intro)
    · obtain rfl : k = l.fl.length := by omega
      have hF : ∀ j, j < l.fl.length → FOk l.words (fAt l j) := hfo
      (have hg : (987654321 : Nat) - 987654321 = 0 := rfl; have hr := hg; repeat' (first | (with_reducible first | refine thenQ_n ?_ | refine blockQ_n ?_ | refine thenQ_e ?_ | refine blockQ_t ?_ | refine blockQ_f (by decide) ?_) | apply aw_seq | apply aw_skip | apply aw_exit | apply aw_ret | apply aw_block | apply aw_condT rfl | apply aw_condF rfl | (refine aw_cond rfl (fun hg => ?_) (fun hg => ?_) <;> (try (have hq := hg; simp only [Bool.not_eq_true', Bool.not_eq_false', Bool.and_eq_true, Bool.and_eq_false_iff, Bool.or_eq_true, Bool.or_eq_false_iff, decide_eq_true_eq, decide_eq_false_iff_not, bne_iff_ne, beq_iff_eq, beq_eq_false_iff_ne, bne_eq_false_iff_eq, ne_eq, Int.not_lt, Int.not_le, Decidable.not_not] at hq)) <;> (try (have hr := hg; simp only [decide_eq_true_eq, decide_eq_false_iff_not] at hr)) <;> (try (exfalso; omega))) | ((first | refine aw_hide fun K hK => aw_region ?_ | refine ago_if (by omega) ?_ | skip); simp (disch := first | exact okY | omega) only [ZU, Nat.reduceAdd, Nat.reduceMul, dI, AOpRun, aexec, Nat.reduceBEq, ↓eget_h, run1, fls_len, isSh, ↓reduceIte, abin, hr, decide_false]) | subst hK))
      refine aw_loop (fun i : Nat => ⟨[(1, .ptr 0 0), (7, dI i)], [(0, [dI l.words, dI l.s0, dI l.s1, dI l.s2, dI l.s3, .list (fls l.fl)])], 100⟩) (fun i => i ≤ l.fl.length ∧ ∀ t, t < i → ∀ j, j < t → ¬ MeetP (fAt l t) (fAt l j)) (fun i => l.fl.length - i) ⟨0, ⟨by omega, fun j hj => by omega⟩, ?_⟩ ?_
      · refine wk_q [] [(0, 0)] ?_ ?_ <;> repeat' (first | exact trivial | exact vr_val _ | exact vr_list _ | exact vr_ptr _ _ _ rfl | refine And.intro ⟨_, rfl, .inl ⟨_, rfl, by decide, ?_⟩⟩ ?_ | apply And.intro)
      rintro i ⟨hi, hme⟩
      by_cases hi2 : i < l.fl.length
      case neg =>
        obtain rfl : i = l.fl.length := by omega
        have e : layE l 120 = 0 := layE_ok ⟨w1.1, w1.2, h2, fun k hk => (hin k hk).1, fun i hi k hk => (hin i hi).2 k hk, hF, fun i hi k hk s hs h3 h4 h5 => hme i hi k hk ⟨h5, s, hs, h3, h4⟩⟩
        rw [e]
        (have hg : (987654321 : Nat) - 987654321 = 0 := rfl; have hr := hg; repeat' (first | (with_reducible first | refine thenQ_n ?_ | refine blockQ_n ?_ | refine thenQ_e ?_ | refine blockQ_t ?_ | refine blockQ_f (by decide) ?_) | apply aw_seq | apply aw_skip | apply aw_exit | apply aw_ret | apply aw_block | apply aw_condT rfl | apply aw_condF rfl | (refine aw_cond rfl (fun hg => ?_) (fun hg => ?_) <;> (try (have hq := hg; simp only [Bool.not_eq_true', Bool.not_eq_false', Bool.and_eq_true, Bool.and_eq_false_iff, Bool.or_eq_true, Bool.or_eq_false_iff, decide_eq_true_eq, decide_eq_false_iff_not, bne_iff_ne, beq_iff_eq, beq_eq_false_iff_ne, bne_eq_false_iff_eq, ne_eq, Int.not_lt, Int.not_le, Decidable.not_not] at hq)) <;> (try (have hr := hg; simp only [decide_eq_true_eq, decide_eq_false_iff_not] at hr)) <;> (try (exfalso; omega))) | ((first | refine aw_hide fun K hK => aw_region ?_ | refine ago_if (by omega) ?_ | skip); simp (disch := first | exact okY | omega) only [ZU, Nat.reduceAdd, Nat.reduceMul, dI, AOpRun, aexec, Nat.reduceBEq, ↓eget_h, run1, fls_len, isSh, ↓reduceIte, abin, hr, decide_false]) | subst hK))
        all_goals (refine end_q [] [] ?_ ?_ <;> repeat' (first | exact trivial | exact vr_val _))
      have gi := cF i hi2
      have ii : (i : Int) < (l.fl.length : Int) := by omega
      (repeat' (first | (with_reducible first | refine thenQ_n ?_ | refine blockQ_n ?_ | refine thenQ_e ?_ | refine blockQ_t ?_ | refine blockQ_f (by decide) ?_) | apply aw_seq | apply aw_skip | apply aw_exit | apply aw_ret | apply aw_block | apply aw_condT rfl | apply aw_condF rfl | ((first | refine aw_hide fun K hK => aw_region ?_ | refine ago_if (by omega) ?_ | skip); simp (disch := first | exact okY | omega) only [ZU, Nat.reduceAdd, Nat.reduceMul, dI, AOpRun, aexec, Nat.reduceBEq, ↓eget_h, run1, fls_len, isSh, ↓reduceIte, abin, ii]) | subst hK))
      refine aw_loop (fun j : Nat => ⟨[(1, .ptr 0 0), (7, dI i), (8, dI j)], [(0, [dI l.words, dI l.s0, dI l.s1, dI l.s2, dI l.s3, .list (fls l.fl)])], 100⟩) (fun j => j ≤ i ∧ ∀ t, t < j → ¬ MeetP (fAt l i) (fAt l t)) (fun j => i - j) ⟨0, ⟨by omega, fun j hj => by omega⟩, ?_⟩ ?_
      · refine wk_q [] [(0, 0)] ?_ ?_ <;> repeat' (first | exact trivial | exact vr_val _ | exact vr_list _ | exact vr_ptr _ _ _ rfl | refine And.intro ⟨_, rfl, .inl ⟨_, rfl, by decide, ?_⟩⟩ ?_ | apply And.intro)
      rintro j ⟨hj, hmj⟩
      by_cases hj2 : j < i
      case neg =>
        obtain rfl : j = i := by omega
        (have hg : (987654321 : Nat) - 987654321 = 0 := rfl; have hr := hg; repeat' (first | (with_reducible first | refine thenQ_n ?_ | refine blockQ_n ?_ | refine thenQ_e ?_ | refine blockQ_t ?_ | refine blockQ_f (by decide) ?_) | apply aw_seq | apply aw_skip | apply aw_exit | apply aw_ret | apply aw_block | apply aw_condT rfl | apply aw_condF rfl | (refine aw_cond rfl (fun hg => ?_) (fun hg => ?_) <;> (try (have hq := hg; simp only [Bool.not_eq_true', Bool.not_eq_false', Bool.and_eq_true, Bool.and_eq_false_iff, Bool.or_eq_true, Bool.or_eq_false_iff, decide_eq_true_eq, decide_eq_false_iff_not, bne_iff_ne, beq_iff_eq, beq_eq_false_iff_ne, bne_eq_false_iff_eq, ne_eq, Int.not_lt, Int.not_le, Decidable.not_not] at hq)) <;> (try (have hr := hg; simp only [decide_eq_true_eq, decide_eq_false_iff_not] at hr)) <;> (try (exfalso; omega))) | ((first | refine aw_hide fun K hK => aw_region ?_ | refine ago_if (by omega) ?_ | skip); simp (disch := first | exact okY | omega) only [ZU, Nat.reduceAdd, Nat.reduceMul, dI, AOpRun, aexec, Nat.reduceBEq, ↓eget_h, isSh, ↓reduceIte, abin, hr, decide_false, fits]) | subst hK))
        refine ⟨j + 1, ⟨by omega, fun t ht => ?_⟩, by omega, ?_⟩
        · rcases (by omega : t < j ∨ t = j) with h | rfl
          · exact hme t h
          · exact hmj
        · refine wk_q [] [(0, 0)] ?_ ?_ <;> repeat' (first | exact trivial | exact vr_val _ | exact vr_list _ | exact vr_ptr _ _ _ rfl | refine And.intro ⟨_, rfl, .inl ⟨_, rfl, by decide, ?_⟩⟩ ?_ | apply And.intro)
      have gj := cF j (by omega)
      have ji : (j : Int) < (i : Int) := by omega
      have mac := meet_ac (hF i hi2) (hF j (by omega))
      by_cases hm : MeetP (fAt l i) (fAt l j)
      · have e : layE l 120 = 120 := layE_no fun h => by
          obtain ⟨ho, s, hs, h3, h4⟩ := hm
          exact h.ov i hi2 j hj2 s hs h3 h4 ho
        rw [e]
        rw [meetB_t hm] at mac
        (repeat' (first | (with_reducible first | refine thenQ_n ?_ | refine blockQ_n ?_ | refine thenQ_e ?_ | refine blockQ_t ?_ | refine blockQ_f (by decide) ?_) | apply aw_seq | apply aw_skip | apply aw_exit | apply aw_ret | apply aw_block | apply aw_condT rfl | apply aw_condF rfl | ((first | refine aw_hide fun K hK => aw_region ?_ | refine acall0 (mac) ?_ | refine ago_if (by omega) ?_ | skip); simp (disch := first | exact okY | omega) only [ZU, Nat.reduceAdd, Nat.reduceMul, dI, AOpRun, aexec, Nat.reduceBEq, ↓eget_h, isSh, ↓reduceIte, abin, ji, run1, fls_all, opt1, gi, flC, dB, Nat.reduceLeDiff, List.take, gj, Nat.mul_one, blockQ]) | subst hK))
        all_goals (refine end_q [] [] ?_ ?_ <;> repeat' (first | exact trivial | exact vr_val _))
      · rw [meetB_f hm] at mac
        (repeat' (first | (with_reducible first | refine thenQ_n ?_ | refine blockQ_n ?_ | refine thenQ_e ?_ | refine blockQ_t ?_ | refine blockQ_f (by decide) ?_) | apply aw_seq | apply aw_skip | apply aw_exit | apply aw_ret | apply aw_block | apply aw_condT rfl | apply aw_condF rfl | ((first | refine aw_hide fun K hK => aw_region ?_ | refine acall0 (mac) ?_ | refine ago_if (by omega) ?_ | skip); simp (disch := first | exact okY | omega) only [ZU, Nat.reduceAdd, Nat.reduceMul, dI, AOpRun, aexec, Nat.reduceBEq, ↓eget_h, isSh, ↓reduceIte, abin, ji, run1, fls_all, opt1, gi, flC, dB, Nat.reduceLeDiff, List.take, gj, fits]) | subst hK))
        refine ⟨j + 1, ⟨by omega, fun t ht => ?_⟩, by omega, ?_⟩
        · rcases (by omega : t < j ∨ t = j) with h | rfl
          · exact hmj t h
          · exact hm
        · refine wk_q [] [(0, 0)] ?_ ?_ <;> repeat' (first | exact trivial | exact vr_val _ | exact vr_list _ | exact vr_ptr _ _ _ rfl | refine And.intro ⟨_, rfl, .inl ⟨_, rfl, by decide, ?_⟩⟩ ?_ | apply And.intro)
end Go.Proofs.Ytdcodicoclecnaa
/- The functions' bodies, translated. Written by a program; no conditions. -/
namespace Go.Proofs.Ytdcodicoclecnaa
open Go.RowKit Lift

def cref12_Subframe : ACode :=
 (.seq
 (.region false [⟨some 2, .box (.tmp 0), none, []⟩,
 ⟨some 4, .mv (.const (.int .i64 0)), none, []⟩] [])
 (.seq
 (.seq
 (.region false [⟨some 7, .mv (.tmp 1), none, []⟩,
 ⟨some 8, .len_ (.tmp 7), none, []⟩,
 ⟨some 9, .fad 0 (.tmp 2), none, []⟩,
 ⟨some 10, .load1 (.tmp 9), none, []⟩,
 ⟨some 11, .bin .neq (.tmp 8) (.tmp 10), none, []⟩] [7, 8, 9, 10])
 (.cond (.tmp 11)
 (.seq
 (.region false [⟨some 4, .mv (.const (.int .i64 (-1))), none, []⟩] [])
 .ret)
 .skip))
 (.seq
 (.seq
 (.region false [⟨some 5, .mv (.const (.int .i64 0)), none, []⟩] [])
 (.block 0
 (.loop
 (.seq
 (.seq
 (.region false [⟨some 12, .mv (.tmp 5), none, []⟩,
 ⟨some 13, .mv (.tmp 1), none, []⟩,
 ⟨some 14, .len_ (.tmp 13), none, []⟩,
 ⟨some 15, .bin .lss (.tmp 12) (.tmp 14), none, []⟩] [12, 13, 14])
 (.cond (.tmp 15)
 .skip
 (.exit 0)))
 (.seq
 (.block 1
 (.seq
 (.region false [⟨some 18, .mv (.tmp 1), none, []⟩,
 ⟨some 19, .mv (.tmp 5), none, []⟩,
 ⟨some 20, .iadS 1 (.tmp 18) (.tmp 19), none, []⟩,
 ⟨some 21, .load1 (.tmp 20), none, []⟩,
 ⟨some 22, .call (.func 79) [(.tmp 21), (.const (.int .i64 0)), (.const (.int .i64 4095))], none, []⟩,
 ⟨some 23, .un .not (.tmp 22), none, []⟩] [18, 19, 20, 21, 22])
 (.cond (.tmp 23)
 (.seq
 (.region false [⟨some 4, .mv (.const (.int .i64 (-1))), none, []⟩] [])
 .ret)
 .skip)))
 (.region false [⟨some 16, .mv (.tmp 5), none, []⟩,
 ⟨some 17, .bin .add (.tmp 16) (.const (.int .i64 1)), none, []⟩,
 ⟨some 5, .mv (.tmp 17), none, []⟩] [16, 17]))))))
 (.seq
 (.seq
 (.region false [⟨some 6, .mv (.const (.int .i64 0)), none, []⟩] [])
 (.block 2
 (.loop
 (.seq
 (.seq
 (.region false [⟨some 24, .mv (.tmp 6), none, []⟩,
 ⟨some 25, .bin .lss (.tmp 24) (.const (.int .i64 4)), none, []⟩] [24])
 (.cond (.tmp 25)
 .skip
 (.exit 2)))
 (.seq
 (.block 3
 (.seq
 (.region true [⟨some 28, .mv (.tmp 1), none, []⟩,
 ⟨some 29, .iadS 1 (.tmp 28) (.const (.int .i64 0)), none, [0]⟩,
 ⟨some 30, .load1 (.tmp 29), none, [1, 0]⟩,
 ⟨some 31, .mv (.tmp 6), none, []⟩,
 ⟨some 32, .fad 1 (.tmp 2), none, []⟩,
 ⟨some 33, .iadA 4 1 (.tmp 32) (.tmp 31), none, [4, 3]⟩,
 ⟨some 34, .load1 (.tmp 33), none, [5, 4, 3]⟩,
 ⟨some 35, .bin .eql (.tmp 30) (.tmp 34), none, [2, 1, 0, 6, 5, 4, 3]⟩] [28, 29, 30, 31, 32, 33, 34])
 (.cond (.tmp 35)
 (.seq
 (.region false [⟨some 36, .mv (.tmp 6), none, []⟩,
 ⟨some 4, .mv (.tmp 36), none, []⟩] [36])
 .ret)
 .skip)))
 (.region false [⟨some 26, .mv (.tmp 6), none, []⟩,
 ⟨some 27, .bin .add (.tmp 26) (.const (.int .i64 1)), none, []⟩,
 ⟨some 6, .mv (.tmp 27), none, []⟩] [26, 27]))))))
 (.seq
 (.region false [⟨some 4, .mv (.const (.int .i64 (-1))), none, []⟩] [])
 .ret)))))
set_option maxRecDepth 100000 in
theorem kref12_Subframe : IsCode Try.prog 73 37 cref12_Subframe [.tmp 4] :=
 ⟨Try.f73, _, [35, 25, 23, 15, 11, 0, 1, 2, 5, 6, 4], Try.func73, rfl, by decide, rfl, by kernel_rfl, by kernel_rfl⟩
def cref12_CheckFrames : ACode :=
 (.seq
 (.region false [⟨some 2, .box (.tmp 0), none, []⟩,
 ⟨some 4, .mv (.const (.int .i64 0)), none, []⟩] [])
 (.seq
 (.region false [⟨some 6, .loadN 6 (.tmp 2), none, []⟩,
 ⟨some 7, .call (.func 28) [(.tmp 6)], none, []⟩,
 ⟨some 5, .mv (.tmp 7), none, []⟩] [6, 7])
 (.seq
 (.seq
 (.region false [⟨some 8, .mv (.tmp 5), none, []⟩,
 ⟨some 9, .bin .neq (.tmp 8) (.const (.int .i64 0)), none, []⟩] [8])
 (.cond (.tmp 9)
 (.seq
 (.region false [⟨some 10, .mv (.tmp 5), none, []⟩,
 ⟨some 4, .mv (.tmp 10), none, []⟩] [10])
 .ret)
 .skip))
 (.seq
 (.seq
 (.region false [⟨some 11, .mv (.tmp 1), none, []⟩,
 ⟨some 12, .len_ (.tmp 11), none, []⟩,
 ⟨some 13, .bin .gtr (.tmp 12) (.const (.int .i64 200)), none, []⟩] [11, 12])
 (.cond (.tmp 13)
 (.seq
 (.region false [⟨some 4, .mv (.const (.int .i64 2)), none, []⟩] [])
 .ret)
 .skip))
 (.seq
 (.region false [⟨some 4, .mv (.const (.int .i64 0)), none, []⟩] [])
 .ret)))))
set_option maxRecDepth 100000 in
theorem kref12_CheckFrames : IsCode Try.prog 68 14 cref12_CheckFrames [.tmp 4] :=
 ⟨Try.f68, _, [13, 9, 0, 2, 5, 1, 4], Try.func68, rfl, by decide, rfl, by kernel_rfl, by kernel_rfl⟩
def cref12_raw : ACode :=
 (.seq
 (.region false [⟨some 2, .box (.tmp 0), none, []⟩,
 ⟨some 4, .mv (.const (.int .i64 0)), none, []⟩] [])
 (.seq
 (.region true [⟨some 6, .mv (.tmp 1), none, []⟩,
 ⟨some 7, .fad 0 (.tmp 2), none, []⟩,
 ⟨some 8, .load1 (.tmp 7), none, [1]⟩,
 ⟨some 9, .iadS 1 (.tmp 6) (.tmp 8), none, [0, 2, 1]⟩,
 ⟨some 10, .load1 (.tmp 9), none, [3, 0, 2, 1]⟩,
 ⟨some 11, .fad 1 (.tmp 2), none, []⟩,
 ⟨some 12, .load1 (.tmp 11), none, [5]⟩,
 ⟨some 13, .conv .u64 (.tmp 12), none, [6, 5]⟩,
 ⟨some 14, .bin .shr (.tmp 10) (.tmp 13), none, [4, 3, 0, 2, 1, 7, 6, 5]⟩,
 ⟨some 15, .fad 2 (.tmp 2), none, []⟩,
 ⟨some 16, .load1 (.tmp 15), none, [9]⟩,
 ⟨some 17, .conv .u64 (.tmp 16), none, [10, 9]⟩,
 ⟨some 18, .bin .shl (.const (.int .i64 1)) (.tmp 17), none, [11, 10, 9]⟩,
 ⟨some 19, .bin .sub (.tmp 18) (.const (.int .i64 1)), none, [12, 11, 10, 9]⟩,
 ⟨some 20, .bin .and (.tmp 14) (.tmp 19), none, [8, 4, 3, 0, 2, 1, 7, 6, 5, 13, 12, 11, 10, 9]⟩,
 ⟨some 5, .mv (.tmp 20), none, [14, 8, 4, 3, 0, 2, 1, 7, 6, 5, 13, 12, 11, 10, 9]⟩] [6, 7, 8, 9, 10, 11, 12, 13, 14, 15, 16, 17, 18, 19, 20])
 (.seq
 (.seq
 (.region false [⟨some 21, .fad 3 (.tmp 2), none, []⟩,
 ⟨some 22, .load1 (.tmp 21), none, []⟩,
 ⟨some 23, .mv (.tmp 22), none, []⟩,
 ⟨some 24, .mv (.tmp 5), (some (some 23, true)), []⟩,
 ⟨some 25, .fad 2 (.tmp 2), (some (some 23, true)), []⟩,
 ⟨some 26, .load1 (.tmp 25), (some (some 23, true)), []⟩,
 ⟨some 27, .bin .sub (.tmp 26) (.const (.int .i64 1)), (some (some 23, true)), []⟩,
 ⟨some 28, .conv .u64 (.tmp 27), (some (some 23, true)), []⟩,
 ⟨some 29, .bin .shl (.const (.int .i64 1)) (.tmp 28), (some (some 23, true)), []⟩,
 ⟨some 30, .bin .geq (.tmp 24) (.tmp 29), (some (some 23, true)), []⟩,
 ⟨some 31, .pick (.tmp 23) (.tmp 30) (.const (.bool false)), none, []⟩] [21, 22, 23, 24, 25, 26, 27, 28, 29, 30])
 (.cond (.tmp 31)
 (.region false [⟨some 32, .mv (.tmp 5), none, []⟩,
 ⟨some 33, .fad 2 (.tmp 2), none, []⟩,
 ⟨some 34, .load1 (.tmp 33), none, []⟩,
 ⟨some 35, .conv .u64 (.tmp 34), none, []⟩,
 ⟨some 36, .bin .shl (.const (.int .i64 1)) (.tmp 35), none, []⟩,
 ⟨some 37, .bin .sub (.tmp 32) (.tmp 36), none, []⟩,
 ⟨some 5, .mv (.tmp 37), none, []⟩] [32, 33, 34, 35, 36, 37])
 .skip))
 (.seq
 (.region false [⟨some 38, .mv (.tmp 5), none, []⟩,
 ⟨some 4, .mv (.tmp 38), none, []⟩] [38])
 .ret))))
set_option maxRecDepth 100000 in
theorem kref12_raw : IsCode Try.prog 127 39 cref12_raw [.tmp 4] :=
 ⟨Try.f127, _, [31, 0, 1, 2, 5, 4], Try.func127, rfl, by decide, rfl, by kernel_rfl, by kernel_rfl⟩
def cref12_sample : ACode :=
 (.seq
 (.region false [⟨some 3, .box (.tmp 0), none, []⟩,
 ⟨some 4, .box (.tmp 1), none, []⟩,
 ⟨some 6, .mv (.const (.int .i64 0)), none, []⟩,
 ⟨some 7, .mv (.const (.bool false)), none, []⟩] [])
 (.seq
 (.region false [⟨some 9, .loadN 6 (.tmp 3), none, []⟩,
 ⟨some 10, .mv (.tmp 2), none, []⟩,
 ⟨some 11, .call (.func 73) [(.tmp 9), (.tmp 10)], none, []⟩,
 ⟨some 8, .mv (.tmp 11), none, []⟩] [9, 10, 11])
 (.seq
 (.seq
 (.region true [⟨some 12, .mv (.tmp 8), none, []⟩,
 ⟨some 13, .bin .lss (.tmp 12) (.const (.int .i64 0)), none, [0]⟩,
 ⟨some 14, .mv (.tmp 13), none, [1, 0]⟩,
 ⟨some 15, .mv (.tmp 8), (some (some 14, false)), [2, 1, 0]⟩,
 ⟨some 16, .fad 7 (.tmp 4), (some (some 14, false)), [2, 1, 0]⟩,
 ⟨some 17, .load1 (.tmp 16), (some (some 14, false)), [4, 2, 1, 0]⟩,
 ⟨some 18, .bin .rem (.tmp 15) (.tmp 17), (some (some 14, false)), [3, 2, 1, 0, 5, 4]⟩,
 ⟨some 19, .fad 8 (.tmp 4), (some (some 14, false)), [2, 1, 0]⟩,
 ⟨some 20, .load1 (.tmp 19), (some (some 14, false)), [7, 2, 1, 0]⟩,
 ⟨some 21, .bin .neq (.tmp 18) (.tmp 20), (some (some 14, false)), [6, 3, 2, 1, 0, 5, 4, 8, 7]⟩,
 ⟨some 22, .pick (.tmp 14) (.const (.bool true)) (.tmp 21), none, [2, 1, 0, 9, 6, 3, 5, 4, 8, 7]⟩] [12, 13, 14, 15, 16, 17, 18, 19, 20, 21])
 (.cond (.tmp 22)
 (.seq
 (.region false [⟨some 6, .mv (.const (.int .i64 0)), none, []⟩,
 ⟨some 7, .mv (.const (.bool false)), none, []⟩] [])
 .ret)
 .skip))
 (.seq
 (.region true [⟨some 23, .fad 6 (.tmp 4), none, []⟩,
 ⟨some 24, .load1 (.tmp 23), none, [0]⟩,
 ⟨some 25, .fad 5 (.tmp 4), none, []⟩,
 ⟨some 26, .load1 (.tmp 25), none, [2]⟩,
 ⟨some 27, .bin .mul (.tmp 24) (.tmp 26), none, [1, 0, 3, 2]⟩,
 ⟨some 28, .loadN 9 (.tmp 4), none, []⟩,
 ⟨some 29, .mv (.tmp 2), none, []⟩,
 ⟨some 30, .call (.func 127) [(.tmp 28), (.tmp 29)], none, [5, 6]⟩,
 ⟨some 31, .fad 4 (.tmp 4), none, []⟩,
 ⟨some 32, .load1 (.tmp 31), none, [8]⟩,
 ⟨some 33, .bin .mul (.tmp 30) (.tmp 32), none, [7, 5, 6, 9, 8]⟩,
 ⟨some 34, .bin .add (.tmp 27) (.tmp 33), none, [4, 1, 0, 3, 2, 10, 7, 5, 6, 9, 8]⟩,
 ⟨some 6, .mv (.tmp 34), none, [11, 4, 1, 0, 3, 2, 10, 7, 5, 6, 9, 8]⟩,
 ⟨some 7, .mv (.const (.bool true)), none, [12, 11, 4, 1, 0, 3, 2, 10, 7, 5, 6, 9, 8]⟩] [23, 24, 25, 26, 27, 28, 29, 30, 31, 32, 33, 34])
 .ret))))
set_option maxRecDepth 100000 in
theorem kref12_sample : IsCode Try.prog 96 35 cref12_sample [.tmp 6, .tmp 7] :=
 ⟨Try.f96, _, [22, 0, 1, 3, 2, 8, 4, 6, 7], Try.func96, rfl, by decide, rfl, by kernel_rfl, by kernel_rfl⟩
def cref12_Samples : ACode :=
 (.seq
 (.region false [⟨some 3, .box (.tmp 0), none, []⟩,
 ⟨some 6, .mv (.const (.slice none 0 0)), none, []⟩] [])
 (.seq
 (.region false [⟨some 7, .mv (.const (.slice none 0 0)), none, []⟩] [])
 (.seq
 (.seq
 (.region false [⟨some 8, .mv (.const (.int .i64 0)), none, []⟩] [])
 (.block 0
 (.loop
 (.seq
 (.seq
 (.region false [⟨some 11, .mv (.tmp 8), none, []⟩,
 ⟨some 12, .mv (.tmp 1), none, []⟩,
 ⟨some 13, .len_ (.tmp 12), none, []⟩,
 ⟨some 14, .bin .lss (.tmp 11) (.tmp 13), none, []⟩] [11, 12, 13])
 (.cond (.tmp 14)
 .skip
 (.exit 0)))
 (.seq
 (.block 1
 (.seq
 (.region true [⟨some 18, .loadN 6 (.tmp 3), none, []⟩,
 ⟨some 19, .fad 5 (.tmp 3), none, []⟩,
 ⟨some 20, .load1 (.tmp 19), none, [1]⟩,
 ⟨some 21, .mv (.tmp 2), none, []⟩,
 ⟨some 22, .iadS 9 (.tmp 20) (.tmp 21), none, [2, 1, 3]⟩,
 ⟨some 23, .loadN 9 (.tmp 22), none, [4, 2, 1, 3]⟩,
 ⟨some 24, .mv (.tmp 1), none, []⟩,
 ⟨some 25, .mv (.tmp 8), none, []⟩,
 ⟨some 26, .iadS 1 (.tmp 24) (.tmp 25), none, [6, 7]⟩,
 ⟨some 27, .load1 (.tmp 26), none, [8, 6, 7]⟩,
 ⟨some 28, .call (.func 96) [(.tmp 18), (.tmp 23), (.tmp 27)], none, [0, 5, 4, 2, 1, 3, 9, 8, 6, 7]⟩,
 ⟨some 17, .mv (.tmp 28), none, [10, 0, 5, 4, 2, 1, 3, 9, 8, 6, 7]⟩,
 ⟨some 29, .ext (.tmp 17) 0, none, [11, 10, 0, 5, 4, 2, 1, 3, 9, 8, 6, 7]⟩,
 ⟨some 30, .ext (.tmp 17) 1, none, [11, 10, 0, 5, 4, 2, 1, 3, 9, 8, 6, 7]⟩,
 ⟨some 9, .mv (.tmp 29), none, [12, 11, 10, 0, 5, 4, 2, 1, 3, 9, 8, 6, 7]⟩,
 ⟨some 10, .mv (.tmp 30), none, [13, 11, 10, 0, 5, 4, 2, 1, 3, 9, 8, 6, 7, 14, 12]⟩] [18, 19, 20, 21, 22, 23, 24, 25, 26, 27, 28, 17, 29, 30])
 (.seq
 (.region false [⟨some 31, .mv (.tmp 10), none, []⟩] [])
 (.cond (.tmp 31)
 (.region false [⟨some 32, .mv (.tmp 7), none, []⟩,
 ⟨some 33, .mv (.tmp 8), none, []⟩,
 ⟨some 34, .mv (.tmp 9), none, []⟩,
 ⟨some 35, .build [(.val (.int .i64 0)), (.val (.int .i64 0))] [(0, 1, (.tmp 33)), (1, 1, (.tmp 34))], none, []⟩,
 ⟨some 36, .buildSl 2 1 [(.val (.int .i64 0)), (.val (.int .i64 0))] [(0, 2, (.tmp 35))], none, []⟩,
 ⟨some 37, .app 2 16 (.tmp 32) (.tmp 36), none, []⟩,
 ⟨some 7, .mv (.tmp 37), none, []⟩] [32, 33, 34, 35, 36, 37])
 .skip))))
 (.region false [⟨some 15, .mv (.tmp 8), none, []⟩,
 ⟨some 16, .bin .add (.tmp 15) (.const (.int .i64 1)), none, []⟩,
 ⟨some 8, .mv (.tmp 16), none, []⟩] [15, 16]))))))
 (.seq
 (.region false [⟨some 38, .mv (.tmp 7), none, []⟩,
 ⟨some 6, .mv (.tmp 38), none, []⟩] [38])
 .ret))))
set_option maxRecDepth 100000 in
theorem kref12_Samples : IsCode Try.prog 70 39 cref12_Samples [.tmp 6] :=
 ⟨Try.f70, _, [31, 14, 0, 8, 1, 3, 2, 10, 7, 9, 6], Try.func70, rfl, by decide, rfl, by kernel_rfl, by kernel_rfl⟩
def cref12_field : ACode :=
 (.seq
 (.region false [⟨some 2, .box (.tmp 0), none, []⟩,
 ⟨some 4, .mv (.const (.bool false)), none, []⟩] [])
 (.seq
 (.region false [⟨some 5, .mv (.tmp 1), none, []⟩,
 ⟨some 6, .fad 5 (.tmp 2), none, []⟩,
 ⟨some 7, .load1 (.tmp 6), none, []⟩,
 ⟨some 8, .len_ (.tmp 7), none, []⟩,
 ⟨some 9, .bin .sub (.tmp 8) (.const (.int .i64 1)), none, []⟩,
 ⟨some 10, .call (.func 79) [(.tmp 5), (.const (.int .i64 0)), (.tmp 9)], none, []⟩,
 ⟨some 4, .mv (.tmp 10), none, []⟩] [5, 6, 7, 8, 9, 10])
 .ret))
set_option maxRecDepth 100000 in
theorem kref12_field : IsCode Try.prog 69 11 cref12_field [.tmp 4] :=
 ⟨Try.f69, _, [0, 1, 2, 4], Try.func69, rfl, by decide, rfl, by kernel_rfl, by kernel_rfl⟩
def cref12_Read : ACode :=
 (.seq
 (.region false [⟨some 3, .box (.tmp 0), none, []⟩,
 ⟨some 6, .mv (.const (.slice none 0 0)), none, []⟩,
 ⟨some 7, .mv (.const (.int .i64 0)), none, []⟩] [])
 (.seq
 (.region false [⟨some 9, .loadN 6 (.tmp 3), none, []⟩,
 ⟨some 10, .mv (.tmp 1), none, []⟩,
 ⟨some 11, .call (.func 68) [(.tmp 9), (.tmp 10)], none, []⟩,
 ⟨some 8, .mv (.tmp 11), none, []⟩] [9, 10, 11])
 (.seq
 (.seq
 (.region false [⟨some 12, .mv (.tmp 8), none, []⟩,
 ⟨some 13, .bin .neq (.tmp 12) (.const (.int .i64 0)), none, []⟩] [12])
 (.cond (.tmp 13)
 (.seq
 (.region false [⟨some 14, .mv (.tmp 8), none, []⟩,
 ⟨some 6, .mv (.const (.slice none 0 0)), none, []⟩,
 ⟨some 7, .mv (.tmp 14), none, []⟩] [14])
 .ret)
 .skip))
 (.seq
 (.seq
 (.region false [⟨some 15, .loadN 6 (.tmp 3), none, []⟩,
 ⟨some 16, .mv (.tmp 2), none, []⟩,
 ⟨some 17, .call (.func 69) [(.tmp 15), (.tmp 16)], none, []⟩,
 ⟨some 18, .un .not (.tmp 17), none, []⟩] [15, 16, 17])
 (.cond (.tmp 18)
 (.seq
 (.region false [⟨some 6, .mv (.const (.slice none 0 0)), none, []⟩,
 ⟨some 7, .mv (.const (.int .i64 1)), none, []⟩] [])
 .ret)
 .skip))
 (.seq
 (.region false [⟨some 19, .loadN 6 (.tmp 3), none, []⟩,
 ⟨some 20, .mv (.tmp 1), none, []⟩,
 ⟨some 21, .mv (.tmp 2), none, []⟩,
 ⟨some 22, .call (.func 70) [(.tmp 19), (.tmp 20), (.tmp 21)], none, []⟩,
 ⟨some 6, .mv (.tmp 22), none, []⟩,
 ⟨some 7, .mv (.const (.int .i64 0)), none, []⟩] [19, 20, 21, 22])
 .ret)))))
set_option maxRecDepth 100000 in
theorem kref12_Read : IsCode Try.prog 19 23 cref12_Read [.tmp 6, .tmp 7] :=
 ⟨Try.f19, _, [18, 13, 0, 3, 1, 8, 2, 6, 7], Try.func19, rfl, by decide, rfl, by kernel_rfl, by kernel_rfl⟩
end Go.Proofs.Ytdcodicoclecnaa
/- The document of record: a frame's subframe, a sample. No conditions. -/
namespace Go.Proofs.Ytdcodicoclecnaa
open Go Go.RowKit Lift

theorem idx4_at (l : Lay) (x : Int) (k : Nat) (hk : k < 4) (hn : ∀ j, j < k → x ≠ (sync l)[j]?.getD 0) (he : x = (sync l)[k]?.getD 0) : idx4 l x = k := by
  rw [← idx_sync]
  exact idx_at (l := sync l) (by simpa [sync] using hk) (fun j hj h => hn j hj h.symm) he.symm
theorem idx4_no (l : Lay) (x : Int) (hn : ∀ j, j < 4 → x ≠ (sync l)[j]?.getD 0) : idx4 l x = -1 := by
  rw [← idx_sync]
  exact idx_no fun j hj h => hn j (by simpa [sync] using hj) h.symm
set_option maxRecDepth 100000 in
set_option maxHeartbeats 4000000 in
theorem subf_ac (l : Lay) (fr : List Int) (hw : 2 ≤ l.words) (hl : fr.length ≤ maxLen) : AC Try.prog 73 [layD l, .list (ints fr)] [] [] (dI (subF l fr)) := by
  refine kref12_Subframe.ac (n0 := 0) (by simp) ⟨in_layD _ _, .list _, trivial⟩ trivial rfl ?_
  unfold cref12_Subframe layD layC
  have hmax : maxLen = 9223372036854775807 := rfl
  by_cases hlen : (fr.length : Int) = l.words
  case neg =>
    have q : ((fr.length : Int) != l.words) = true := by simpa using hlen
    rw [show subF l fr = -1 from if_neg fun h => hlen h.1]
    (repeat' (first | apply aw_seq | ((first | apply aw_skip | apply aw_exit); try simp only [thenQ, blockQ, if_true, if_false, Nat.reduceEqDiff, reduceCtorEq]) | apply aw_ret | apply aw_block | apply aw_condT rfl | apply aw_condF rfl | ((first | refine aw_region ?_ | refine ago_if (by omega) ?_ | skip); simp (disch := first | exact okY | omega) only [ZU, Int.reduceNeg, dI, Nat.reduceAdd, Nat.reduceMul, AOpRun, aexec, D.isBot, ↓eget_h, or_self, ↓reduceIte, D.cells, Nat.reduceBEq, ints_len, run1, isSh, abin, q])))
    all_goals (refine end_q [] [] ?_ ?_ <;> repeat' (first | exact trivial | exact vr_val _))
  have q : ((fr.length : Int) != l.words) = false := by simpa using hlen
  refine aw_seq (aw_region ?_)
  simp (disch := first | exact okY | omega) only [ZU, Int.reduceNeg, dI, Nat.reduceAdd, Nat.reduceMul, AOpRun, aexec, D.isBot, ↓eget_h, or_self, ↓reduceIte, D.cells, Nat.reduceBEq]
  refine aw_seq (aw_seq (aw_region ?_))
  simp (disch := first | exact okY | omega) only [ZU, Int.reduceNeg, Nat.reduceAdd, Nat.reduceMul, AOpRun, aexec, Nat.reduceBEq, ↓eget_h, ints_len, run1, isSh, ↓reduceIte, abin, q]
  refine aw_condF rfl (aw_skip ?_)
  have hall : ∀ k, (∀ j, j < k → wOk (fr[j]?.getD 0) = true) → k = fr.length → fr.all wOk = true := fun k h hk => List.all_eq_true.2 fun x hx => by
    obtain ⟨j, hj, rfl⟩ := List.getElem_of_mem hx
    have := h j (by omega)
    simpa [hj] using this
  by_cases ha : fr.all wOk = true
  case neg =>
    rw [show subF l fr = -1 from if_neg fun h => ha h.2]
    refine aw_seq (aw_seq (aw_region ?_))
    simp (disch := first | exact okY | omega) only [ZU, Int.reduceNeg, Nat.reduceMul, Nat.reduceAdd, AOpRun, aexec, Nat.reduceBEq]
    refine aw_block (aw_loop (fun k : Nat => ⟨[(1, .list (ints fr)), (2, .ptr 0 0), (5, dI k)], [(0, [dI l.words, dI l.s0, dI l.s1, dI l.s2, dI l.s3, .list (fls l.fl)])], 400⟩) (fun k => k ≤ fr.length ∧ ∀ j, j < k → wOk (fr[j]?.getD 0) = true) (fun k => fr.length - k) ⟨0, ⟨by omega, fun j hj => by omega⟩, ?_⟩ ?_)
    · unfold dI
      refine wk_q [] [(0, 0)] ?_ ?_ <;> repeat' (first | exact trivial | exact vr_val _ | exact vr_list _ | exact vr_ptr _ _ _ rfl | refine And.intro ⟨_, rfl, .inl ⟨_, rfl, by decide, ?_⟩⟩ ?_ | apply And.intro)
    rintro k ⟨hk, hin⟩
    by_cases hk2 : k < fr.length
    case neg => exact absurd (hall k hin (by omega)) ha
    have g1 := ints_gd fr k hk2
    have fa := from_ac (fr[k]?.getD 0) 0 4095
    rw [wI_w] at fa
    cases he : wOk (fr[k]?.getD 0) with
    | false =>
      rw [he] at fa
      (have hg : (987654321 : Nat) - 987654321 = 0 := rfl; have hr := hg; repeat' (first | apply aw_seq | ((first | apply aw_skip | apply aw_exit); try simp only [thenQ, blockQ, if_true, if_false, Nat.reduceEqDiff, reduceCtorEq]) | apply aw_ret | apply aw_block | apply aw_condT rfl | apply aw_condF rfl | (refine aw_cond rfl (fun hg => ?_) (fun hg => ?_) <;> (try (have hq := hg; simp only [Bool.not_eq_true', Bool.not_eq_false', Bool.and_eq_true, Bool.and_eq_false_iff, Bool.or_eq_true, Bool.or_eq_false_iff, decide_eq_true_eq, decide_eq_false_iff_not, bne_iff_ne, beq_iff_eq, beq_eq_false_iff_ne, bne_eq_false_iff_eq, ne_eq, Int.not_lt, Int.not_le, Decidable.not_not] at hq)) <;> (try (have hr := hg; simp only [decide_eq_true_eq, decide_eq_false_iff_not] at hr)) <;> (try (exfalso; omega))) | ((first | refine aw_region ?_ | refine acall0 (fa) ?_ | refine ago_if (by omega) ?_ | skip); simp (disch := first | exact okY | omega) only [ZU, Int.reduceNeg, dI, Nat.reduceAdd, Nat.reduceMul, AOpRun, aexec, Nat.reduceBEq, ↓eget_h, ints_len, isSh, ↓reduceIte, abin, hr, ints_all, opt1, g1, run1, dB, blockQ])))
      all_goals (refine end_q [] [] ?_ ?_ <;> repeat' (first | exact trivial | exact vr_val _))
    | true =>
      rw [he] at fa
      (have hg : (987654321 : Nat) - 987654321 = 0 := rfl; have hr := hg; repeat' (first | apply aw_seq | ((first | apply aw_skip | apply aw_exit); try simp only [thenQ, blockQ, if_true, if_false, Nat.reduceEqDiff, reduceCtorEq]) | apply aw_ret | apply aw_block | apply aw_condT rfl | apply aw_condF rfl | (refine aw_cond rfl (fun hg => ?_) (fun hg => ?_) <;> (try (have hq := hg; simp only [Bool.not_eq_true', Bool.not_eq_false', Bool.and_eq_true, Bool.and_eq_false_iff, Bool.or_eq_true, Bool.or_eq_false_iff, decide_eq_true_eq, decide_eq_false_iff_not, bne_iff_ne, beq_iff_eq, beq_eq_false_iff_ne, bne_eq_false_iff_eq, ne_eq, Int.not_lt, Int.not_le, Decidable.not_not] at hq)) <;> (try (have hr := hg; simp only [decide_eq_true_eq, decide_eq_false_iff_not] at hr)) <;> (try (exfalso; omega))) | ((first | refine aw_region ?_ | refine acall0 (fa) ?_ | refine ago_if (by omega) ?_ | skip); simp (disch := first | exact okY | omega) only [ZU, Int.reduceNeg, dI, Nat.reduceAdd, Nat.reduceMul, AOpRun, aexec, Nat.reduceBEq, ↓eget_h, ints_len, isSh, ↓reduceIte, abin, hr, ints_all, opt1, g1, run1, dB, fits])))
      refine ⟨k + 1, ⟨by omega, fun j hj => ?_⟩, by omega, ?_⟩
      · rcases (by omega : j < k ∨ j = k) with h | rfl
        · exact hin j h
        · exact he
      · refine wk_q [] [(0, 0)] ?_ ?_ <;> repeat' (first | exact trivial | exact vr_val _ | exact vr_list _ | exact vr_ptr _ _ _ rfl | refine And.intro ⟨_, rfl, .inl ⟨_, rfl, by decide, ?_⟩⟩ ?_ | apply And.intro)
  have hsub : subF l fr = idx4 l (fr[0]?.getD 0) := if_pos ⟨hlen, ha⟩
  refine aw_cut ⟨[(1, .list (ints fr)), (2, .ptr 0 0)], [(0, [dI l.words, dI l.s0, dI l.s1, dI l.s2, dI l.s3, .list (fls l.fl)])], 600⟩ ?_ ?_
  · refine aw_seq (aw_region ?_)
    simp (disch := first | exact okY | omega) only [ZU, Int.reduceNeg, dI, Nat.reduceMul, Nat.reduceAdd, AOpRun, aexec, Nat.reduceBEq]
    refine aw_block (aw_loop (fun k : Nat => ⟨[(1, .list (ints fr)), (2, .ptr 0 0), (5, dI k)], [(0, [dI l.words, dI l.s0, dI l.s1, dI l.s2, dI l.s3, .list (fls l.fl)])], 400⟩) (fun k => k ≤ fr.length ) (fun k => fr.length - k) ⟨0, by omega, ?_⟩ ?_)
    · unfold dI
      refine wk_q [] [(0, 0)] ?_ ?_ <;> repeat' (first | exact trivial | exact vr_val _ | exact vr_list _ | exact vr_ptr _ _ _ rfl | refine And.intro ⟨_, rfl, .inl ⟨_, rfl, by decide, ?_⟩⟩ ?_ | apply And.intro)
    intro k hk
    by_cases hk2 : k < fr.length
    case neg =>
      obtain rfl : k = fr.length := by omega
      (have hg : (987654321 : Nat) - 987654321 = 0 := rfl; have hr := hg; repeat' (first | apply aw_seq | ((first | apply aw_skip | apply aw_exit); try simp only [thenQ, blockQ, if_true, if_false, Nat.reduceEqDiff, reduceCtorEq]) | apply aw_ret | apply aw_block | apply aw_condT rfl | apply aw_condF rfl | (refine aw_cond rfl (fun hg => ?_) (fun hg => ?_) <;> (try (have hq := hg; simp only [Bool.not_eq_true', Bool.not_eq_false', Bool.and_eq_true, Bool.and_eq_false_iff, Bool.or_eq_true, Bool.or_eq_false_iff, decide_eq_true_eq, decide_eq_false_iff_not, bne_iff_ne, beq_iff_eq, beq_eq_false_iff_ne, bne_eq_false_iff_eq, ne_eq, Int.not_lt, Int.not_le, Decidable.not_not] at hq)) <;> (try (have hr := hg; simp only [decide_eq_true_eq, decide_eq_false_iff_not] at hr)) <;> (try (exfalso; omega))) | ((first | refine aw_region ?_ | refine ago_if (by omega) ?_ | skip); simp (disch := first | exact okY | omega) only [ZU, Int.reduceNeg, dI, Nat.reduceAdd, Nat.reduceMul, AOpRun, aexec, Nat.reduceBEq, ↓eget_h, ints_len, isSh, ↓reduceIte, abin, hr, decide_false])))
      refine wk_q [] [(0, 0)] ?_ ?_ <;> repeat' (first | exact trivial | exact vr_val _ | exact vr_list _ | exact vr_ptr _ _ _ rfl | refine And.intro ⟨_, rfl, .inl ⟨_, rfl, by decide, ?_⟩⟩ ?_ | apply And.intro)
    have g1 := ints_gd fr k hk2
    have fa := from_ac (fr[k]?.getD 0) 0 4095
    have he : wOk (fr[k]?.getD 0) = true := by
      rw [List.getElem?_eq_getElem hk2]
      exact List.all_eq_true.1 ha _ (List.getElem_mem hk2)
    rw [wI_w, he] at fa
    (have hg : (987654321 : Nat) - 987654321 = 0 := rfl; have hr := hg; repeat' (first | apply aw_seq | ((first | apply aw_skip | apply aw_exit); try simp only [thenQ, blockQ, if_true, if_false, Nat.reduceEqDiff, reduceCtorEq]) | apply aw_ret | apply aw_block | apply aw_condT rfl | apply aw_condF rfl | (refine aw_cond rfl (fun hg => ?_) (fun hg => ?_) <;> (try (have hq := hg; simp only [Bool.not_eq_true', Bool.not_eq_false', Bool.and_eq_true, Bool.and_eq_false_iff, Bool.or_eq_true, Bool.or_eq_false_iff, decide_eq_true_eq, decide_eq_false_iff_not, bne_iff_ne, beq_iff_eq, beq_eq_false_iff_ne, bne_eq_false_iff_eq, ne_eq, Int.not_lt, Int.not_le, Decidable.not_not] at hq)) <;> (try (have hr := hg; simp only [decide_eq_true_eq, decide_eq_false_iff_not] at hr)) <;> (try (exfalso; omega))) | ((first | refine aw_region ?_ | refine acall0 (fa) ?_ | refine ago_if (by omega) ?_ | skip); simp (disch := first | exact okY | omega) only [ZU, Int.reduceNeg, dI, Nat.reduceAdd, Nat.reduceMul, AOpRun, aexec, Nat.reduceBEq, ↓eget_h, ints_len, isSh, ↓reduceIte, abin, hr, ints_all, opt1, g1, run1, dB, fits])))
    refine ⟨k + 1, by omega, by omega, ?_⟩
    refine wk_q [] [(0, 0)] ?_ ?_ <;> repeat' (first | exact trivial | exact vr_val _ | exact vr_list _ | exact vr_ptr _ _ _ rfl | refine And.intro ⟨_, rfl, .inl ⟨_, rfl, by decide, ?_⟩⟩ ?_ | apply And.intro)
  have g0 := ints_gd fr 0 (by omega)
  have hl0 : 0 < fr.length := by omega
  rw [hsub]
  refine aw_seq (aw_seq (aw_region ?_))
  simp (disch := first | exact okY | omega) only [ZU, Int.reduceNeg, Nat.reduceMul, Nat.reduceAdd, dI, AOpRun, aexec, Nat.reduceBEq]
  refine aw_block (aw_loop (fun k : Nat => ⟨[(1, .list (ints fr)), (2, .ptr 0 0), (6, dI k)], [(0, [dI l.words, dI l.s0, dI l.s1, dI l.s2, dI l.s3, .list (fls l.fl)])], 800⟩) (fun k => k ≤ 4 ∧ ∀ j, j < k → fr[0]?.getD 0 ≠ (sync l)[j]?.getD 0) (fun k => 4 - k) ⟨0, ⟨by omega, fun j hj => by omega⟩, ?_⟩ ?_)
  · unfold dI
    refine wk_q [] [(0, 0)] ?_ ?_ <;> repeat' (first | exact trivial | exact vr_val _ | exact vr_list _ | exact vr_ptr _ _ _ rfl | refine And.intro ⟨_, rfl, .inl ⟨_, rfl, by decide, ?_⟩⟩ ?_ | apply And.intro)
  rintro k ⟨hk, hin⟩
  by_cases hk2 : k < 4
  case neg =>
    obtain rfl : k = 4 := by omega
    rw [idx4_no l _ hin]
    (have hg : (987654321 : Nat) - 987654321 = 0 := rfl; have hr := hg; repeat' (first | apply aw_seq | ((first | apply aw_skip | apply aw_exit); try simp only [thenQ, blockQ, if_true, if_false, Nat.reduceEqDiff, reduceCtorEq]) | apply aw_ret | apply aw_block | apply aw_condT rfl | apply aw_condF rfl | ((first | refine aw_region ?_ | refine ago_if (by omega) ?_ | skip); simp (disch := first | exact okY | omega) only [ZU, ne_eq, hg, dI, Int.reduceNeg, Nat.reduceAdd, Nat.reduceMul, cast_lit, AOpRun, aexec, Nat.reduceBEq, ↓eget_h, isSh, ↓reduceIte, abin, Int.reduceLT, decide_false])))
    all_goals (refine end_q [] [] ?_ ?_ <;> repeat' (first | exact trivial | exact vr_val _))
  have gs := sync_at l k hk2
  by_cases he : fr[0]?.getD 0 = (sync l)[k]?.getD 0
  · rw [idx4_at l _ k hk2 hin he]
    have q2 : (fr[0]?.getD 0 == (sync l)[k]?.getD 0) = true := by simpa using he
    rcases (by omega : k = 0 ∨ k = 1 ∨ k = 2 ∨ k = 3) with rfl | rfl | rfl | rfl
    all_goals
      simp only [sync, List.getElem?_cons_zero, List.getElem?_cons_succ, Option.getD_some] at q2
      (repeat' (first | apply aw_seq | ((first | apply aw_skip | apply aw_exit); try simp only [thenQ, blockQ, if_true, if_false, Nat.reduceEqDiff, reduceCtorEq]) | apply aw_ret | apply aw_block | apply aw_condT rfl | apply aw_condF rfl | ((first | refine aw_region ?_ | refine ago_if (by omega) ?_ | skip); simp (disch := first | exact okY | omega) only [ZU, ne_eq, Nat.reduceSub, dI, Int.reduceNeg, cast_lit, Nat.reduceAdd, Nat.reduceMul, AOpRun, aexec, Nat.reduceBEq, ↓eget_h, isSh, ↓reduceIte, abin, Int.reduceLT, Int.le_refl, ints_all, opt1, Int.toNat_zero, g0, run1, q2, blockQ, Int.reduceLE, Int.reduceToNat])))
      all_goals (refine end_q [] [] ?_ ?_ <;> repeat' (first | exact trivial | exact vr_val _))
  · have q2 : (fr[0]?.getD 0 == (sync l)[k]?.getD 0) = false := by simpa using he
    have hin2 : ∀ j, j < k + 1 → fr[0]?.getD 0 ≠ (sync l)[j]?.getD 0 := fun j hj => by
      rcases (by omega : j < k ∨ j = k) with h | rfl
      · exact hin j h
      · exact he
    rcases (by omega : k = 0 ∨ k = 1 ∨ k = 2 ∨ k = 3) with rfl | rfl | rfl | rfl
    all_goals
      simp only [sync, List.getElem?_cons_zero, List.getElem?_cons_succ, Option.getD_some] at q2
      (repeat' (first | apply aw_seq | ((first | apply aw_skip | apply aw_exit); try simp only [thenQ, blockQ, if_true, if_false, Nat.reduceEqDiff, reduceCtorEq]) | apply aw_ret | apply aw_block | apply aw_condT rfl | apply aw_condF rfl | ((first | refine aw_region ?_ | refine ago_if (by omega) ?_ | skip); simp (disch := first | exact okY | omega) only [ZU, ne_eq, Nat.reduceSub, dI, Int.reduceNeg, Nat.reduceAdd, Nat.reduceMul, cast_lit, AOpRun, aexec, Nat.reduceBEq, ↓eget_h, isSh, ↓reduceIte, abin, Int.reduceLT, Int.le_refl, ints_all, opt1, Int.toNat_zero, g0, run1, q2, Int.reduceAdd, fits, Int.reduceLE, Int.reduceToNat])))
      refine ⟨_, ⟨?_, hin2⟩, ?_, ?_⟩
      · omega
      · omega
      · refine wk_q [] [(0, 0)] ?_ ?_ <;> repeat' (first | exact trivial | exact vr_val _ | exact vr_list _ | exact vr_ptr _ _ _ rfl | refine And.intro ⟨_, rfl, .inl ⟨_, rfl, by decide, ?_⟩⟩ ?_ | apply And.intro)
end Go.Proofs.Ytdcodicoclecnaa
