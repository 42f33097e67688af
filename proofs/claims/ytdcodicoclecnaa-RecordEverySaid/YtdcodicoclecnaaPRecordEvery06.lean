/- Texts of the law RecordEvery, part 6. No conditions. -/
import Derived.Test.YtdcodicoclecnaaPRecordEvery05
import Derived.Test.YtdcodicoclecnaaRows
/- record: a field's samples, a tape that has fields. No conditions. -/
set_option linter.unusedSimpArgs false
set_option linter.unusedVariables false
namespace Go.Proofs.Ytdcodicoclecnaa
open Go.RowKit Lift

theorem fAt_ok {l : Lay} (h : LayOk l) {k : Nat} (hk : k < l.fl.length) : FOk l.words (fAt l k) := h.fo k hk
set_option maxRecDepth 100000 in
set_option maxHeartbeats 2000000 in
theorem samples_ac (l : Lay) (frs : List (List Int)) (k : Nat) (hk : k < l.fl.length) (hn : l.fl.length ≤ 1000) : AC Try.prog 67 [.ptr 96 0, dI k] [(96, tpC l frs)] [(96, some (tpC l frs)), (120, some [.ptr 96 0]), (121, some (flC (fAt l k)))] (.fn 113 [] [.ptr 120 0, .ptr 121 0]) := by
  refine kprecord_tape_samples.ac (n0 := 200) (by simp) ⟨.ptr _ _ (by omega), .val _, trivial⟩ ⟨⟨by omega, tpC_in _ _ _⟩, trivial⟩ rfl ?_
  unfold cprecord_tape_samples
  unfold tpC
  have g1 : (fls l.fl)[k]? = some (flC (fAt l k)) := fls_gd l.fl k hk
  unfold flC at g1 ⊢
  have ki : (k : Int) < (l.fl.length : Int) := by omega
  have fa := fls_all l.fl
  have fl := fls_len l.fl
  (have hg : (987654321 : Nat) - 987654321 = 0 := rfl; have hr := hg; repeat' (first | refine aw_seq ?_ | (refine aw_skip ?_; repeat' (first | with_reducible refine thenQ_n ?_ | with_reducible refine blockQ_n ?_ | with_reducible refine thenQ_e ?_ | with_reducible refine blockQ_t ?_ | with_reducible refine blockQ_f (by decide) ?_)) | (refine aw_exit ?_; repeat' (first | with_reducible refine thenQ_n ?_ | with_reducible refine blockQ_n ?_ | with_reducible refine thenQ_e ?_ | with_reducible refine blockQ_t ?_ | with_reducible refine blockQ_f (by decide) ?_)) | refine aw_ret ?_ | refine aw_block ?_ | refine aw_condT rfl ?_ | refine aw_condF rfl ?_ | ((first | refine aw_hide fun K hK => aw_region ?_ | refine ago_if (by omega) ?_ | skip); simp (config := {maxSteps := 10000000}) (disch := first | exact okYes (by kernel_rfl) | omega) only [List.length, Nat.zero_add, Nat.reduceAdd, Nat.reduceMul, envOf, dI, ARun_none, AOpRun, aexec, D.isBot, FSt.ev, St.F, ↓eget_h, Bool.false_eq_true, Option.isSome, hget_c, Nat.reduceBEq, hget_n, cond_false, or_self, ↓reduceIte, D.cells, AGo_ok, St.app, putO, eput_c, eput_n, hups, hput_c, hput_n, List.map, ARun_nil, dropE_c, inL_n, dropE_n, Option.map, run1, eget_c, ↓hget_h, List.getElem?_cons_zero, beq_self_eq_true, cond_true, List.getElem?_cons_succ, Int.natCast_nonneg, fa, and_self, opt1, Int.toNat_natCast, g1, dB, Nat.reduceLeDiff, List.take, fillD, ne_eq, not_true_eq_false, Nat.reduceGT, splice, List.nil_append, List.drop, List.append_nil, List.all, D.leaf, Bool.and_true, inL_c]) | (subst hK; repeat' (first | with_reducible refine thenQ_n ?_ | with_reducible refine blockQ_n ?_ | with_reducible refine thenQ_e ?_ | with_reducible refine blockQ_t ?_ | with_reducible refine blockQ_f (by decide) ?_))))
  refine end_to [] [(96, 96), (120, 200), (121, 288)] (by first | exact .inl rfl | exact .inr rfl) rfl (by kernel_rfl) (by kernel_rfl) (by kernel_rfl) ?_ ?_ <;> repeat' (first | exact trivial | exact vr_val _ | exact vr_list _ | exact vr_ptr _ _ _ rfl | apply vr_fn | refine And.intro ⟨_, rfl, _, rfl, by decide, ?_⟩ ?_ | apply And.intro)
  all_goals first | exact tpC_in _ _ _ | exact flC_in _ _
set_option maxRecDepth 100000 in
set_option maxHeartbeats 2000000 in
theorem has_ac (l : Lay) (frs : List (List Int)) (x : Int) (hn : l.fl.length ≤ 1000) : AC Try.prog 112 [.ptr 96 0, dI x] [(96, tpC l frs)] [(96, some (tpC l frs))] (dB (wI x 0 ((l.fl.length : Int) - 1))) := by
  refine kprecord_tape_has.ac (n0 := 200) (by simp) ⟨.ptr _ _ (by omega), .val _, trivial⟩ ⟨⟨by omega, tpC_in _ _ _⟩, trivial⟩ rfl ?_
  unfold cprecord_tape_has
  unfold tpC
  have fl := fls_len l.fl
  (have hg : (987654321 : Nat) - 987654321 = 0 := rfl; have hr := hg; repeat' (first | refine aw_seq ?_ | (refine aw_skip ?_; repeat' (first | with_reducible refine thenQ_n ?_ | with_reducible refine blockQ_n ?_ | with_reducible refine thenQ_e ?_ | with_reducible refine blockQ_t ?_ | with_reducible refine blockQ_f (by decide) ?_)) | (refine aw_exit ?_; repeat' (first | with_reducible refine thenQ_n ?_ | with_reducible refine blockQ_n ?_ | with_reducible refine thenQ_e ?_ | with_reducible refine blockQ_t ?_ | with_reducible refine blockQ_f (by decide) ?_)) | refine aw_ret ?_ | refine aw_block ?_ | refine aw_condT rfl ?_ | refine aw_condF rfl ?_ | ((first | refine aw_hide fun K hK => aw_region ?_ | refine acall0 (within_ac _ _ _) ?_ | refine ago_if (by omega) ?_ | skip); simp (config := {maxSteps := 10000000}) (disch := first | exact okYes (by kernel_rfl) | omega) only [List.length, Nat.zero_add, Nat.reduceMul, Nat.reduceAdd, envOf, dI, ARun_none, AOpRun, aexec, FSt.ev, AGo_ok, St.app, putO, eput_c, Nat.reduceBEq, eput_n, cond_false, hups, List.map, ARun_nil, dropE_c, inL_n, dropE_n, St.F, eget_c, ↓eget_h, Option.map, run1, hget_c, beq_self_eq_true, hget_n, cond_true, List.getElem?_cons_succ, List.getElem?_cons_zero, fl, isSh, Bool.false_eq_true, ↓reduceIte, abin, fits, dB, inL_c]) | (subst hK; repeat' (first | with_reducible refine thenQ_n ?_ | with_reducible refine blockQ_n ?_ | with_reducible refine thenQ_e ?_ | with_reducible refine blockQ_t ?_ | with_reducible refine blockQ_f (by decide) ?_))))
  all_goals (refine end_to [] [(96, 96)] (by first | exact .inl rfl | exact .inr rfl) rfl (by kernel_rfl) (by kernel_rfl) (by kernel_rfl) ?_ ?_ <;> repeat' (first | exact trivial | exact vr_val _ | exact vr_list _ | refine And.intro ⟨_, rfl, _, rfl, by decide, ?_⟩ ?_ | apply And.intro))
  all_goals exact tpC_in _ _ _
set_option maxRecDepth 100000 in
set_option maxHeartbeats 2000000 in
theorem hasF_ac (l : Lay) (frs : List (List Int)) (x : Int) (hn : l.fl.length ≤ 1000) : AC Try.prog 111 [dI x, .ptr 152 0] [(96, tpC l frs), (152, [.ptr 96 0])] [(96, some (tpC l frs)), (152, some [.ptr 96 0])] (dB (!wI x 0 ((l.fl.length : Int) - 1))) := by
  refine krecord_withField_S1.ac (n0 := 200) (by simp) ⟨.val _, .ptr _ _ (by omega), trivial⟩ ⟨⟨by omega, tpC_in _ _ _⟩, ⟨by omega, by intro d hd; simp at hd; subst hd; exact .ptr _ _ (by omega)⟩, trivial⟩ rfl ?_
  unfold crecord_withField_S1
  (have hg : (987654321 : Nat) - 987654321 = 0 := rfl; have hr := hg; repeat' (first | refine aw_seq ?_ | (refine aw_skip ?_; repeat' (first | with_reducible refine thenQ_n ?_ | with_reducible refine blockQ_n ?_ | with_reducible refine thenQ_e ?_ | with_reducible refine blockQ_t ?_ | with_reducible refine blockQ_f (by decide) ?_)) | (refine aw_exit ?_; repeat' (first | with_reducible refine thenQ_n ?_ | with_reducible refine blockQ_n ?_ | with_reducible refine thenQ_e ?_ | with_reducible refine blockQ_t ?_ | with_reducible refine blockQ_f (by decide) ?_)) | refine aw_ret ?_ | refine aw_block ?_ | refine aw_condT rfl ?_ | refine aw_condF rfl ?_ | ((first | refine aw_hide fun K hK => aw_region ?_ | refine acallB (has_ac l frs _ hn) (by repeat' (first | exact trivial | exact rfl | refine And.intro ?_ ?_)) (by kernel_rfl) (by kernel_rfl) (by kernel_rfl) ?_ | refine ago_if (by omega) ?_ | skip); simp (config := {maxSteps := 10000000}) (disch := first | exact okYes (by kernel_rfl) | omega) only [List.length, Nat.zero_add, Nat.reduceMul, Nat.reduceAdd, envOf, dI, ARun_none, AOpRun, aexec, FSt.ev, AGo_ok, St.app, putO, eput_c, Nat.reduceBEq, eput_n, cond_false, hups, List.map, ARun_nil, dropE_c, inL_n, dropE_n, Option.map, run1, St.F, eget_c, ↓eget_h, hget_c, ↓hget_h, List.getElem?_cons_zero, dB, hput_c, beq_self_eq_true, hput_n, cond_true, List.append_nil, inL_c]) | (subst hK; repeat' (first | with_reducible refine thenQ_n ?_ | with_reducible refine blockQ_n ?_ | with_reducible refine thenQ_e ?_ | with_reducible refine blockQ_t ?_ | with_reducible refine blockQ_f (by decide) ?_))))
  all_goals (refine end_to [] [(96, 96), (152, 152)] (by first | exact .inl rfl | exact .inr rfl) rfl (by kernel_rfl) (by kernel_rfl) (by kernel_rfl) ?_ ?_ <;> repeat' (first | exact trivial | exact vr_val _ | exact vr_list _ | exact vr_ptr _ _ _ rfl | refine And.intro ⟨_, rfl, _, rfl, by decide, ?_⟩ ?_ | apply And.intro))
  all_goals exact tpC_in _ _ _
/-- all fields are there -/
def hasA (l : Lay) (fs : List Int) : Bool := fs.all fun x => wI x 0 ((l.fl.length : Int) - 1)
set_option maxRecDepth 100000 in
set_option maxHeartbeats 4000000 in
theorem ihas_ac (l : Lay) (frs : List (List Int)) (fs : List Int) (hl : fs.length ≤ 1000000) (hn : l.fl.length ≤ 1000) : AC Try.prog 144 [.list (ints fs), .fn 111 [] [.ptr 152 0]] [(96, tpC l frs), (152, [.ptr 96 0])] [(96, some (tpC l frs)), (152, some [.ptr 96 0])] (dI (match fs.findIdx? (fun x => !wI x 0 ((l.fl.length : Int) - 1)) with
    | some k => (k : Int)
    | none => -1)) := by
  refine kslices_IndexFunc_L_L_Jint_Kint_J.ac (n0 := 200) (by simp) ⟨.list _, .fn _ _ _ (by simp) (by intro d hd; simp at hd; subst hd; exact .ptr _ _ (by omega)), trivial⟩ ⟨⟨by omega, tpC_in _ _ _⟩, ⟨by omega, by intro d hd; simp at hd; subst hd; exact .ptr _ _ (by omega)⟩, trivial⟩ rfl ?_
  unfold cslices_IndexFunc_L_L_Jint_Kint_J
  (have hg : (987654321 : Nat) - 987654321 = 0 := rfl; have hr := hg; repeat' (first | refine aw_seq ?_ | (refine aw_skip ?_; repeat' (first | with_reducible refine thenQ_n ?_ | with_reducible refine blockQ_n ?_ | with_reducible refine thenQ_e ?_ | with_reducible refine blockQ_t ?_ | with_reducible refine blockQ_f (by decide) ?_)) | (refine aw_exit ?_; repeat' (first | with_reducible refine thenQ_n ?_ | with_reducible refine blockQ_n ?_ | with_reducible refine thenQ_e ?_ | with_reducible refine blockQ_t ?_ | with_reducible refine blockQ_f (by decide) ?_)) | refine aw_ret ?_ | refine aw_block ?_ | refine aw_condT rfl ?_ | refine aw_condF rfl ?_ | ((first | refine aw_hide fun K hK => aw_region ?_ | refine ago_if (by omega) ?_ | skip); simp (config := {maxSteps := 10000000}) (disch := first | exact okYes (by kernel_rfl) | omega) only [List.length, Nat.zero_add, Nat.reduceMul, Nat.reduceAdd, envOf, ARun_none, AOpRun, aexec, FSt.ev, AGo_ok, St.app, putO, eput_c, Nat.reduceBEq, eput_n, cond_false, hups, List.map, ARun_nil, dropE_c, inL_n, dropE_n, St.F, ↓eget_h, eget_c, ints_len, inL_c, beq_self_eq_true, cond_true, Int.reduceNeg, dI]) | (subst hK; repeat' (first | with_reducible refine thenQ_n ?_ | with_reducible refine blockQ_n ?_ | with_reducible refine thenQ_e ?_ | with_reducible refine blockQ_t ?_ | with_reducible refine blockQ_f (by decide) ?_))))
  refine aw_loop (fun k : Nat => ⟨[(0, .list (ints fs)), (1, .fn 111 [] [.ptr 152 0]), (7, dI fs.length), (8, dI k)], [(96, tpC l frs), (152, [.ptr 96 0])], 400⟩) (fun k => k ≤ fs.length ∧ ∀ j, j < k → wI (fs[j]?.getD 0) 0 ((l.fl.length : Int) - 1) = true) (fun k => fs.length - k) ⟨0, ⟨by omega, fun j hj => by omega⟩, ?_⟩ ?_
  · refine wk_to [] [(96, 96), (152, 152)] (by kernel_rfl) (by kernel_rfl) (by kernel_rfl) (by kernel_rfl) (by kernel_rfl) ?_ ?_ <;> repeat' (first | exact trivial | exact vr_val _ | exact vr_list _ | exact vr_ptr _ _ _ rfl | apply vr_fn | refine And.intro ⟨_, rfl, .inl ⟨_, rfl, by decide, ?_⟩⟩ ?_ | apply And.intro)
    all_goals exact tpC_in _ _ _
  rintro k ⟨hk, hin⟩
  by_cases hk2 : k < fs.length
  · have g1 := ints_gd fs k hk2
    cases he : wI (fs[k]?.getD 0) 0 ((l.fl.length : Int) - 1) with
    | false =>
      have q : fs.findIdx? (fun x => !wI x 0 ((l.fl.length : Int) - 1)) = some k := by
        rw [List.findIdx?_eq_some_iff_getElem]
        refine ⟨hk2, by have := he; simp [hk2] at this; simp [this], fun j hj => ?_⟩
        have := hin j hj
        simpa [show j < fs.length by omega] using this
      rw [q]
      (have hg : (987654321 : Nat) - 987654321 = 0 := rfl; have hr := hg; repeat' (first | refine aw_seq ?_ | (refine aw_skip ?_; repeat' (first | with_reducible refine thenQ_n ?_ | with_reducible refine blockQ_n ?_ | with_reducible refine thenQ_e ?_ | with_reducible refine blockQ_t ?_ | with_reducible refine blockQ_f (by decide) ?_)) | (refine aw_exit ?_; repeat' (first | with_reducible refine thenQ_n ?_ | with_reducible refine blockQ_n ?_ | with_reducible refine thenQ_e ?_ | with_reducible refine blockQ_t ?_ | with_reducible refine blockQ_f (by decide) ?_)) | refine aw_ret ?_ | refine aw_block ?_ | refine aw_condT rfl ?_ | refine aw_condF rfl ?_ | (refine aw_cond rfl (fun hg => ?_) (fun hg => ?_) <;> (try (have hq := hg; simp only [Bool.not_eq_true', Bool.not_eq_false', Bool.and_eq_true, Bool.and_eq_false_iff, Bool.or_eq_true, Bool.or_eq_false_iff, decide_eq_true_eq, decide_eq_false_iff_not, bne_iff_ne, beq_iff_eq, beq_eq_false_iff_ne, bne_eq_false_iff_eq, ne_eq, Int.not_lt, Int.not_le, Decidable.not_not] at hq)) <;> (try (have hr := hg; simp only [decide_eq_true_eq, decide_eq_false_iff_not] at hr)) <;> (try (exfalso; omega))) | ((first | refine aw_hide fun K hK => aw_region ?_ | refine acallB (hasF_ac l frs _ hn) (by repeat' (first | exact trivial | exact rfl | refine And.intro ?_ ?_)) (by kernel_rfl) (by kernel_rfl) (by kernel_rfl) ?_ | refine ago_if (by omega) ?_ | skip); simp (config := {maxSteps := 10000000}) (disch := first | exact okYes (by kernel_rfl) | omega) only [List.length, Nat.zero_add, Nat.reduceMul, Nat.reduceAdd, dI, ARun_none, AOpRun, aexec, FSt.ev, St.F, eget_c, Nat.reduceBEq, ↓eget_h, cond_false, isSh, Bool.false_eq_true, ↓reduceIte, Option.map, abin, AGo_ok, St.app, putO, eput_c, eput_n, hups, List.map, ARun_nil, dropE_c, inL_n, dropE_n, hr, decide_true, inL_c, beq_self_eq_true, cond_true, Int.natCast_nonneg, ints_all, and_self, opt1, Int.toNat_natCast, g1, run1, List.getElem?_cons_zero, dB, he, Bool.not_false, hput_c, hput_n, List.append_nil, blockQ, thenQ]) | (subst hK; repeat' (first | with_reducible refine thenQ_n ?_ | with_reducible refine blockQ_n ?_ | with_reducible refine thenQ_e ?_ | with_reducible refine blockQ_t ?_ | with_reducible refine blockQ_f (by decide) ?_))))
      all_goals (refine end_to [] [(96, 96), (152, 152)] (by first | exact .inl rfl | exact .inr rfl) rfl (by kernel_rfl) (by kernel_rfl) (by kernel_rfl) ?_ ?_ <;> repeat' (first | exact trivial | exact vr_val _ | exact vr_list _ | exact vr_ptr _ _ _ rfl | refine And.intro ⟨_, rfl, _, rfl, by decide, ?_⟩ ?_ | apply And.intro))
      all_goals exact tpC_in _ _ _
    | true =>
      (have hg : (987654321 : Nat) - 987654321 = 0 := rfl; have hr := hg; repeat' (first | refine aw_seq ?_ | (refine aw_skip ?_; repeat' (first | with_reducible refine thenQ_n ?_ | with_reducible refine blockQ_n ?_ | with_reducible refine thenQ_e ?_ | with_reducible refine blockQ_t ?_ | with_reducible refine blockQ_f (by decide) ?_)) | (refine aw_exit ?_; repeat' (first | with_reducible refine thenQ_n ?_ | with_reducible refine blockQ_n ?_ | with_reducible refine thenQ_e ?_ | with_reducible refine blockQ_t ?_ | with_reducible refine blockQ_f (by decide) ?_)) | refine aw_ret ?_ | refine aw_block ?_ | refine aw_condT rfl ?_ | refine aw_condF rfl ?_ | (refine aw_cond rfl (fun hg => ?_) (fun hg => ?_) <;> (try (have hq := hg; simp only [Bool.not_eq_true', Bool.not_eq_false', Bool.and_eq_true, Bool.and_eq_false_iff, Bool.or_eq_true, Bool.or_eq_false_iff, decide_eq_true_eq, decide_eq_false_iff_not, bne_iff_ne, beq_iff_eq, beq_eq_false_iff_ne, bne_eq_false_iff_eq, ne_eq, Int.not_lt, Int.not_le, Decidable.not_not] at hq)) <;> (try (have hr := hg; simp only [decide_eq_true_eq, decide_eq_false_iff_not] at hr)) <;> (try (exfalso; omega))) | ((first | refine aw_hide fun K hK => aw_region ?_ | refine acallB (hasF_ac l frs _ hn) (by repeat' (first | exact trivial | exact rfl | refine And.intro ?_ ?_)) (by kernel_rfl) (by kernel_rfl) (by kernel_rfl) ?_ | refine ago_if (by omega) ?_ | skip); simp (config := {maxSteps := 10000000}) (disch := first | exact okYes (by kernel_rfl) | omega) only [List.length, Nat.zero_add, Nat.reduceMul, Nat.reduceAdd, dI, ARun_none, AOpRun, aexec, FSt.ev, St.F, eget_c, Nat.reduceBEq, ↓eget_h, cond_false, isSh, Bool.false_eq_true, ↓reduceIte, Option.map, abin, AGo_ok, St.app, putO, eput_c, eput_n, hups, List.map, ARun_nil, dropE_c, inL_n, dropE_n, hr, decide_true, inL_c, beq_self_eq_true, cond_true, Int.natCast_nonneg, ints_all, and_self, opt1, Int.toNat_natCast, g1, run1, List.getElem?_cons_zero, dB, he, Bool.not_true, hput_c, hput_n, List.append_nil, fits]) | (subst hK; repeat' (first | with_reducible refine thenQ_n ?_ | with_reducible refine blockQ_n ?_ | with_reducible refine thenQ_e ?_ | with_reducible refine blockQ_t ?_ | with_reducible refine blockQ_f (by decide) ?_))))
      refine ⟨k + 1, ⟨by omega, fun j hj => ?_⟩, by omega, ?_⟩
      · rcases (by omega : j < k ∨ j = k) with h | rfl
        · exact hin j h
        · exact he
      · refine wk_to [] [(96, 96), (152, 152)] (by kernel_rfl) (by kernel_rfl) (by kernel_rfl) (by kernel_rfl) (by kernel_rfl) ?_ ?_ <;> repeat' (first | exact trivial | exact vr_val _ | exact vr_list _ | exact vr_ptr _ _ _ rfl | apply vr_fn | refine And.intro ⟨_, rfl, .inl ⟨_, rfl, by decide, ?_⟩⟩ ?_ | apply And.intro)
        all_goals exact tpC_in _ _ _
  · obtain rfl : k = fs.length := by omega
    have q : fs.findIdx? (fun x => !wI x 0 ((l.fl.length : Int) - 1)) = none := by
      rw [List.findIdx?_eq_none_iff]
      intro y hy
      obtain ⟨j, hj, rfl⟩ := List.getElem_of_mem hy
      have := hin j hj
      simp [hj] at this
      simp [this]
    rw [q]
    (have hg : (987654321 : Nat) - 987654321 = 0 := rfl; have hr := hg; repeat' (first | refine aw_seq ?_ | (refine aw_skip ?_; repeat' (first | with_reducible refine thenQ_n ?_ | with_reducible refine blockQ_n ?_ | with_reducible refine thenQ_e ?_ | with_reducible refine blockQ_t ?_ | with_reducible refine blockQ_f (by decide) ?_)) | (refine aw_exit ?_; repeat' (first | with_reducible refine thenQ_n ?_ | with_reducible refine blockQ_n ?_ | with_reducible refine thenQ_e ?_ | with_reducible refine blockQ_t ?_ | with_reducible refine blockQ_f (by decide) ?_)) | refine aw_ret ?_ | refine aw_block ?_ | refine aw_condT rfl ?_ | refine aw_condF rfl ?_ | (refine aw_cond rfl (fun hg => ?_) (fun hg => ?_) <;> (try (have hq := hg; simp only [Bool.not_eq_true', Bool.not_eq_false', Bool.and_eq_true, Bool.and_eq_false_iff, Bool.or_eq_true, Bool.or_eq_false_iff, decide_eq_true_eq, decide_eq_false_iff_not, bne_iff_ne, beq_iff_eq, beq_eq_false_iff_ne, bne_eq_false_iff_eq, ne_eq, Int.not_lt, Int.not_le, Decidable.not_not] at hq)) <;> (try (have hr := hg; simp only [decide_eq_true_eq, decide_eq_false_iff_not] at hr)) <;> (try (exfalso; omega))) | ((first | refine aw_hide fun K hK => aw_region ?_ | refine ago_if (by omega) ?_ | skip); simp (config := {maxSteps := 10000000}) (disch := first | exact okYes (by kernel_rfl) | omega) only [List.length, Nat.zero_add, Nat.reduceMul, Nat.reduceAdd, dI, ARun_none, AOpRun, aexec, FSt.ev, St.F, eget_c, Nat.reduceBEq, ↓eget_h, cond_false, isSh, Bool.false_eq_true, ↓reduceIte, Option.map, abin, AGo_ok, St.app, putO, eput_c, eput_n, hups, List.map, ARun_nil, dropE_c, inL_n, dropE_n, Int.reduceNeg, hr, decide_false]) | (subst hK; repeat' (first | with_reducible refine thenQ_n ?_ | with_reducible refine blockQ_n ?_ | with_reducible refine thenQ_e ?_ | with_reducible refine blockQ_t ?_ | with_reducible refine blockQ_f (by decide) ?_))))
    all_goals (refine end_to [] [(96, 96), (152, 152)] (by first | exact .inl rfl | exact .inr rfl) rfl (by kernel_rfl) (by kernel_rfl) (by kernel_rfl) ?_ ?_ <;> repeat' (first | exact trivial | exact vr_val _ | exact vr_list _ | exact vr_ptr _ _ _ rfl | refine And.intro ⟨_, rfl, _, rfl, by decide, ?_⟩ ?_ | apply And.intro))
    all_goals exact tpC_in _ _ _
set_option maxRecDepth 100000 in
set_option maxHeartbeats 2000000 in
theorem chas_ac (l : Lay) (frs : List (List Int)) (fs : List Int) (hl : fs.length ≤ 1000000) (hn : l.fl.length ≤ 1000) : AC Try.prog 110 [.list (ints fs), .fn 111 [] [.ptr 152 0]] [(96, tpC l frs), (152, [.ptr 96 0])] [(96, some (tpC l frs)), (152, some [.ptr 96 0])] (dB (!hasA l fs)) := by
  refine kslices_ContainsFunc_L_L_Jint_Kint_J.ac (n0 := 200) (by simp) ⟨.list _, .fn _ _ _ (by simp) (by intro d hd; simp at hd; subst hd; exact .ptr _ _ (by omega)), trivial⟩ ⟨⟨by omega, tpC_in _ _ _⟩, ⟨by omega, by intro d hd; simp at hd; subst hd; exact .ptr _ _ (by omega)⟩, trivial⟩ rfl ?_
  unfold cslices_ContainsFunc_L_L_Jint_Kint_J
  have hf := ihas_ac l frs fs hl hn
  cases h : fs.findIdx? (fun x => !wI x 0 ((l.fl.length : Int) - 1)) with
  | none =>
    have ha : hasA l fs = true := by
      rw [List.findIdx?_eq_none_iff] at h
      refine List.all_eq_true.2 fun x hx => ?_
      have := h x hx
      simpa using this
    rw [h] at hf
    rw [ha]
    (have hg : (987654321 : Nat) - 987654321 = 0 := rfl; have hr := hg; repeat' (first | refine aw_seq ?_ | (refine aw_skip ?_; repeat' (first | with_reducible refine thenQ_n ?_ | with_reducible refine blockQ_n ?_ | with_reducible refine thenQ_e ?_ | with_reducible refine blockQ_t ?_ | with_reducible refine blockQ_f (by decide) ?_)) | (refine aw_exit ?_; repeat' (first | with_reducible refine thenQ_n ?_ | with_reducible refine blockQ_n ?_ | with_reducible refine thenQ_e ?_ | with_reducible refine blockQ_t ?_ | with_reducible refine blockQ_f (by decide) ?_)) | refine aw_ret ?_ | refine aw_block ?_ | refine aw_condT rfl ?_ | refine aw_condF rfl ?_ | ((first | refine aw_hide fun K hK => aw_region ?_ | refine acallB (hf) (by repeat' (first | exact trivial | exact rfl | refine And.intro ?_ ?_)) (by kernel_rfl) (by kernel_rfl) (by kernel_rfl) ?_ | refine ago_if (by omega) ?_ | skip); simp (config := {maxSteps := 10000000}) (disch := first | exact okYes (by kernel_rfl) | omega) only [List.length, Nat.zero_add, Nat.reduceMul, Nat.reduceAdd, envOf, ARun_none, AOpRun, aexec, FSt.ev, AGo_ok, St.app, putO, eput_c, Nat.reduceBEq, eput_n, cond_false, hups, List.map, ARun_nil, dropE_c, inL_n, dropE_n, St.F, ↓eget_h, eget_c, dI, Int.reduceNeg, hput_c, beq_self_eq_true, hput_n, cond_true, List.append_nil, isSh, Bool.false_eq_true, ↓reduceIte, Option.map, abin, inL_c, dB, Bool.not_true]) | (subst hK; repeat' (first | with_reducible refine thenQ_n ?_ | with_reducible refine blockQ_n ?_ | with_reducible refine thenQ_e ?_ | with_reducible refine blockQ_t ?_ | with_reducible refine blockQ_f (by decide) ?_))))
    all_goals (refine end_to [] [(96, 96), (152, 152)] (by first | exact .inl rfl | exact .inr rfl) rfl (by kernel_rfl) (by kernel_rfl) (by kernel_rfl) ?_ ?_ <;> repeat' (first | exact trivial | exact vr_val _ | exact vr_list _ | exact vr_ptr _ _ _ rfl | refine And.intro ⟨_, rfl, _, rfl, by decide, ?_⟩ ?_ | apply And.intro))
    all_goals exact tpC_in _ _ _
  | some k =>
    have ha : hasA l fs = false := by
      rw [List.findIdx?_eq_some_iff_getElem] at h
      obtain ⟨hk, he, _⟩ := h
      refine List.all_eq_false.2 ⟨fs[k], List.getElem_mem hk, by simpa using he⟩
    rw [h] at hf
    rw [ha]
    have q : decide ((k : Int) ≥ 0) = true := decide_eq_true (by omega)
    (have hg : (987654321 : Nat) - 987654321 = 0 := rfl; have hr := hg; repeat' (first | refine aw_seq ?_ | (refine aw_skip ?_; repeat' (first | with_reducible refine thenQ_n ?_ | with_reducible refine blockQ_n ?_ | with_reducible refine thenQ_e ?_ | with_reducible refine blockQ_t ?_ | with_reducible refine blockQ_f (by decide) ?_)) | (refine aw_exit ?_; repeat' (first | with_reducible refine thenQ_n ?_ | with_reducible refine blockQ_n ?_ | with_reducible refine thenQ_e ?_ | with_reducible refine blockQ_t ?_ | with_reducible refine blockQ_f (by decide) ?_)) | refine aw_ret ?_ | refine aw_block ?_ | refine aw_condT rfl ?_ | refine aw_condF rfl ?_ | ((first | refine aw_hide fun K hK => aw_region ?_ | refine acallB (hf) (by repeat' (first | exact trivial | exact rfl | refine And.intro ?_ ?_)) (by kernel_rfl) (by kernel_rfl) (by kernel_rfl) ?_ | refine ago_if (by omega) ?_ | skip); simp (config := {maxSteps := 10000000}) (disch := first | exact okYes (by kernel_rfl) | omega) only [List.length, Nat.zero_add, Nat.reduceMul, Nat.reduceAdd, envOf, ARun_none, AOpRun, aexec, FSt.ev, AGo_ok, St.app, putO, eput_c, Nat.reduceBEq, eput_n, cond_false, hups, List.map, ARun_nil, dropE_c, inL_n, dropE_n, St.F, ↓eget_h, eget_c, dI, hput_c, beq_self_eq_true, hput_n, cond_true, List.append_nil, isSh, Bool.false_eq_true, ↓reduceIte, Option.map, abin, Int.natCast_nonneg, decide_true, inL_c, dB, Bool.not_false]) | (subst hK; repeat' (first | with_reducible refine thenQ_n ?_ | with_reducible refine blockQ_n ?_ | with_reducible refine thenQ_e ?_ | with_reducible refine blockQ_t ?_ | with_reducible refine blockQ_f (by decide) ?_))))
    all_goals (refine end_to [] [(96, 96), (152, 152)] (by first | exact .inl rfl | exact .inr rfl) rfl (by kernel_rfl) (by kernel_rfl) (by kernel_rfl) ?_ ?_ <;> repeat' (first | exact trivial | exact vr_val _ | exact vr_list _ | exact vr_ptr _ _ _ rfl | refine And.intro ⟨_, rfl, _, rfl, by decide, ?_⟩ ?_ | apply And.intro))
    all_goals exact tpC_in _ _ _
/-- the error of a layout, frames and fields -/
noncomputable def wfE (l : Lay) (frs : List (List Int)) (fs : List Int) : Int := if tpE l frs = 0 then (if hasA l fs = true then 0 else 1) else tpE l frs
set_option maxRecDepth 100000 in
set_option maxHeartbeats 4000000 in
theorem withField_ok (l : Lay) (frs : List (List Int)) (fs : List Int) (hl : LayIn l) (h1 : LayOk l) (h2 : frs.length ≤ 200) (hf : FrIn frs) (hfs : fs.length ≤ 1000) (hh : hasA l fs = true) : AC Try.prog 66 [layD l, .list (rows frs), .list (ints fs)] [] [(96, some (tpC l frs))] (.tup [.ptr 96 0, dI 0]) := by
  refine krecord_withField.ac (n0 := 0) (by simp) ⟨in_layD _ _, .list _, .list _, trivial⟩ trivial rfl ?_
  unfold crecord_withField layD layC
  have nt := newTape_ok l frs hl h1 h2 hf
  have ch := chas_ac l frs fs (by omega) (by have := h1.nf; omega)
  rw [hh] at ch
  refine aw_seq (aw_region ?_)
  simp (config := {maxSteps := 10000000}) (disch := first | exact okYes (by kernel_rfl) | omega) only [thenQ, List.map, dI, List.length, Nat.zero_add, Nat.reduceAdd, Nat.reduceMul, envOf, ARun_none, AOpRun, aexec, D.isBot, FSt.ev, St.F, ↓eget_h, Bool.false_eq_true, Option.isSome, hget_n, or_self, ↓reduceIte, D.cells, AGo_ok, St.app, putO, eput_c, Nat.reduceBEq, eput_n, cond_false, hups, hput_n, ARun_nil, dropE_c, inL_n, dropE_n]
  refine aw_wk (s' := ⟨[(1, .list (rows frs)), (2, .list (ints fs)), (3, .ptr 0 0)], [(0, [dI l.words, dI l.s0, dI l.s1, dI l.s2, dI l.s3, .list (fls l.fl)])], 80⟩) ?_ ?_
  · unfold dI
    refine wk_to [] [(0, 0)] (by kernel_rfl) (by kernel_rfl) (by kernel_rfl) (by kernel_rfl) (by kernel_rfl) ?_ ?_ <;> repeat' (first | exact trivial | exact vr_val _ | exact vr_list _ | exact vr_ptr _ _ _ rfl | refine And.intro ⟨_, rfl, .inl ⟨_, rfl, by decide, ?_⟩⟩ ?_ | apply And.intro)
  refine aw_seq (aw_region ?_)
  simp (config := {maxSteps := 10000000}) (disch := first | exact okYes (by kernel_rfl) | omega) only [thenQ, List.length, Nat.zero_add, Nat.reduceAdd, Nat.reduceMul, dI, ARun_none, AOpRun, aexec, FSt.ev, St.F, eget_c, Nat.reduceBEq, ↓eget_h, cond_false, hget_c, beq_self_eq_true, hget_n, cond_true, Nat.reduceLeDiff, ↓reduceIte, List.drop, List.take, AGo_ok, St.app, putO, eput_c, eput_n, hups, List.map]
  refine acallB nt (by repeat' (first | exact trivial | exact rfl | refine And.intro ?_ ?_)) (by kernel_rfl) (by kernel_rfl) (by kernel_rfl) ?_
  simp (config := {maxSteps := 10000000}) (disch := first | exact okYes (by kernel_rfl) | omega) only [Nat.reduceAdd, St.app, putO, dI, eput_c, Nat.reduceBEq, eput_n, cond_false, hups, hput_c, hput_n, List.map, List.append_nil, ARun_none, AOpRun, aexec, FSt.ev, St.F, eget_c, ↓eget_h, AGo_ok, opt1, Option.map, List.getElem?_cons_zero, List.getElem?_cons_succ, Option.isSome, Nat.reduceMul, hget_c, hget_n, Bool.false_eq_true, ↓reduceIte, ↓hget_h, D.isBot, D.cells, List.length, Nat.zero_add, Nat.reduceLeDiff, List.all, D.leaf, Bool.and_true, and_self, splice, List.take, List.nil_append, List.drop, beq_self_eq_true, cond_true, ARun_nil, dropE_c, inL_c, inL_n, dropE_n]
  (have hg : (987654321 : Nat) - 987654321 = 0 := rfl; have hr := hg; iterate 7 (try (first | refine aw_seq ?_ | (refine aw_skip ?_; repeat' (first | with_reducible refine thenQ_n ?_ | with_reducible refine blockQ_n ?_ | with_reducible refine thenQ_e ?_ | with_reducible refine blockQ_t ?_ | with_reducible refine blockQ_f (by decide) ?_)) | (refine aw_exit ?_; repeat' (first | with_reducible refine thenQ_n ?_ | with_reducible refine blockQ_n ?_ | with_reducible refine thenQ_e ?_ | with_reducible refine blockQ_t ?_ | with_reducible refine blockQ_f (by decide) ?_)) | refine aw_ret ?_ | refine aw_block ?_ | refine aw_condT rfl ?_ | refine aw_condF rfl ?_ | ((first | refine aw_hide fun K hK => aw_region ?_ | refine ago_if (by omega) ?_ | skip); simp (config := {maxSteps := 10000000}) (disch := first | exact okYes (by kernel_rfl) | omega) only [List.length, Nat.zero_add, Nat.reduceAdd, Nat.reduceMul, ARun_none, AOpRun, aexec, FSt.ev, St.F, eget_c, Nat.reduceBEq, ↓eget_h, cond_false, AGo_ok, St.app, putO, eput_c, eput_n, hups, List.map, isSh, Bool.false_eq_true, ↓reduceIte, Option.map, abin, bne_self_eq_false, ARun_nil, dropE_c, inL_c, inL_n, beq_self_eq_true, cond_true, dropE_n]) | (subst hK; repeat' (first | with_reducible refine thenQ_n ?_ | with_reducible refine blockQ_n ?_ | with_reducible refine thenQ_e ?_ | with_reducible refine blockQ_t ?_ | with_reducible refine blockQ_f (by decide) ?_)))))
  refine aw_wk (s' := ⟨[(2, .list (ints fs)), (8, .ptr 152 0)], [(96, tpC l frs), (152, [.ptr 96 0])], 200⟩) ?_ ?_
  · refine wk_to [] [(96, 96), (152, 128)] (by kernel_rfl) (by kernel_rfl) (by kernel_rfl) (by kernel_rfl) (by kernel_rfl) ?_ ?_ <;> repeat' (first | exact trivial | exact vr_val _ | exact vr_list _ | exact vr_ptr _ _ _ rfl | refine And.intro ⟨_, rfl, .inl ⟨_, rfl, by decide, ?_⟩⟩ ?_ | apply And.intro)
    all_goals exact tpC_in _ _ _
  (have hg : (987654321 : Nat) - 987654321 = 0 := rfl; have hr := hg; repeat' (first | refine aw_seq ?_ | (refine aw_skip ?_; repeat' (first | with_reducible refine thenQ_n ?_ | with_reducible refine blockQ_n ?_ | with_reducible refine thenQ_e ?_ | with_reducible refine blockQ_t ?_ | with_reducible refine blockQ_f (by decide) ?_)) | (refine aw_exit ?_; repeat' (first | with_reducible refine thenQ_n ?_ | with_reducible refine blockQ_n ?_ | with_reducible refine thenQ_e ?_ | with_reducible refine blockQ_t ?_ | with_reducible refine blockQ_f (by decide) ?_)) | refine aw_ret ?_ | refine aw_block ?_ | refine aw_condT rfl ?_ | refine aw_condF rfl ?_ | ((first | refine aw_hide fun K hK => aw_region ?_ | refine acallB (ch) (by repeat' (first | exact trivial | exact rfl | refine And.intro ?_ ?_)) (by kernel_rfl) (by kernel_rfl) (by kernel_rfl) ?_ | refine ago_if (by omega) ?_ | skip); simp (config := {maxSteps := 10000000}) (disch := first | exact okYes (by kernel_rfl) | omega) only [List.length, Nat.zero_add, Nat.reduceAdd, Nat.reduceMul, ARun_none, AOpRun, aexec, FSt.ev, St.F, ↓eget_h, AGo_ok, St.app, putO, eput_c, Nat.reduceBEq, eput_n, cond_false, hups, List.map, eget_c, dB, Bool.not_true, hput_c, beq_self_eq_true, hput_n, cond_true, List.append_nil, ARun_nil, dropE_c, inL_c, inL_n, dropE_n, Option.map, run1, hget_c, ↓hget_h, List.getElem?_cons_zero]) | (subst hK; repeat' (first | with_reducible refine thenQ_n ?_ | with_reducible refine blockQ_n ?_ | with_reducible refine thenQ_e ?_ | with_reducible refine blockQ_t ?_ | with_reducible refine blockQ_f (by decide) ?_))))
  refine end_to [] [(96, 96)] (by first | exact .inl rfl | exact .inr rfl) rfl (by kernel_rfl) (by kernel_rfl) (by kernel_rfl) ?_ ?_ <;> repeat' (first | exact trivial | exact vr_val _ | exact vr_list _ | exact vr_ptr _ _ _ rfl | apply vr_tup | refine And.intro ⟨_, rfl, _, rfl, by decide, ?_⟩ ?_ | apply And.intro)
  all_goals exact tpC_in _ _ _
set_option maxRecDepth 100000 in
set_option maxHeartbeats 4000000 in
theorem withField_err (l : Lay) (frs : List (List Int)) (fs : List Int) (hl : LayIn l) (hf : FrIn frs) (hfs : fs.length ≤ 1000) (he : wfE l frs fs ≠ 0) : AC Try.prog 66 [layD l, .list (rows frs), .list (ints fs)] [] [] (.tup [.val (.pointer none), dI (wfE l frs fs)]) := by
  refine krecord_withField.ac (n0 := 0) (by simp) ⟨in_layD _ _, .list _, .list _, trivial⟩ trivial rfl ?_
  unfold crecord_withField layD layC
  rcases tpE_cases l frs with ⟨h0, h1, h2⟩ | ⟨h0, h1⟩
  · have hh : hasA l fs = false := by
      cases h : hasA l fs with
      | false => rfl
      | true => exact absurd (by unfold wfE; rw [if_pos h0, if_pos h]) he
    have e : wfE l frs fs = 1 := by unfold wfE; rw [if_pos h0, hh]; rfl
    rw [e]
    have nt := newTape_ok l frs hl h1 h2 hf
    have ch := chas_ac l frs fs (by omega) (by have := h1.nf; omega)
    rw [hh] at ch
    refine aw_seq (aw_region ?_)
    simp (config := {maxSteps := 10000000}) (disch := first | exact okYes (by kernel_rfl) | omega) only [thenQ, List.map, dI, List.length, Nat.zero_add, Nat.reduceAdd, Nat.reduceMul, envOf, ARun_none, AOpRun, aexec, D.isBot, FSt.ev, St.F, ↓eget_h, Bool.false_eq_true, Option.isSome, hget_n, or_self, ↓reduceIte, D.cells, AGo_ok, St.app, putO, eput_c, Nat.reduceBEq, eput_n, cond_false, hups, hput_n, ARun_nil, dropE_c, inL_n, dropE_n]
    refine aw_wk (s' := ⟨[(1, .list (rows frs)), (2, .list (ints fs)), (3, .ptr 0 0)], [(0, [dI l.words, dI l.s0, dI l.s1, dI l.s2, dI l.s3, .list (fls l.fl)])], 80⟩) ?_ ?_
    · unfold dI
      refine wk_to [] [(0, 0)] (by kernel_rfl) (by kernel_rfl) (by kernel_rfl) (by kernel_rfl) (by kernel_rfl) ?_ ?_ <;> repeat' (first | exact trivial | exact vr_val _ | exact vr_list _ | exact vr_ptr _ _ _ rfl | refine And.intro ⟨_, rfl, .inl ⟨_, rfl, by decide, ?_⟩⟩ ?_ | apply And.intro)
    refine aw_seq (aw_region ?_)
    simp (config := {maxSteps := 10000000}) (disch := first | exact okYes (by kernel_rfl) | omega) only [thenQ, List.length, Nat.zero_add, Nat.reduceAdd, Nat.reduceMul, dI, ARun_none, AOpRun, aexec, FSt.ev, St.F, eget_c, Nat.reduceBEq, ↓eget_h, cond_false, hget_c, beq_self_eq_true, hget_n, cond_true, Nat.reduceLeDiff, ↓reduceIte, List.drop, List.take, AGo_ok, St.app, putO, eput_c, eput_n, hups, List.map]
    refine acallB nt (by repeat' (first | exact trivial | exact rfl | refine And.intro ?_ ?_)) (by kernel_rfl) (by kernel_rfl) (by kernel_rfl) ?_
    simp (config := {maxSteps := 10000000}) (disch := first | exact okYes (by kernel_rfl) | omega) only [Nat.reduceAdd, St.app, putO, dI, eput_c, Nat.reduceBEq, eput_n, cond_false, hups, hput_c, hput_n, List.map, List.append_nil, ARun_none, AOpRun, aexec, FSt.ev, St.F, eget_c, ↓eget_h, AGo_ok, opt1, Option.map, List.getElem?_cons_zero, List.getElem?_cons_succ, Option.isSome, Nat.reduceMul, hget_c, hget_n, Bool.false_eq_true, ↓reduceIte, ↓hget_h, D.isBot, D.cells, List.length, Nat.zero_add, Nat.reduceLeDiff, List.all, D.leaf, Bool.and_true, and_self, splice, List.take, List.nil_append, List.drop, beq_self_eq_true, cond_true, ARun_nil, dropE_c, inL_c, inL_n, dropE_n]
    (have hg : (987654321 : Nat) - 987654321 = 0 := rfl; have hr := hg; iterate 7 (try (first | refine aw_seq ?_ | (refine aw_skip ?_; repeat' (first | with_reducible refine thenQ_n ?_ | with_reducible refine blockQ_n ?_ | with_reducible refine thenQ_e ?_ | with_reducible refine blockQ_t ?_ | with_reducible refine blockQ_f (by decide) ?_)) | (refine aw_exit ?_; repeat' (first | with_reducible refine thenQ_n ?_ | with_reducible refine blockQ_n ?_ | with_reducible refine thenQ_e ?_ | with_reducible refine blockQ_t ?_ | with_reducible refine blockQ_f (by decide) ?_)) | refine aw_ret ?_ | refine aw_block ?_ | refine aw_condT rfl ?_ | refine aw_condF rfl ?_ | ((first | refine aw_hide fun K hK => aw_region ?_ | refine ago_if (by omega) ?_ | skip); simp (config := {maxSteps := 10000000}) (disch := first | exact okYes (by kernel_rfl) | omega) only [List.length, Nat.zero_add, Nat.reduceAdd, Nat.reduceMul, ARun_none, AOpRun, aexec, FSt.ev, St.F, eget_c, Nat.reduceBEq, ↓eget_h, cond_false, AGo_ok, St.app, putO, eput_c, eput_n, hups, List.map, isSh, Bool.false_eq_true, ↓reduceIte, Option.map, abin, bne_self_eq_false, ARun_nil, dropE_c, inL_c, inL_n, beq_self_eq_true, cond_true, dropE_n]) | (subst hK; repeat' (first | with_reducible refine thenQ_n ?_ | with_reducible refine blockQ_n ?_ | with_reducible refine thenQ_e ?_ | with_reducible refine blockQ_t ?_ | with_reducible refine blockQ_f (by decide) ?_)))))
    refine aw_wk (s' := ⟨[(2, .list (ints fs)), (8, .ptr 152 0)], [(96, tpC l frs), (152, [.ptr 96 0])], 200⟩) ?_ ?_
    · refine wk_to [] [(96, 96), (152, 128)] (by kernel_rfl) (by kernel_rfl) (by kernel_rfl) (by kernel_rfl) (by kernel_rfl) ?_ ?_ <;> repeat' (first | exact trivial | exact vr_val _ | exact vr_list _ | exact vr_ptr _ _ _ rfl | refine And.intro ⟨_, rfl, .inl ⟨_, rfl, by decide, ?_⟩⟩ ?_ | apply And.intro)
      all_goals exact tpC_in _ _ _
    (have hg : (987654321 : Nat) - 987654321 = 0 := rfl; have hr := hg; repeat' (first | refine aw_seq ?_ | (refine aw_skip ?_; repeat' (first | with_reducible refine thenQ_n ?_ | with_reducible refine blockQ_n ?_ | with_reducible refine thenQ_e ?_ | with_reducible refine blockQ_t ?_ | with_reducible refine blockQ_f (by decide) ?_)) | (refine aw_exit ?_; repeat' (first | with_reducible refine thenQ_n ?_ | with_reducible refine blockQ_n ?_ | with_reducible refine thenQ_e ?_ | with_reducible refine blockQ_t ?_ | with_reducible refine blockQ_f (by decide) ?_)) | refine aw_ret ?_ | refine aw_block ?_ | refine aw_condT rfl ?_ | refine aw_condF rfl ?_ | ((first | refine aw_hide fun K hK => aw_region ?_ | refine acallB (ch) (by repeat' (first | exact trivial | exact rfl | refine And.intro ?_ ?_)) (by kernel_rfl) (by kernel_rfl) (by kernel_rfl) ?_ | refine ago_if (by omega) ?_ | skip); simp (config := {maxSteps := 10000000}) (disch := first | exact okYes (by kernel_rfl) | omega) only [List.length, Nat.zero_add, Nat.reduceAdd, Nat.reduceMul, ARun_none, AOpRun, aexec, FSt.ev, St.F, ↓eget_h, AGo_ok, St.app, putO, eput_c, Nat.reduceBEq, eput_n, cond_false, hups, List.map, eget_c, dB, Bool.not_false, hput_c, beq_self_eq_true, hput_n, cond_true, List.append_nil, ARun_nil, dropE_c, inL_c, inL_n, dropE_n, thenQ]) | (subst hK; repeat' (first | with_reducible refine thenQ_n ?_ | with_reducible refine blockQ_n ?_ | with_reducible refine thenQ_e ?_ | with_reducible refine blockQ_t ?_ | with_reducible refine blockQ_f (by decide) ?_))))
    (refine end_to [] [] (by first | exact .inl rfl | exact .inr rfl) rfl (by kernel_rfl) (by kernel_rfl) (by kernel_rfl) ?_ ?_ <;> repeat' (first | exact trivial | exact vr_val _ | apply vr_tup | apply And.intro))
  · have e : wfE l frs fs = tpE l frs := if_neg h0
    rw [e]
    have nt := newTape_err l frs hl (fun h => h0 (tpE_ok h.1 h.2)) hf
    generalize tpE l frs = E at *
    (have hg : (987654321 : Nat) - 987654321 = 0 := rfl; have hr := hg; repeat' (first | refine aw_seq ?_ | (refine aw_skip ?_; repeat' (first | with_reducible refine thenQ_n ?_ | with_reducible refine blockQ_n ?_ | with_reducible refine thenQ_e ?_ | with_reducible refine blockQ_t ?_ | with_reducible refine blockQ_f (by decide) ?_)) | (refine aw_exit ?_; repeat' (first | with_reducible refine thenQ_n ?_ | with_reducible refine blockQ_n ?_ | with_reducible refine thenQ_e ?_ | with_reducible refine blockQ_t ?_ | with_reducible refine blockQ_f (by decide) ?_)) | refine aw_ret ?_ | refine aw_block ?_ | refine aw_condT rfl ?_ | refine aw_condF rfl ?_ | ((first | refine aw_hide fun K hK => aw_region ?_ | refine acall0 (nt) ?_ | refine ago_if (by omega) ?_ | skip); simp (config := {maxSteps := 10000000}) (disch := first | exact okYes (by kernel_rfl) | omega) only [List.length, Nat.zero_add, Nat.reduceAdd, Nat.reduceMul, envOf, dI, ARun_none, AOpRun, aexec, D.isBot, FSt.ev, St.F, ↓eget_h, Bool.false_eq_true, Option.isSome, hget_n, or_self, ↓reduceIte, D.cells, AGo_ok, St.app, putO, eput_c, Nat.reduceBEq, eput_n, cond_false, hups, hput_n, List.map, ARun_nil, dropE_c, inL_n, dropE_n, eget_c, hget_c, beq_self_eq_true, cond_true, Nat.reduceLeDiff, List.drop, List.take, opt1, Option.map, List.getElem?_cons_zero, List.getElem?_cons_succ, hput_c, ↓hget_h, List.all, D.leaf, Bool.and_true, and_self, splice, List.nil_append, List.append_nil, inL_c, isSh, abin, h1, thenQ]) | (subst hK; repeat' (first | with_reducible refine thenQ_n ?_ | with_reducible refine blockQ_n ?_ | with_reducible refine thenQ_e ?_ | with_reducible refine blockQ_t ?_ | with_reducible refine blockQ_f (by decide) ?_))))
    (refine end_to [] [] (by first | exact .inl rfl | exact .inr rfl) rfl (by kernel_rfl) (by kernel_rfl) (by kernel_rfl) ?_ ?_ <;> repeat' (first | exact trivial | exact vr_val _ | apply vr_tup | apply And.intro))
end Go.Proofs.Ytdcodicoclecnaa
/- The functions' bodies, translated. Written by a program; no conditions. -/
namespace Go.Proofs.Ytdcodicoclecnaa
open Go.RowKit Lift

/-- precord_tape_valid -/
def cprecord_tape_valid : ACode :=
  (.seq
   (.region false [⟨some 2, .box (.tmp 0), none, []⟩,
     ⟨some 3, .box (.tmp 1), none, []⟩,
     ⟨some 4, .mv (.const (.bool false)), none, []⟩] [])
  (.seq
   (.region false [⟨some 6, .mkfn 124 [] [(.tmp 2)], none, []⟩,
     ⟨some 5, .mv (.tmp 6), none, []⟩] [6])
  (.seq
   (.region false [⟨some 7, .fad 0 (.tmp 3), none, []⟩,
     ⟨some 8, .load1 (.tmp 7), none, []⟩,
     ⟨some 9, .len_ (.tmp 8), none, []⟩,
     ⟨some 10, .call (.func 74) [(.tmp 9), (.const (.int .i64 1)), (.const (.int .i64 4))], none, []⟩,
     ⟨some 11, .mv (.tmp 10), none, []⟩,
     ⟨some 12, .fad 0 (.tmp 3), (some (some 11, true)), []⟩,
     ⟨some 13, .load1 (.tmp 12), (some (some 11, true)), []⟩,
     ⟨some 14, .mv (.tmp 5), (some (some 11, true)), []⟩,
     ⟨some 15, .call (.func 125) [(.tmp 13), (.tmp 14)], (some (some 11, true)), []⟩,
     ⟨some 16, .un .not (.tmp 15), (some (some 11, true)), []⟩,
     ⟨some 17, .pick (.tmp 11) (.tmp 16) (.const (.bool false)), none, []⟩,
     ⟨some 18, .mv (.tmp 17), none, []⟩,
     ⟨some 19, .fad 1 (.tmp 3), (some (some 18, true)), []⟩,
     ⟨some 20, .load1 (.tmp 19), (some (some 18, true)), []⟩,
     ⟨some 21, .call (.func 74) [(.tmp 20), (.const (.int .i64 1)), (.const (.int .i64 100))], (some (some 18, true)), []⟩,
     ⟨some 22, .pick (.tmp 18) (.tmp 21) (.const (.bool false)), none, []⟩,
     ⟨some 4, .mv (.tmp 22), none, []⟩] [7, 8, 9, 10, 11, 12, 13, 14, 15, 16, 17, 18, 19, 20, 21, 22])
  .ret)))
set_option maxRecDepth 100000 in
theorem kprecord_tape_valid : IsCode Try.prog 93 23 cprecord_tape_valid [.tmp 4] :=
  ⟨Try.f93, _, [0, 1, 2, 3, 5, 4], Try.func93, rfl, by decide, rfl, by kernel_rfl, by kernel_rfl⟩
/-- precord_tape_holds -/
def cprecord_tape_holds_B30 : ACode :=
  (.block 1
    (.seq
     (.region false [⟨some 32, .mv (.tmp 8), none, []⟩,
       ⟨some 33, .fad 1 (.tmp 3), none, []⟩,
       ⟨some 34, .load1 (.tmp 33), none, []⟩,
       ⟨some 35, .fad 5 (.tmp 5), none, []⟩,
       ⟨some 36, .load1 (.tmp 35), none, []⟩,
       ⟨some 37, .bin .mul (.tmp 34) (.tmp 36), none, []⟩,
       ⟨some 38, .bin .leq (.tmp 32) (.tmp 37), none, []⟩,
       ⟨some 9, .mv (.tmp 38), none, []⟩] [32, 33, 34, 35, 36, 37, 38])
    (.seq
     (.seq
      (.region false [⟨some 39, .fad 2 (.tmp 3), none, []⟩,
        ⟨some 40, .load1 (.tmp 39), none, []⟩] [39])
     (.cond (.tmp 40)
       (.region false [⟨some 41, .mv (.tmp 8), none, []⟩,
         ⟨some 42, .fad 1 (.tmp 3), none, []⟩,
         ⟨some 43, .load1 (.tmp 42), none, []⟩,
         ⟨some 44, .fad 5 (.tmp 5), none, []⟩,
         ⟨some 45, .load1 (.tmp 44), none, []⟩,
         ⟨some 46, .bin .mul (.tmp 43) (.tmp 45), none, []⟩,
         ⟨some 47, .bin .geq (.tmp 41) (.tmp 46), none, []⟩,
         ⟨some 9, .mv (.tmp 47), none, []⟩] [41, 42, 43, 44, 45, 46, 47])
       .skip))
    (.seq
     (.region false [⟨some 48, .mv (.tmp 7), none, []⟩,
       ⟨some 10, .mv (.tmp 48), none, []⟩] [48])
    (.block 2
      (.loop
        (.seq
         (.seq
          (.region false [⟨some 49, .mv (.tmp 10), none, []⟩,
            ⟨some 50, .mv (.tmp 7), none, []⟩,
            ⟨some 51, .fad 7 (.tmp 5), none, []⟩,
            ⟨some 52, .load1 (.tmp 51), none, []⟩,
            ⟨some 53, .bin .add (.tmp 50) (.tmp 52), none, []⟩,
            ⟨some 54, .load1 (.tmp 6), none, []⟩,
            ⟨some 55, .len_ (.tmp 54), none, []⟩,
            ⟨some 56, .mnx false [(.tmp 53), (.tmp 55)], none, []⟩,
            ⟨some 57, .bin .lss (.tmp 49) (.tmp 56), none, []⟩] [49, 50, 51, 52, 53, 54, 55, 56])
         (.cond (.tmp 57)
           .skip
           (.exit 2)))
        (.seq
         (.block 3
           (.region false [⟨some 60, .load1 (.tmp 6), none, []⟩,
             ⟨some 61, .mv (.tmp 10), none, []⟩,
             ⟨some 62, .mv (.tmp 9), none, []⟩,
             ⟨some 63, .iadS 1 (.tmp 60) (.tmp 61), none, []⟩,
             ⟨none, .store 1 (.tmp 63) (.tmp 62), none, []⟩] [60, 61, 62, 63]))
        (.region false [⟨some 58, .mv (.tmp 10), none, []⟩,
          ⟨some 59, .bin .add (.tmp 58) (.const (.int .i64 1)), none, []⟩,
          ⟨some 10, .mv (.tmp 59), none, []⟩] [58, 59])))))))))
def cprecord_tape_holds : ACode :=
  (.seq
   (.region false [⟨some 3, .box (.tmp 1), none, []⟩,
     ⟨some 4, .mv (.const (.slice none 0 0)), none, []⟩] [])
  (.seq
   (.region true [⟨some 11, .mv (.tmp 0), none, []⟩,
     ⟨some 12, .nilc (.tmp 11), none, [0]⟩,
     ⟨some 13, .fad 0 (.tmp 12), none, [1, 0]⟩,
     ⟨some 14, .fad 5 (.tmp 13), none, [2, 1, 0]⟩,
     ⟨some 15, .load1 (.tmp 14), none, [3, 2, 1, 0]⟩,
     ⟨some 16, .fad 0 (.tmp 3), none, []⟩,
     ⟨some 17, .load1 (.tmp 16), none, [5]⟩,
     ⟨some 18, .iadS 9 (.tmp 15) (.tmp 17), none, [4, 3, 2, 1, 0, 6, 5]⟩,
     ⟨some 19, .loadN 9 (.tmp 18), none, [7, 4, 3, 2, 1, 0, 6, 5]⟩,
     ⟨some 5, .mem [(.val (.int .i64 0)), (.val (.int .i64 0)), (.val (.int .i64 0)), (.val (.bool false)), (.val (.int .i64 0)), (.val (.int .i64 0)), (.val (.int .i64 0)), (.val (.int .i64 0)), (.val (.int .i64 0))], none, []⟩,
     ⟨none, .store 9 (.tmp 5) (.tmp 19), none, [9, 8, 7, 4, 3, 2, 1, 0, 6, 5]⟩] [11, 12, 13, 14, 15, 16, 17, 18, 19])
  (.seq
   (.region false [⟨some 20, .mv (.tmp 0), none, []⟩,
     ⟨some 21, .nilc (.tmp 20), none, []⟩,
     ⟨some 22, .fad 6 (.tmp 21), none, []⟩,
     ⟨some 23, .load1 (.tmp 22), none, []⟩,
     ⟨some 24, .len_ (.tmp 23), none, []⟩,
     ⟨some 25, .mksl 1 1 [(.val (.bool false))] (.tmp 24) (.tmp 24), none, []⟩,
     ⟨some 6, .mem [(.val (.slice none 0 0))], none, []⟩,
     ⟨none, .store 1 (.tmp 6) (.tmp 25), none, []⟩] [20, 21, 22, 23, 24, 25])
  (.seq
   (.seq
    (.region false [⟨some 26, .mv (.tmp 0), none, []⟩,
      ⟨some 27, .fad 0 (.tmp 3), none, []⟩,
      ⟨some 28, .load1 (.tmp 27), none, []⟩,
      ⟨some 29, .call (.func 67) [(.tmp 26), (.tmp 28)], none, []⟩] [26, 27, 28])
   (.block 0
     (.rangeFunc (.tmp 29) [30, 31] [(7, 30), (8, 31)] cprecord_tape_holds_B30)))
  (.seq
   (.region false [⟨some 64, .load1 (.tmp 6), none, []⟩,
     ⟨some 4, .mv (.tmp 64), none, []⟩] [64])
  .ret)))))
set_option maxRecDepth 100000 in
theorem kprecord_tape_holds : IsCode Try.prog 126 65 cprecord_tape_holds [.tmp 4] :=
  ⟨Try.f126, _, [57, 40, 30, 31, 29, 1, 0, 3, 8, 5, 7, 10, 6, 9, 4], Try.func126, rfl, by decide, rfl, by kernel_rfl, by kernel_rfl⟩
/-- precord_tape_events -/
def cprecord_tape_events : ACode :=
  (.seq
   (.region false [⟨some 3, .box (.tmp 1), none, []⟩,
     ⟨some 4, .mv (.const (.slice none 0 0)), none, []⟩] [])
  (.seq
   (.region false [⟨some 14, .mv (.tmp 0), none, []⟩,
     ⟨some 15, .nilc (.tmp 14), none, []⟩,
     ⟨some 16, .fad 6 (.tmp 15), none, []⟩,
     ⟨some 17, .load1 (.tmp 16), none, []⟩,
     ⟨some 18, .len_ (.tmp 17), none, []⟩,
     ⟨some 19, .bin .add (.tmp 18) (.const (.int .i64 1)), none, []⟩,
     ⟨some 20, .mksl 1 1 [(.val (.bool false))] (.tmp 19) (.tmp 19), none, []⟩,
     ⟨some 5, .mv (.tmp 20), none, []⟩] [14, 15, 16, 17, 18, 19, 20])
  (.seq
   (.seq
    (.region false [⟨some 21, .mv (.tmp 0), none, []⟩,
      ⟨some 22, .nilc (.tmp 21), none, []⟩,
      ⟨some 23, .fad 6 (.tmp 22), none, []⟩,
      ⟨some 24, .load1 (.tmp 23), none, []⟩,
      ⟨some 25, .len_ (.tmp 24), none, []⟩,
      ⟨some 26, .mv (.const (.int .i64 0)), none, []⟩] [21, 22, 23, 24])
   (.block 0
     (.loop
       (.seq
        (.region false [⟨some 27, .bin .lss (.tmp 26) (.tmp 25), none, []⟩] [])
       (.seq
        (.cond (.tmp 27)
          .skip
          (.exit 0))
       (.seq
        (.block 1
          (.seq
           (.region false [⟨some 28, .mv (.tmp 26), none, []⟩,
             ⟨some 6, .mv (.tmp 28), none, []⟩] [28])
          (.region false [⟨some 29, .mv (.tmp 5), none, []⟩,
            ⟨some 30, .mv (.tmp 6), none, []⟩,
            ⟨some 31, .iadS 1 (.tmp 29) (.tmp 30), none, []⟩,
            ⟨none, .store 1 (.tmp 31) (.const (.bool true)), none, []⟩] [29, 30, 31])))
       (.region false [⟨some 32, .bin .add (.tmp 26) (.const (.int .i64 1)), none, []⟩,
         ⟨some 26, .mv (.tmp 32), none, []⟩] [32])))))))
  (.seq
   (.seq
    (.region false [⟨some 33, .fad 0 (.tmp 3), none, []⟩,
      ⟨some 34, .load1 (.tmp 33), none, []⟩,
      ⟨some 35, .len_ (.tmp 34), none, []⟩,
      ⟨some 36, .mv (.const (.int .i64 0)), none, []⟩] [33])
   (.block 2
     (.loop
       (.seq
        (.region false [⟨some 37, .bin .lss (.tmp 36) (.tmp 35), none, []⟩] [])
       (.seq
        (.cond (.tmp 37)
          .skip
          (.exit 2))
       (.seq
        (.block 3
          (.seq
           (.region false [⟨some 38, .iadS 3 (.tmp 34) (.tmp 36), none, []⟩,
             ⟨some 39, .loadN 3 (.tmp 38), none, []⟩,
             ⟨some 8, .mem [(.val (.int .i64 0)), (.val (.int .i64 0)), (.val (.bool false))], none, []⟩,
             ⟨none, .store 3 (.tmp 8) (.tmp 39), none, []⟩] [38, 39])
          (.seq
           (.region false [⟨some 40, .mv (.tmp 0), none, []⟩,
             ⟨some 41, .loadN 3 (.tmp 8), none, []⟩,
             ⟨some 42, .call (.func 126) [(.tmp 40), (.tmp 41)], none, []⟩,
             ⟨some 43, .len_ (.tmp 42), none, []⟩,
             ⟨some 44, .mv (.const (.int .i64 0)), none, []⟩] [40, 41])
          (.block 4
            (.loop
              (.seq
               (.region false [⟨some 45, .bin .lss (.tmp 44) (.tmp 43), none, []⟩] [])
              (.seq
               (.cond (.tmp 45)
                 .skip
                 (.exit 4))
              (.seq
               (.block 5
                 (.seq
                  (.region false [⟨some 46, .mv (.tmp 44), none, []⟩,
                    ⟨some 47, .iadS 1 (.tmp 42) (.tmp 44), none, []⟩,
                    ⟨some 48, .load1 (.tmp 47), none, []⟩,
                    ⟨some 9, .mv (.tmp 46), none, []⟩,
                    ⟨some 10, .mv (.tmp 48), none, []⟩] [46, 47, 48])
                 (.region false [⟨some 49, .mv (.tmp 5), none, []⟩,
                   ⟨some 50, .mv (.tmp 9), none, []⟩,
                   ⟨some 51, .mv (.tmp 5), none, []⟩,
                   ⟨some 52, .mv (.tmp 9), none, []⟩,
                   ⟨some 53, .iadS 1 (.tmp 51) (.tmp 52), none, []⟩,
                   ⟨some 54, .load1 (.tmp 53), none, []⟩,
                   ⟨some 55, .mv (.tmp 54), none, []⟩,
                   ⟨some 56, .mv (.tmp 10), (some (some 55, true)), []⟩,
                   ⟨some 57, .pick (.tmp 55) (.tmp 56) (.const (.bool false)), none, []⟩,
                   ⟨some 58, .iadS 1 (.tmp 49) (.tmp 50), none, []⟩,
                   ⟨none, .store 1 (.tmp 58) (.tmp 57), none, []⟩] [49, 50, 51, 52, 53, 54, 55, 56, 57, 58])))
              (.region false [⟨some 59, .bin .add (.tmp 44) (.const (.int .i64 1)), none, []⟩,
                ⟨some 44, .mv (.tmp 59), none, []⟩] [59])))))))))
       (.region false [⟨some 60, .bin .add (.tmp 36) (.const (.int .i64 1)), none, []⟩,
         ⟨some 36, .mv (.tmp 60), none, []⟩] [60])))))))
  (.seq
   (.region false [⟨some 11, .mv (.const (.int .i64 0)), none, []⟩] [])
  (.seq
   (.seq
    (.region false [⟨some 61, .mv (.tmp 5), none, []⟩,
      ⟨some 62, .len_ (.tmp 61), none, []⟩,
      ⟨some 63, .mv (.const (.int .i64 0)), none, []⟩] [])
   (.block 6
     (.loop
       (.seq
        (.region false [⟨some 64, .bin .lss (.tmp 63) (.tmp 62), none, []⟩] [])
       (.seq
        (.cond (.tmp 64)
          .skip
          (.exit 6))
       (.seq
        (.block 7
          (.seq
           (.region false [⟨some 65, .mv (.tmp 63), none, []⟩,
             ⟨some 66, .iadS 1 (.tmp 61) (.tmp 63), none, []⟩,
             ⟨some 67, .load1 (.tmp 66), none, []⟩,
             ⟨some 12, .mv (.tmp 65), none, []⟩,
             ⟨some 13, .mv (.tmp 67), none, []⟩] [65, 66, 67])
          (.seq
           (.seq
            (.region false [⟨some 68, .mv (.tmp 13), none, []⟩] [])
           (.cond (.tmp 68)
             (.exit 7)
             .skip))
          (.seq
           (.seq
            (.region false [⟨some 69, .mv (.tmp 12), none, []⟩,
              ⟨some 70, .mv (.tmp 11), none, []⟩,
              ⟨some 71, .bin .sub (.tmp 69) (.tmp 70), none, []⟩,
              ⟨some 72, .fad 1 (.tmp 3), none, []⟩,
              ⟨some 73, .load1 (.tmp 72), none, []⟩,
              ⟨some 74, .bin .geq (.tmp 71) (.tmp 73), none, []⟩] [69, 70, 71, 72, 73])
           (.cond (.tmp 74)
             (.region false [⟨some 75, .mv (.tmp 4), none, []⟩,
               ⟨some 76, .mv (.tmp 11), none, []⟩,
               ⟨some 77, .mv (.tmp 12), none, []⟩,
               ⟨some 78, .bin .sub (.tmp 77) (.const (.int .i64 1)), none, []⟩,
               ⟨some 79, .build [(.val (.int .i64 0)), (.val (.int .i64 0))] [(0, 1, (.tmp 76)), (1, 1, (.tmp 78))], none, []⟩,
               ⟨some 80, .buildSl 2 1 [(.val (.int .i64 0)), (.val (.int .i64 0))] [(0, 2, (.tmp 79))], none, []⟩,
               ⟨some 81, .app 2 16 (.tmp 75) (.tmp 80), none, []⟩,
               ⟨some 4, .mv (.tmp 81), none, []⟩] [75, 76, 77, 78, 79, 80, 81])
             .skip))
          (.region false [⟨some 82, .mv (.tmp 12), none, []⟩,
            ⟨some 83, .bin .add (.tmp 82) (.const (.int .i64 1)), none, []⟩,
            ⟨some 11, .mv (.tmp 83), none, []⟩] [82, 83])))))
       (.region false [⟨some 84, .bin .add (.tmp 63) (.const (.int .i64 1)), none, []⟩,
         ⟨some 63, .mv (.tmp 84), none, []⟩] [84])))))))
  (.seq
   (.region false [⟨some 85, .mv (.tmp 4), none, []⟩,
     ⟨some 4, .mv (.tmp 85), none, []⟩] [85])
  .ret)))))))
set_option maxRecDepth 100000 in
theorem kprecord_tape_events : IsCode Try.prog 94 86 cprecord_tape_events [.tmp 4] :=
  ⟨Try.f94, _, [74, 68, 64, 45, 37, 27, 1, 0, 26, 25, 5, 6, 3, 36, 35, 34, 8, 44, 43, 42, 9, 10, 63, 62, 61, 13, 12, 11, 4], Try.func94, rfl, by decide, rfl, by kernel_rfl, by kernel_rfl⟩
/-- record_Events -/
def crecord_Events : ACode :=
  (.seq
   (.region false [⟨some 3, .box (.tmp 0), none, []⟩,
     ⟨some 5, .box (.tmp 2), none, []⟩,
     ⟨some 6, .mv (.const (.slice none 0 0)), none, []⟩,
     ⟨some 7, .mv (.const (.int .i64 0)), none, []⟩] [])
  (.seq
   (.region false [⟨some 11, .loadN 6 (.tmp 3), none, []⟩,
     ⟨some 12, .mv (.tmp 1), none, []⟩,
     ⟨some 13, .call (.func 71) [(.tmp 11), (.tmp 12)], none, []⟩,
     ⟨some 10, .mv (.tmp 13), none, []⟩,
     ⟨some 14, .ext (.tmp 10) 0, none, []⟩,
     ⟨some 15, .ext (.tmp 10) 1, none, []⟩,
     ⟨some 8, .mv (.tmp 14), none, []⟩,
     ⟨some 9, .mv (.tmp 15), none, []⟩] [11, 12, 13, 10, 14, 15])
  (.seq
   (.seq
    (.region false [⟨some 16, .mv (.tmp 9), none, []⟩,
      ⟨some 17, .bin .neq (.tmp 16) (.const (.int .i64 0)), none, []⟩] [16])
   (.cond (.tmp 17)
     (.seq
      (.region false [⟨some 18, .mv (.tmp 9), none, []⟩,
        ⟨some 6, .mv (.const (.slice none 0 0)), none, []⟩,
        ⟨some 7, .mv (.tmp 18), none, []⟩] [18])
     .ret)
     .skip))
  (.seq
   (.seq
    (.region false [⟨some 19, .mv (.tmp 8), none, []⟩,
      ⟨some 20, .loadN 2 (.tmp 5), none, []⟩,
      ⟨some 21, .call (.func 93) [(.tmp 19), (.tmp 20)], none, []⟩,
      ⟨some 22, .un .not (.tmp 21), none, []⟩] [19, 20, 21])
   (.cond (.tmp 22)
     (.seq
      (.region false [⟨some 6, .mv (.const (.slice none 0 0)), none, []⟩,
        ⟨some 7, .mv (.const (.int .i64 121)), none, []⟩] [])
     .ret)
     .skip))
  (.seq
   (.region false [⟨some 23, .mv (.tmp 8), none, []⟩,
     ⟨some 24, .loadN 2 (.tmp 5), none, []⟩,
     ⟨some 25, .call (.func 94) [(.tmp 23), (.tmp 24)], none, []⟩,
     ⟨some 6, .mv (.tmp 25), none, []⟩,
     ⟨some 7, .mv (.const (.int .i64 0)), none, []⟩] [23, 24, 25])
  .ret)))))
set_option maxRecDepth 100000 in
theorem krecord_Events : IsCode Try.prog 45 26 crecord_Events [.tmp 6, .tmp 7] :=
  ⟨Try.f45, _, [22, 17, 0, 2, 3, 1, 9, 8, 5, 6, 7], Try.func45, rfl, by decide, rfl, by kernel_rfl, by kernel_rfl⟩
/-- ref12_CheckEvent -/
def cref12_CheckEvent : ACode :=
  (.seq
   (.region false [⟨some 2, .box (.tmp 0), none, []⟩,
     ⟨some 3, .box (.tmp 1), none, []⟩,
     ⟨some 4, .mv (.const (.bool false)), none, []⟩] [])
  (.seq
   (.seq
    (.region false [⟨some 6, .fad 0 (.tmp 3), none, []⟩,
      ⟨some 7, .load1 (.tmp 6), none, []⟩,
      ⟨some 8, .len_ (.tmp 7), none, []⟩,
      ⟨some 9, .call (.func 79) [(.tmp 8), (.const (.int .i64 1)), (.const (.int .i64 4))], none, []⟩,
      ⟨some 10, .un .not (.tmp 9), none, []⟩,
      ⟨some 11, .mv (.tmp 10), none, []⟩,
      ⟨some 12, .fad 1 (.tmp 3), (some (some 11, false)), []⟩,
      ⟨some 13, .load1 (.tmp 12), (some (some 11, false)), []⟩,
      ⟨some 14, .call (.func 79) [(.tmp 13), (.const (.int .i64 1)), (.const (.int .i64 100))], (some (some 11, false)), []⟩,
      ⟨some 15, .un .not (.tmp 14), (some (some 11, false)), []⟩,
      ⟨some 16, .pick (.tmp 11) (.const (.bool true)) (.tmp 15), none, []⟩] [6, 7, 8, 9, 10, 11, 12, 13, 14, 15])
   (.cond (.tmp 16)
     (.seq
      (.region false [⟨some 4, .mv (.const (.bool false)), none, []⟩] [])
     .ret)
     .skip))
  (.seq
   (.seq
    (.region false [⟨some 5, .mv (.const (.int .i64 0)), none, []⟩] [])
   (.block 0
     (.loop
       (.seq
        (.seq
         (.region false [⟨some 17, .mv (.tmp 5), none, []⟩,
           ⟨some 18, .fad 0 (.tmp 3), none, []⟩,
           ⟨some 19, .load1 (.tmp 18), none, []⟩,
           ⟨some 20, .len_ (.tmp 19), none, []⟩,
           ⟨some 21, .bin .lss (.tmp 17) (.tmp 20), none, []⟩] [17, 18, 19, 20])
        (.cond (.tmp 21)
          .skip
          (.exit 0)))
       (.seq
        (.block 1
          (.seq
           (.region true [⟨some 24, .loadN 6 (.tmp 2), none, []⟩,
             ⟨some 25, .fad 0 (.tmp 3), none, []⟩,
             ⟨some 26, .load1 (.tmp 25), none, [1]⟩,
             ⟨some 27, .mv (.tmp 5), none, []⟩,
             ⟨some 28, .iadS 3 (.tmp 26) (.tmp 27), none, [2, 1, 3]⟩,
             ⟨some 29, .fad 0 (.tmp 28), none, [4, 2, 1, 3]⟩,
             ⟨some 30, .load1 (.tmp 29), none, [5, 4, 2, 1, 3]⟩,
             ⟨some 31, .call (.func 69) [(.tmp 24), (.tmp 30)], none, [0, 6, 5, 4, 2, 1, 3]⟩,
             ⟨some 32, .un .not (.tmp 31), none, [7, 0, 6, 5, 4, 2, 1, 3]⟩,
             ⟨some 33, .mv (.tmp 32), none, [8, 7, 0, 6, 5, 4, 2, 1, 3]⟩,
             ⟨some 34, .fad 0 (.tmp 3), (some (some 33, false)), [9, 8, 7, 0, 6, 5, 4, 2, 1, 3]⟩,
             ⟨some 35, .load1 (.tmp 34), (some (some 33, false)), [10, 9, 8, 7, 0, 6, 5, 4, 2, 1, 3]⟩,
             ⟨some 36, .mv (.tmp 5), (some (some 33, false)), [9, 8, 7, 0, 6, 5, 4, 2, 1, 3]⟩,
             ⟨some 37, .iadS 3 (.tmp 35) (.tmp 36), (some (some 33, false)), [11, 10, 9, 8, 7, 0, 6, 5, 4, 2, 1, 3, 12]⟩,
             ⟨some 38, .fad 1 (.tmp 37), (some (some 33, false)), [13, 11, 10, 9, 8, 7, 0, 6, 5, 4, 2, 1, 3, 12]⟩,
             ⟨some 39, .load1 (.tmp 38), (some (some 33, false)), [14, 13, 11, 10, 9, 8, 7, 0, 6, 5, 4, 2, 1, 3, 12]⟩,
             ⟨some 40, .call (.func 79) [(.tmp 39), (.const (.int .i64 (-1000000))), (.const (.int .i64 1000000))], (some (some 33, false)), [15, 14, 13, 11, 10, 9, 8, 7, 0, 6, 5, 4, 2, 1, 3, 12]⟩,
             ⟨some 41, .un .not (.tmp 40), (some (some 33, false)), [16, 15, 14, 13, 11, 10, 9, 8, 7, 0, 6, 5, 4, 2, 1, 3, 12]⟩,
             ⟨some 42, .pick (.tmp 33) (.const (.bool true)) (.tmp 41), none, [9, 8, 7, 0, 6, 5, 4, 2, 1, 3, 17, 16, 15, 14, 13, 11, 10, 12]⟩] [24, 25, 26, 27, 28, 29, 30, 31, 32, 33, 34, 35, 36, 37, 38, 39, 40, 41])
          (.cond (.tmp 42)
            (.seq
             (.region false [⟨some 4, .mv (.const (.bool false)), none, []⟩] [])
            .ret)
            .skip)))
       (.region false [⟨some 22, .mv (.tmp 5), none, []⟩,
         ⟨some 23, .bin .add (.tmp 22) (.const (.int .i64 1)), none, []⟩,
         ⟨some 5, .mv (.tmp 23), none, []⟩] [22, 23]))))))
  (.seq
   (.region false [⟨some 4, .mv (.const (.bool true)), none, []⟩] [])
  .ret))))
set_option maxRecDepth 100000 in
theorem kref12_CheckEvent : IsCode Try.prog 49 43 cref12_CheckEvent [.tmp 4] :=
  ⟨Try.f49, _, [42, 21, 16, 0, 1, 3, 5, 2, 4], Try.func49, rfl, by decide, rfl, by kernel_rfl, by kernel_rfl⟩
/-- ref12_Holding -/
def cref12_Holding : ACode :=
  (.seq
   (.region false [⟨some 4, .box (.tmp 0), none, []⟩,
     ⟨some 6, .box (.tmp 2), none, []⟩,
     ⟨some 8, .mv (.const (.bool false)), none, []⟩] [])
  (.seq
   (.region false [⟨some 13, .fad 5 (.tmp 4), none, []⟩,
     ⟨some 14, .load1 (.tmp 13), none, []⟩,
     ⟨some 15, .fad 0 (.tmp 6), none, []⟩,
     ⟨some 16, .load1 (.tmp 15), none, []⟩,
     ⟨some 17, .iadS 9 (.tmp 14) (.tmp 16), none, []⟩,
     ⟨some 18, .loadN 9 (.tmp 17), none, []⟩,
     ⟨some 9, .mem [(.val (.int .i64 0)), (.val (.int .i64 0)), (.val (.int .i64 0)), (.val (.bool false)), (.val (.int .i64 0)), (.val (.int .i64 0)), (.val (.int .i64 0)), (.val (.int .i64 0)), (.val (.int .i64 0))], none, []⟩,
     ⟨none, .store 9 (.tmp 9) (.tmp 18), none, []⟩] [13, 14, 15, 16, 17, 18])
  (.seq
   (.seq
    (.region false [⟨some 19, .mv (.tmp 3), none, []⟩,
      ⟨some 10, .mv (.tmp 19), none, []⟩] [19])
   (.block 0
     (.loop
       (.seq
        (.seq
         (.region false [⟨some 20, .mv (.tmp 10), none, []⟩,
           ⟨some 21, .bin .geq (.tmp 20) (.const (.int .i64 0)), none, []⟩,
           ⟨some 22, .mv (.tmp 21), none, []⟩,
           ⟨some 23, .mv (.tmp 10), (some (some 22, true)), []⟩,
           ⟨some 24, .mv (.tmp 3), (some (some 22, true)), []⟩,
           ⟨some 25, .fad 7 (.tmp 9), (some (some 22, true)), []⟩,
           ⟨some 26, .load1 (.tmp 25), (some (some 22, true)), []⟩,
           ⟨some 27, .bin .sub (.tmp 24) (.tmp 26), (some (some 22, true)), []⟩,
           ⟨some 28, .bin .gtr (.tmp 23) (.tmp 27), (some (some 22, true)), []⟩,
           ⟨some 29, .pick (.tmp 22) (.tmp 28) (.const (.bool false)), none, []⟩] [20, 21, 22, 23, 24, 25, 26, 27, 28])
        (.cond (.tmp 29)
          .skip
          (.exit 0)))
       (.seq
        (.block 1
          (.seq
           (.region true [⟨some 33, .loadN 6 (.tmp 4), none, []⟩,
             ⟨some 34, .loadN 9 (.tmp 9), none, []⟩,
             ⟨some 35, .mv (.tmp 1), none, []⟩,
             ⟨some 36, .mv (.tmp 10), none, []⟩,
             ⟨some 37, .iadS 1 (.tmp 35) (.tmp 36), none, [2, 3]⟩,
             ⟨some 38, .load1 (.tmp 37), none, [4, 2, 3]⟩,
             ⟨some 39, .call (.func 96) [(.tmp 33), (.tmp 34), (.tmp 38)], none, [0, 1, 5, 4, 2, 3]⟩,
             ⟨some 32, .mv (.tmp 39), none, [6, 0, 1, 5, 4, 2, 3]⟩,
             ⟨some 40, .ext (.tmp 32) 0, none, [7, 6, 0, 1, 5, 4, 2, 3]⟩,
             ⟨some 41, .ext (.tmp 32) 1, none, [7, 6, 0, 1, 5, 4, 2, 3]⟩,
             ⟨some 11, .mv (.tmp 40), none, [8, 7, 6, 0, 1, 5, 4, 2, 3]⟩,
             ⟨some 12, .mv (.tmp 41), none, [9, 7, 6, 0, 1, 5, 4, 2, 3, 10, 8]⟩] [33, 34, 35, 36, 37, 38, 39, 32, 40, 41])
          (.seq
           (.region false [⟨some 42, .mv (.tmp 12), none, []⟩] [])
          (.cond (.tmp 42)
            (.seq
             (.region false [⟨some 43, .fad 2 (.tmp 6), none, []⟩,
               ⟨some 44, .load1 (.tmp 43), none, []⟩,
               ⟨some 45, .mv (.tmp 44), none, []⟩,
               ⟨some 46, .mv (.tmp 11), (some (some 45, true)), []⟩,
               ⟨some 47, .fad 1 (.tmp 6), (some (some 45, true)), []⟩,
               ⟨some 48, .load1 (.tmp 47), (some (some 45, true)), []⟩,
               ⟨some 49, .fad 5 (.tmp 9), (some (some 45, true)), []⟩,
               ⟨some 50, .load1 (.tmp 49), (some (some 45, true)), []⟩,
               ⟨some 51, .bin .mul (.tmp 48) (.tmp 50), (some (some 45, true)), []⟩,
               ⟨some 52, .bin .geq (.tmp 46) (.tmp 51), (some (some 45, true)), []⟩,
               ⟨some 53, .pick (.tmp 45) (.tmp 52) (.const (.bool false)), none, []⟩,
               ⟨some 54, .mv (.tmp 53), none, []⟩,
               ⟨some 55, .fad 2 (.tmp 6), (some (some 54, false)), []⟩,
               ⟨some 56, .load1 (.tmp 55), (some (some 54, false)), []⟩,
               ⟨some 57, .un .not (.tmp 56), (some (some 54, false)), []⟩,
               ⟨some 58, .mv (.tmp 57), (some (some 54, false)), []⟩,
               ⟨some 59, .mv (.tmp 11), (some (some 58, true)), []⟩,
               ⟨some 60, .fad 1 (.tmp 6), (some (some 58, true)), []⟩,
               ⟨some 61, .load1 (.tmp 60), (some (some 58, true)), []⟩,
               ⟨some 62, .fad 5 (.tmp 9), (some (some 58, true)), []⟩,
               ⟨some 63, .load1 (.tmp 62), (some (some 58, true)), []⟩,
               ⟨some 64, .bin .mul (.tmp 61) (.tmp 63), (some (some 58, true)), []⟩,
               ⟨some 65, .bin .leq (.tmp 59) (.tmp 64), (some (some 58, true)), []⟩,
               ⟨some 66, .pick (.tmp 58) (.tmp 65) (.const (.bool false)), (some (some 54, false)), []⟩,
               ⟨some 67, .pick (.tmp 54) (.const (.bool true)) (.tmp 66), none, []⟩,
               ⟨some 8, .mv (.tmp 67), none, []⟩] [43, 44, 45, 46, 47, 48, 49, 50, 51, 52, 53, 54, 55, 56, 57, 58, 59, 60, 61, 62, 63, 64, 65, 66, 67])
            .ret)
            .skip))))
       (.region false [⟨some 30, .mv (.tmp 10), none, []⟩,
         ⟨some 31, .bin .sub (.tmp 30) (.const (.int .i64 1)), none, []⟩,
         ⟨some 10, .mv (.tmp 31), none, []⟩] [30, 31]))))))
  (.seq
   (.region false [⟨some 8, .mv (.const (.bool false)), none, []⟩] [])
  .ret))))
set_option maxRecDepth 100000 in
theorem kref12_Holding : IsCode Try.prog 50 68 cref12_Holding [.tmp 8] :=
  ⟨Try.f50, _, [42, 29, 0, 2, 4, 6, 3, 10, 9, 1, 12, 11, 8], Try.func50, rfl, by decide, rfl, by kernel_rfl, by kernel_rfl⟩
/-- law12_RecordEvery -/
def claw12_RecordEvery : ACode :=
  (.seq
   (.region false [⟨some 3, .box (.tmp 0), none, []⟩,
     ⟨some 4, .box (.tmp 1), none, []⟩,
     ⟨some 5, .box (.tmp 2), none, []⟩,
     ⟨some 6, .mv (.const (.bool false)), none, []⟩] [])
  (.seq
   (.seq
    (.region false [⟨some 27, .loadN 7 (.tmp 3), none, []⟩,
      ⟨some 28, .call (.func 15) [(.tmp 27)], none, []⟩,
      ⟨some 29, .mv (.tmp 28), none, []⟩,
      ⟨some 30, .loadN 2 (.tmp 4), (some (some 29, false)), []⟩,
      ⟨some 31, .call (.func 44) [(.tmp 30)], (some (some 29, false)), []⟩,
      ⟨some 32, .pick (.tmp 29) (.const (.bool true)) (.tmp 31), none, []⟩,
      ⟨some 33, .mv (.tmp 32), none, []⟩,
      ⟨some 34, .fad 6 (.tmp 3), (some (some 33, false)), []⟩,
      ⟨some 35, .load1 (.tmp 34), (some (some 33, false)), []⟩,
      ⟨some 36, .len_ (.tmp 35), (some (some 33, false)), []⟩,
      ⟨some 37, .bin .gtr (.tmp 36) (.const (.int .i64 60)), (some (some 33, false)), []⟩,
      ⟨some 38, .pick (.tmp 33) (.const (.bool true)) (.tmp 37), none, []⟩,
      ⟨some 39, .mv (.tmp 38), none, []⟩,
      ⟨some 40, .fad 0 (.tmp 3), (some (some 39, false)), []⟩,
      ⟨some 41, .loadN 6 (.tmp 40), (some (some 39, false)), []⟩,
      ⟨some 42, .call (.func 28) [(.tmp 41)], (some (some 39, false)), []⟩,
      ⟨some 43, .bin .neq (.tmp 42) (.const (.int .i64 0)), (some (some 39, false)), []⟩,
      ⟨some 44, .pick (.tmp 39) (.const (.bool true)) (.tmp 43), none, []⟩,
      ⟨some 45, .mv (.tmp 44), none, []⟩,
      ⟨some 46, .fad 0 (.tmp 3), (some (some 45, false)), []⟩,
      ⟨some 47, .loadN 6 (.tmp 46), (some (some 45, false)), []⟩,
      ⟨some 48, .loadN 2 (.tmp 4), (some (some 45, false)), []⟩,
      ⟨some 49, .call (.func 49) [(.tmp 47), (.tmp 48)], (some (some 45, false)), []⟩,
      ⟨some 50, .un .not (.tmp 49), (some (some 45, false)), []⟩,
      ⟨some 51, .pick (.tmp 45) (.const (.bool true)) (.tmp 50), none, []⟩] [27, 28, 29, 30, 31, 32, 33, 34, 35, 36, 37, 38, 39, 40, 41, 42, 43, 44, 45, 46, 47, 48, 49, 50])
   (.cond (.tmp 51)
     (.seq
      (.region false [⟨some 52, .call (.func 16) [], none, []⟩,
        ⟨some 6, .mv (.tmp 52), none, []⟩] [52])
     .ret)
     .skip))
  (.seq
   (.region false [⟨some 53, .loadN 7 (.tmp 3), none, []⟩,
     ⟨some 54, .call (.func 17) [(.tmp 53)], none, []⟩,
     ⟨some 7, .mem [(.val (.int .i64 0)), (.val (.int .i64 0)), (.val (.int .i64 0)), (.val (.int .i64 0)), (.val (.int .i64 0)), (.val (.slice none 0 0)), (.val (.slice none 0 0))], none, []⟩,
     ⟨none, .store 7 (.tmp 7) (.tmp 54), none, []⟩] [53, 54])
  (.seq
   (.region true [⟨some 56, .fad 0 (.tmp 7), none, []⟩,
     ⟨some 57, .loadN 6 (.tmp 56), none, [0]⟩,
     ⟨some 58, .fad 6 (.tmp 7), none, []⟩,
     ⟨some 59, .load1 (.tmp 58), none, [2]⟩,
     ⟨some 60, .loadN 2 (.tmp 4), none, []⟩,
     ⟨some 61, .call (.func 46) [(.tmp 60)], none, [4]⟩,
     ⟨some 62, .call (.func 45) [(.tmp 57), (.tmp 59), (.tmp 61)], none, [1, 0, 3, 2, 5, 4]⟩,
     ⟨some 55, .mv (.tmp 62), none, [6, 1, 0, 3, 2, 5, 4]⟩,
     ⟨some 63, .ext (.tmp 55) 0, none, [7, 6, 1, 0, 3, 2, 5, 4]⟩,
     ⟨some 64, .ext (.tmp 55) 1, none, [7, 6, 1, 0, 3, 2, 5, 4]⟩,
     ⟨some 8, .mv (.tmp 63), none, [8, 7, 6, 1, 0, 3, 2, 5, 4]⟩,
     ⟨some 9, .mv (.tmp 64), none, [9, 7, 6, 1, 0, 3, 2, 5, 4, 10, 8]⟩] [56, 57, 58, 59, 60, 61, 62, 55, 63, 64])
  (.seq
   (.region false [⟨some 65, .loadN 2 (.tmp 4), none, []⟩,
     ⟨some 66, .call (.func 46) [(.tmp 65)], none, []⟩,
     ⟨some 10, .mem [(.val (.slice none 0 0)), (.val (.int .i64 0))], none, []⟩,
     ⟨none, .store 2 (.tmp 10) (.tmp 66), none, []⟩] [65, 66])
  (.seq
   (.region false [⟨some 67, .fad 1 (.tmp 10), none, []⟩,
     ⟨none, .store 1 (.tmp 67) (.const (.int .i64 1)), none, []⟩] [67])
  (.seq
   (.region false [⟨some 69, .fad 0 (.tmp 7), none, []⟩,
     ⟨some 70, .loadN 6 (.tmp 69), none, []⟩,
     ⟨some 71, .fad 6 (.tmp 7), none, []⟩,
     ⟨some 72, .load1 (.tmp 71), none, []⟩,
     ⟨some 73, .loadN 2 (.tmp 10), none, []⟩,
     ⟨some 74, .call (.func 45) [(.tmp 70), (.tmp 72), (.tmp 73)], none, []⟩,
     ⟨some 68, .mv (.tmp 74), none, []⟩,
     ⟨some 75, .ext (.tmp 68) 0, none, []⟩,
     ⟨some 76, .ext (.tmp 68) 1, none, []⟩,
     ⟨some 11, .mv (.tmp 75), none, []⟩,
     ⟨some 12, .mv (.tmp 76), none, []⟩] [69, 70, 71, 72, 73, 74, 68, 75, 76])
  (.seq
   (.seq
    (.region false [⟨some 77, .mv (.tmp 9), none, []⟩,
      ⟨some 78, .bin .neq (.tmp 77) (.const (.int .i64 0)), none, []⟩,
      ⟨some 79, .mv (.tmp 78), none, []⟩,
      ⟨some 80, .mv (.tmp 12), (some (some 79, false)), []⟩,
      ⟨some 81, .bin .neq (.tmp 80) (.const (.int .i64 0)), (some (some 79, false)), []⟩,
      ⟨some 82, .pick (.tmp 79) (.const (.bool true)) (.tmp 81), none, []⟩] [77, 78, 79, 80, 81])
   (.cond (.tmp 82)
     (.seq
      (.region false [⟨some 6, .mv (.const (.bool false)), none, []⟩] [])
     .ret)
     .skip))
  (.seq
   (.region false [⟨some 13, .mv (.const (.int .i64 0)), none, []⟩] [])
  (.seq
   (.region false [⟨some 83, .fad 6 (.tmp 3), none, []⟩,
     ⟨some 84, .load1 (.tmp 83), none, []⟩,
     ⟨some 85, .len_ (.tmp 84), none, []⟩,
     ⟨some 86, .mksl 1 1 [(.val (.bool false))] (.tmp 85) (.tmp 85), none, []⟩,
     ⟨some 14, .mv (.tmp 86), none, []⟩] [83, 84, 85, 86])
  (.seq
   (.seq
    (.region false [⟨some 15, .mv (.const (.int .i64 0)), none, []⟩] [])
   (.block 0
     (.loop
       (.seq
        (.seq
         (.region false [⟨some 87, .mv (.tmp 15), none, []⟩,
           ⟨some 88, .fad 6 (.tmp 3), none, []⟩,
           ⟨some 89, .load1 (.tmp 88), none, []⟩,
           ⟨some 90, .len_ (.tmp 89), none, []⟩,
           ⟨some 91, .bin .lss (.tmp 87) (.tmp 90), none, []⟩] [87, 88, 89, 90])
        (.cond (.tmp 91)
          .skip
          (.exit 0)))
       (.seq
        (.block 1
          (.seq
           (.region false [⟨some 16, .mv (.const (.bool true)), none, []⟩] [])
          (.seq
           (.seq
            (.region false [⟨some 17, .mv (.const (.int .i64 0)), none, []⟩] [])
           (.block 2
             (.loop
               (.seq
                (.seq
                 (.region false [⟨some 94, .mv (.tmp 17), none, []⟩,
                   ⟨some 95, .fad 0 (.tmp 4), none, []⟩,
                   ⟨some 96, .load1 (.tmp 95), none, []⟩,
                   ⟨some 97, .len_ (.tmp 96), none, []⟩,
                   ⟨some 98, .bin .lss (.tmp 94) (.tmp 97), none, []⟩] [94, 95, 96, 97])
                (.cond (.tmp 98)
                  .skip
                  (.exit 2)))
               (.seq
                (.block 3
                  (.region true [⟨some 101, .mv (.tmp 16), none, []⟩,
                    ⟨some 102, .mv (.tmp 101), none, [0]⟩,
                    ⟨some 103, .fad 0 (.tmp 3), (some (some 102, true)), [1, 0]⟩,
                    ⟨some 104, .loadN 6 (.tmp 103), (some (some 102, true)), [2, 1, 0]⟩,
                    ⟨some 105, .fad 6 (.tmp 3), (some (some 102, true)), [1, 0]⟩,
                    ⟨some 106, .load1 (.tmp 105), (some (some 102, true)), [4, 1, 0]⟩,
                    ⟨some 107, .fad 0 (.tmp 4), (some (some 102, true)), [1, 0]⟩,
                    ⟨some 108, .load1 (.tmp 107), (some (some 102, true)), [6, 1, 0]⟩,
                    ⟨some 109, .mv (.tmp 17), (some (some 102, true)), [1, 0]⟩,
                    ⟨some 110, .iadS 3 (.tmp 108) (.tmp 109), (some (some 102, true)), [7, 6, 1, 0, 8]⟩,
                    ⟨some 111, .loadN 3 (.tmp 110), (some (some 102, true)), [9, 7, 6, 1, 0, 8]⟩,
                    ⟨some 112, .mv (.tmp 15), (some (some 102, true)), [1, 0]⟩,
                    ⟨some 113, .call (.func 50) [(.tmp 104), (.tmp 106), (.tmp 111), (.tmp 112)], (some (some 102, true)), [3, 2, 1, 0, 5, 4, 10, 9, 7, 6, 8, 11]⟩,
                    ⟨some 114, .pick (.tmp 102) (.tmp 113) (.const (.bool false)), none, [1, 0, 12, 3, 2, 5, 4, 10, 9, 7, 6, 8, 11]⟩,
                    ⟨some 16, .mv (.tmp 114), none, [13, 1, 0, 12, 3, 2, 5, 4, 10, 9, 7, 6, 8, 11]⟩] [101, 102, 103, 104, 105, 106, 107, 108, 109, 110, 111, 112, 113, 114]))
               (.region false [⟨some 99, .mv (.tmp 17), none, []⟩,
                 ⟨some 100, .bin .add (.tmp 99) (.const (.int .i64 1)), none, []⟩,
                 ⟨some 17, .mv (.tmp 100), none, []⟩] [99, 100]))))))
          (.seq
           (.seq
            (.region false [⟨some 115, .mv (.tmp 16), none, []⟩,
              ⟨some 116, .mv (.tmp 11), none, []⟩,
              ⟨some 117, .mv (.tmp 15), none, []⟩,
              ⟨some 118, .call (.func 51) [(.tmp 116), (.tmp 117)], none, []⟩,
              ⟨some 119, .eqb true (.tmp 115) (.tmp 118), none, []⟩] [115, 116, 117, 118])
           (.cond (.tmp 119)
             (.seq
              (.region false [⟨some 6, .mv (.const (.bool false)), none, []⟩] [])
             .ret)
             .skip))
          (.seq
           (.region false [⟨some 120, .mv (.tmp 13), none, []⟩,
             ⟨some 121, .bin .add (.tmp 120) (.const (.int .i64 1)), none, []⟩,
             ⟨some 13, .mv (.tmp 121), none, []⟩] [120, 121])
          (.seq
           (.seq
            (.region false [⟨some 122, .mv (.tmp 16), none, []⟩,
              ⟨some 123, .un .not (.tmp 122), none, []⟩] [122])
           (.cond (.tmp 123)
             (.region false [⟨some 13, .mv (.const (.int .i64 0)), none, []⟩] [])
             .skip))
          (.seq
           (.region false [⟨some 124, .mv (.tmp 15), none, []⟩,
             ⟨some 18, .mv (.tmp 124), none, []⟩] [124])
          (.block 4
            (.loop
              (.seq
               (.seq
                (.region false [⟨some 125, .mv (.tmp 13), none, []⟩,
                  ⟨some 126, .fad 1 (.tmp 4), none, []⟩,
                  ⟨some 127, .load1 (.tmp 126), none, []⟩,
                  ⟨some 128, .bin .geq (.tmp 125) (.tmp 127), none, []⟩,
                  ⟨some 129, .mv (.tmp 128), none, []⟩,
                  ⟨some 130, .mv (.tmp 18), (some (some 129, true)), []⟩,
                  ⟨some 131, .mv (.tmp 15), (some (some 129, true)), []⟩,
                  ⟨some 132, .mv (.tmp 13), (some (some 129, true)), []⟩,
                  ⟨some 133, .bin .sub (.tmp 131) (.tmp 132), (some (some 129, true)), []⟩,
                  ⟨some 134, .bin .gtr (.tmp 130) (.tmp 133), (some (some 129, true)), []⟩,
                  ⟨some 135, .pick (.tmp 129) (.tmp 134) (.const (.bool false)), none, []⟩] [125, 126, 127, 128, 129, 130, 131, 132, 133, 134])
               (.cond (.tmp 135)
                 .skip
                 (.exit 4)))
              (.seq
               (.block 5
                 (.region false [⟨some 138, .mv (.tmp 14), none, []⟩,
                   ⟨some 139, .mv (.tmp 18), none, []⟩,
                   ⟨some 140, .iadS 1 (.tmp 138) (.tmp 139), none, []⟩,
                   ⟨none, .store 1 (.tmp 140) (.const (.bool true)), none, []⟩] [138, 139, 140]))
              (.region false [⟨some 136, .mv (.tmp 18), none, []⟩,
                ⟨some 137, .bin .sub (.tmp 136) (.const (.int .i64 1)), none, []⟩,
                ⟨some 18, .mv (.tmp 137), none, []⟩] [136, 137]))))))))))))
       (.region false [⟨some 92, .mv (.tmp 15), none, []⟩,
         ⟨some 93, .bin .add (.tmp 92) (.const (.int .i64 1)), none, []⟩,
         ⟨some 15, .mv (.tmp 93), none, []⟩] [92, 93]))))))
  (.seq
   (.seq
    (.region false [⟨some 19, .mv (.const (.int .i64 0)), none, []⟩] [])
   (.block 6
     (.loop
       (.seq
        (.seq
         (.region false [⟨some 141, .mv (.tmp 19), none, []⟩,
           ⟨some 142, .fad 6 (.tmp 3), none, []⟩,
           ⟨some 143, .load1 (.tmp 142), none, []⟩,
           ⟨some 144, .len_ (.tmp 143), none, []⟩,
           ⟨some 145, .bin .lss (.tmp 141) (.tmp 144), none, []⟩] [141, 142, 143, 144])
        (.cond (.tmp 145)
          .skip
          (.exit 6)))
       (.seq
        (.block 7
          (.seq
           (.region true [⟨some 148, .mv (.tmp 14), none, []⟩,
             ⟨some 149, .mv (.tmp 19), none, []⟩,
             ⟨some 150, .iadS 1 (.tmp 148) (.tmp 149), none, [0, 1]⟩,
             ⟨some 151, .load1 (.tmp 150), none, [2, 0, 1]⟩,
             ⟨some 152, .mv (.tmp 8), none, []⟩,
             ⟨some 153, .mv (.tmp 19), none, []⟩,
             ⟨some 154, .call (.func 51) [(.tmp 152), (.tmp 153)], none, [4, 5]⟩,
             ⟨some 155, .eqb true (.tmp 151) (.tmp 154), none, [3, 2, 0, 1, 6, 4, 5]⟩] [148, 149, 150, 151, 152, 153, 154])
          (.cond (.tmp 155)
            (.seq
             (.region false [⟨some 6, .mv (.const (.bool false)), none, []⟩] [])
            .ret)
            .skip)))
       (.region false [⟨some 146, .mv (.tmp 19), none, []⟩,
         ⟨some 147, .bin .add (.tmp 146) (.const (.int .i64 1)), none, []⟩,
         ⟨some 19, .mv (.tmp 147), none, []⟩] [146, 147]))))))
  (.seq
   (.region false [⟨some 156, .loadN 2 (.tmp 4), none, []⟩,
     ⟨some 157, .call (.func 46) [(.tmp 156)], none, []⟩,
     ⟨some 20, .mem [(.val (.slice none 0 0)), (.val (.int .i64 0))], none, []⟩,
     ⟨none, .store 2 (.tmp 20) (.tmp 157), none, []⟩] [156, 157])
  (.seq
   (.region false [⟨some 158, .fad 0 (.tmp 20), none, []⟩,
     ⟨some 159, .load1 (.tmp 158), none, []⟩,
     ⟨some 160, .loadN 3 (.tmp 5), none, []⟩,
     ⟨some 161, .buildSl 3 1 [(.val (.int .i64 0)), (.val (.int .i64 0)), (.val (.bool false))] [(0, 3, (.tmp 160))], none, []⟩,
     ⟨some 162, .app 3 24 (.tmp 159) (.tmp 161), none, []⟩,
     ⟨some 163, .fad 0 (.tmp 20), none, []⟩,
     ⟨none, .store 1 (.tmp 163) (.tmp 162), none, []⟩] [158, 159, 160, 161, 162, 163])
  (.seq
   (.region false [⟨some 164, .loadN 2 (.tmp 4), none, []⟩,
     ⟨some 165, .call (.func 46) [(.tmp 164)], none, []⟩,
     ⟨some 21, .mem [(.val (.slice none 0 0)), (.val (.int .i64 0))], none, []⟩,
     ⟨none, .store 2 (.tmp 21) (.tmp 165), none, []⟩] [164, 165])
  (.seq
   (.region false [⟨some 166, .fad 1 (.tmp 21), none, []⟩,
     ⟨some 167, .load1 (.tmp 166), none, []⟩,
     ⟨some 168, .bin .add (.tmp 167) (.const (.int .i64 1)), none, []⟩,
     ⟨some 169, .fad 1 (.tmp 21), none, []⟩,
     ⟨none, .store 1 (.tmp 169) (.tmp 168), none, []⟩] [166, 167, 168, 169])
  (.seq
   (.region false [⟨some 171, .fad 0 (.tmp 7), none, []⟩,
     ⟨some 172, .loadN 6 (.tmp 171), none, []⟩,
     ⟨some 173, .fad 6 (.tmp 7), none, []⟩,
     ⟨some 174, .load1 (.tmp 173), none, []⟩,
     ⟨some 175, .loadN 2 (.tmp 20), none, []⟩,
     ⟨some 176, .call (.func 45) [(.tmp 172), (.tmp 174), (.tmp 175)], none, []⟩,
     ⟨some 170, .mv (.tmp 176), none, []⟩,
     ⟨some 177, .ext (.tmp 170) 0, none, []⟩,
     ⟨some 178, .ext (.tmp 170) 1, none, []⟩,
     ⟨some 22, .mv (.tmp 177), none, []⟩,
     ⟨some 23, .mv (.tmp 178), none, []⟩] [171, 172, 173, 174, 175, 176, 170, 177, 178])
  (.seq
   (.region false [⟨some 180, .fad 0 (.tmp 7), none, []⟩,
     ⟨some 181, .loadN 6 (.tmp 180), none, []⟩,
     ⟨some 182, .fad 6 (.tmp 7), none, []⟩,
     ⟨some 183, .load1 (.tmp 182), none, []⟩,
     ⟨some 184, .loadN 2 (.tmp 21), none, []⟩,
     ⟨some 185, .call (.func 45) [(.tmp 181), (.tmp 183), (.tmp 184)], none, []⟩,
     ⟨some 179, .mv (.tmp 185), none, []⟩,
     ⟨some 186, .ext (.tmp 179) 0, none, []⟩,
     ⟨some 187, .ext (.tmp 179) 1, none, []⟩,
     ⟨some 24, .mv (.tmp 186), none, []⟩,
     ⟨some 25, .mv (.tmp 187), none, []⟩] [180, 181, 182, 183, 184, 185, 179, 186, 187])
  (.seq
   (.seq
    (.region false [⟨some 26, .mv (.const (.int .i64 0)), none, []⟩] [])
   (.block 8
     (.loop
       (.seq
        (.seq
         (.region false [⟨some 188, .mv (.tmp 26), none, []⟩,
           ⟨some 189, .fad 6 (.tmp 3), none, []⟩,
           ⟨some 190, .load1 (.tmp 189), none, []⟩,
           ⟨some 191, .len_ (.tmp 190), none, []⟩,
           ⟨some 192, .bin .lss (.tmp 188) (.tmp 191), none, []⟩] [188, 189, 190, 191])
        (.cond (.tmp 192)
          .skip
          (.exit 8)))
       (.seq
        (.block 9
          (.seq
           (.region false [⟨some 195, .mv (.tmp 23), none, []⟩,
             ⟨some 196, .bin .eql (.tmp 195) (.const (.int .i64 0)), none, []⟩,
             ⟨some 197, .mv (.tmp 196), none, []⟩,
             ⟨some 198, .mv (.tmp 22), (some (some 197, true)), []⟩,
             ⟨some 199, .mv (.tmp 26), (some (some 197, true)), []⟩,
             ⟨some 200, .call (.func 51) [(.tmp 198), (.tmp 199)], (some (some 197, true)), []⟩,
             ⟨some 201, .pick (.tmp 197) (.tmp 200) (.const (.bool false)), none, []⟩,
             ⟨some 202, .mv (.tmp 201), none, []⟩,
             ⟨some 203, .mv (.tmp 8), (some (some 202, true)), []⟩,
             ⟨some 204, .mv (.tmp 26), (some (some 202, true)), []⟩,
             ⟨some 205, .call (.func 51) [(.tmp 203), (.tmp 204)], (some (some 202, true)), []⟩,
             ⟨some 206, .un .not (.tmp 205), (some (some 202, true)), []⟩,
             ⟨some 207, .pick (.tmp 202) (.tmp 206) (.const (.bool false)), none, []⟩,
             ⟨some 208, .mv (.tmp 207), none, []⟩,
             ⟨some 209, .mv (.tmp 25), (some (some 208, false)), []⟩,
             ⟨some 210, .bin .eql (.tmp 209) (.const (.int .i64 0)), (some (some 208, false)), []⟩,
             ⟨some 211, .mv (.tmp 210), (some (some 208, false)), []⟩,
             ⟨some 212, .mv (.tmp 24), (some (some 211, true)), []⟩,
             ⟨some 213, .mv (.tmp 26), (some (some 211, true)), []⟩,
             ⟨some 214, .call (.func 51) [(.tmp 212), (.tmp 213)], (some (some 211, true)), []⟩,
             ⟨some 215, .pick (.tmp 211) (.tmp 214) (.const (.bool false)), (some (some 208, false)), []⟩,
             ⟨some 216, .mv (.tmp 215), (some (some 208, false)), []⟩,
             ⟨some 217, .mv (.tmp 8), (some (some 216, true)), []⟩,
             ⟨some 218, .mv (.tmp 26), (some (some 216, true)), []⟩,
             ⟨some 219, .call (.func 51) [(.tmp 217), (.tmp 218)], (some (some 216, true)), []⟩,
             ⟨some 220, .un .not (.tmp 219), (some (some 216, true)), []⟩,
             ⟨some 221, .pick (.tmp 216) (.tmp 220) (.const (.bool false)), (some (some 208, false)), []⟩,
             ⟨some 222, .pick (.tmp 208) (.const (.bool true)) (.tmp 221), none, []⟩] [195, 196, 197, 198, 199, 200, 201, 202, 203, 204, 205, 206, 207, 208, 209, 210, 211, 212, 213, 214, 215, 216, 217, 218, 219, 220, 221])
          (.cond (.tmp 222)
            (.seq
             (.region false [⟨some 6, .mv (.const (.bool false)), none, []⟩] [])
            .ret)
            .skip)))
       (.region false [⟨some 193, .mv (.tmp 26), none, []⟩,
         ⟨some 194, .bin .add (.tmp 193) (.const (.int .i64 1)), none, []⟩,
         ⟨some 26, .mv (.tmp 194), none, []⟩] [193, 194]))))))
  (.seq
   (.region false [⟨some 223, .call (.func 16) [], none, []⟩,
     ⟨some 6, .mv (.tmp 223), none, []⟩] [223])
  .ret))))))))))))))))))))
set_option maxRecDepth 100000 in
theorem klaw12_RecordEvery : IsCode Try.prog 10 224 claw12_RecordEvery [.tmp 6] :=
  ⟨Try.f10, _, [222, 192, 155, 145, 135, 123, 119, 98, 91, 82, 51, 0, 1, 2, 3, 4, 7, 10, 9, 12, 15, 17, 16, 11, 13, 18, 14, 19, 8, 20, 5, 21, 26, 23, 22, 25, 24, 6], Try.func10, rfl, by decide, rfl, by kernel_rfl, by kernel_rfl⟩
/-- law12_inside -/
def claw12_inside : ACode :=
  (.seq
   (.region false [⟨some 4, .mv (.const (.bool false)), none, []⟩] [])
  (.seq
   (.seq
    (.region false [⟨some 5, .mv (.const (.int .i64 0)), none, []⟩] [])
   (.block 0
     (.loop
       (.seq
        (.seq
         (.region false [⟨some 6, .mv (.tmp 5), none, []⟩,
           ⟨some 7, .mv (.tmp 0), none, []⟩,
           ⟨some 8, .len_ (.tmp 7), none, []⟩,
           ⟨some 9, .bin .lss (.tmp 6) (.tmp 8), none, []⟩] [6, 7, 8])
        (.cond (.tmp 9)
          .skip
          (.exit 0)))
       (.seq
        (.block 1
          (.seq
           (.region false [⟨some 12, .mv (.tmp 0), none, []⟩,
             ⟨some 13, .mv (.tmp 5), none, []⟩,
             ⟨some 14, .iadS 2 (.tmp 12) (.tmp 13), none, []⟩,
             ⟨some 15, .fad 0 (.tmp 14), none, []⟩,
             ⟨some 16, .load1 (.tmp 15), none, []⟩,
             ⟨some 17, .mv (.tmp 1), none, []⟩,
             ⟨some 18, .bin .leq (.tmp 16) (.tmp 17), none, []⟩,
             ⟨some 19, .mv (.tmp 18), none, []⟩,
             ⟨some 20, .mv (.tmp 1), (some (some 19, true)), []⟩,
             ⟨some 21, .mv (.tmp 0), (some (some 19, true)), []⟩,
             ⟨some 22, .mv (.tmp 5), (some (some 19, true)), []⟩,
             ⟨some 23, .iadS 2 (.tmp 21) (.tmp 22), (some (some 19, true)), []⟩,
             ⟨some 24, .fad 1 (.tmp 23), (some (some 19, true)), []⟩,
             ⟨some 25, .load1 (.tmp 24), (some (some 19, true)), []⟩,
             ⟨some 26, .bin .leq (.tmp 20) (.tmp 25), (some (some 19, true)), []⟩,
             ⟨some 27, .pick (.tmp 19) (.tmp 26) (.const (.bool false)), none, []⟩] [12, 13, 14, 15, 16, 17, 18, 19, 20, 21, 22, 23, 24, 25, 26])
          (.cond (.tmp 27)
            (.seq
             (.region false [⟨some 4, .mv (.const (.bool true)), none, []⟩] [])
            .ret)
            .skip)))
       (.region false [⟨some 10, .mv (.tmp 5), none, []⟩,
         ⟨some 11, .bin .add (.tmp 10) (.const (.int .i64 1)), none, []⟩,
         ⟨some 5, .mv (.tmp 11), none, []⟩] [10, 11]))))))
  (.seq
   (.region false [⟨some 4, .mv (.const (.bool false)), none, []⟩] [])
  .ret)))
set_option maxRecDepth 100000 in
theorem klaw12_inside : IsCode Try.prog 51 28 claw12_inside [.tmp 4] :=
  ⟨Try.f51, _, [27, 9, 5, 0, 1, 4], Try.func51, rfl, by decide, rfl, by kernel_rfl, by kernel_rfl⟩
/-- law12_copied -/
def claw12_copied : ACode :=
  (.seq
   (.region false [⟨some 1, .box (.tmp 0), none, []⟩,
     ⟨some 2, .mem [(.val (.slice none 0 0)), (.val (.int .i64 0))], none, []⟩] [])
  (.seq
   (.region true [⟨some 3, .buildSl 3 0 [] [], none, []⟩,
     ⟨some 4, .fad 0 (.tmp 1), none, []⟩,
     ⟨some 5, .load1 (.tmp 4), none, [1]⟩,
     ⟨some 6, .app 3 24 (.tmp 3) (.tmp 5), none, [0, 2, 1]⟩,
     ⟨some 7, .fad 1 (.tmp 1), none, []⟩,
     ⟨some 8, .load1 (.tmp 7), none, [4]⟩,
     ⟨some 9, .build [(.val (.slice none 0 0)), (.val (.int .i64 0))] [(0, 1, (.tmp 6)), (1, 1, (.tmp 8))], none, [3, 0, 2, 1, 5, 4]⟩,
     ⟨none, .store 2 (.tmp 2) (.tmp 9), none, [6, 3, 0, 2, 1, 5, 4]⟩] [3, 4, 5, 6, 7, 8, 9])
  .ret))
set_option maxRecDepth 100000 in
theorem klaw12_copied : IsCode Try.prog 46 10 claw12_copied [.cellN 2 2] :=
  ⟨Try.f46, _, [0, 1, 2], Try.func46, rfl, by decide, rfl, by kernel_rfl, by kernel_rfl⟩
/-- law12_farEvent -/
def claw12_farEvent : ACode :=
  (.seq
   (.region false [⟨some 1, .box (.tmp 0), none, []⟩,
     ⟨some 2, .mv (.const (.bool false)), none, []⟩] [])
  (.seq
   (.region false [⟨some 3, .fad 0 (.tmp 1), none, []⟩,
     ⟨some 4, .load1 (.tmp 3), none, []⟩,
     ⟨some 5, .len_ (.tmp 4), none, []⟩,
     ⟨some 6, .bin .gtr (.tmp 5) (.const (.int .i64 8)), none, []⟩,
     ⟨some 2, .mv (.tmp 6), none, []⟩] [3, 4, 5, 6])
  .ret))
set_option maxRecDepth 100000 in
theorem klaw12_farEvent : IsCode Try.prog 44 7 claw12_farEvent [.tmp 2] :=
  ⟨Try.f44, _, [0, 1, 2], Try.func44, rfl, by decide, rfl, by kernel_rfl, by kernel_rfl⟩
end Go.Proofs.Ytdcodicoclecnaa
/- The functions' bodies, translated. Written by a program; no conditions. -/
namespace Go.Proofs.Ytdcodicoclecnaa
open Go.RowKit Lift

/-- precord_tape_valid_S1 -/
def cprecord_tape_valid_S1 : ACode :=
  (.seq
   (.region false [⟨some 2, .box (.tmp 0), none, []⟩,
     ⟨some 3, .mv (.const (.bool false)), none, []⟩] [])
  (.seq
   (.region false [⟨some 4, .load1 (.tmp 1), none, []⟩,
     ⟨some 5, .fad 0 (.tmp 2), none, []⟩,
     ⟨some 6, .load1 (.tmp 5), none, []⟩,
     ⟨some 7, .call (.func 112) [(.tmp 4), (.tmp 6)], none, []⟩,
     ⟨some 8, .un .not (.tmp 7), none, []⟩,
     ⟨some 9, .mv (.tmp 8), none, []⟩,
     ⟨some 10, .fad 1 (.tmp 2), (some (some 9, false)), []⟩,
     ⟨some 11, .load1 (.tmp 10), (some (some 9, false)), []⟩,
     ⟨some 12, .call (.func 74) [(.tmp 11), (.const (.int .i64 (-1000000))), (.const (.int .i64 1000000))], (some (some 9, false)), []⟩,
     ⟨some 13, .un .not (.tmp 12), (some (some 9, false)), []⟩,
     ⟨some 14, .pick (.tmp 9) (.const (.bool true)) (.tmp 13), none, []⟩,
     ⟨some 3, .mv (.tmp 14), none, []⟩] [4, 5, 6, 7, 8, 9, 10, 11, 12, 13, 14])
  .ret))
set_option maxRecDepth 100000 in
theorem kprecord_tape_valid_S1 : IsCode Try.prog 124 15 cprecord_tape_valid_S1 [.tmp 3] :=
  ⟨Try.f124, _, [0, 1, 2, 3], Try.func124, rfl, by decide, rfl, by kernel_rfl, by kernel_rfl⟩
/-- slices_ContainsFunc_L_L_Japi_Condition_Kapi_Condition_J -/
def cslices_ContainsFunc_L_L_Japi_Condition_Kapi_Condition_J : ACode :=
  (.seq
   (.region false [⟨some 4, .mv (.const (.bool false)), none, []⟩] [])
  (.seq
   (.region false [⟨some 5, .mv (.tmp 0), none, []⟩,
     ⟨some 6, .mv (.tmp 1), none, []⟩,
     ⟨some 7, .call (.func 151) [(.tmp 5), (.tmp 6)], none, []⟩,
     ⟨some 8, .bin .geq (.tmp 7) (.const (.int .i64 0)), none, []⟩,
     ⟨some 4, .mv (.tmp 8), none, []⟩] [5, 6, 7, 8])
  .ret))
set_option maxRecDepth 100000 in
theorem kslices_ContainsFunc_L_L_Japi_Condition_Kapi_Condition_J : IsCode Try.prog 125 9 cslices_ContainsFunc_L_L_Japi_Condition_Kapi_Condition_J [.tmp 4] :=
  ⟨Try.f125, _, [0, 1, 4], Try.func125, rfl, by decide, rfl, by kernel_rfl, by kernel_rfl⟩
/-- slices_IndexFunc_L_L_Japi_Condition_Kapi_Condition_J -/
def cslices_IndexFunc_L_L_Japi_Condition_Kapi_Condition_J : ACode :=
  (.seq
   (.region false [⟨some 4, .mv (.const (.int .i64 0)), none, []⟩] [])
  (.seq
   (.seq
    (.region false [⟨some 6, .mv (.tmp 0), none, []⟩,
      ⟨some 7, .len_ (.tmp 6), none, []⟩,
      ⟨some 8, .mv (.const (.int .i64 0)), none, []⟩] [6])
   (.block 0
     (.loop
       (.seq
        (.region false [⟨some 9, .bin .lss (.tmp 8) (.tmp 7), none, []⟩] [])
       (.seq
        (.cond (.tmp 9)
          .skip
          (.exit 0))
       (.seq
        (.block 1
          (.seq
           (.region false [⟨some 10, .mv (.tmp 8), none, []⟩,
             ⟨some 5, .mv (.tmp 10), none, []⟩] [10])
          (.seq
           (.region false [⟨some 11, .mv (.tmp 1), none, []⟩,
             ⟨some 12, .mv (.tmp 0), none, []⟩,
             ⟨some 13, .mv (.tmp 5), none, []⟩,
             ⟨some 14, .iadS 3 (.tmp 12) (.tmp 13), none, []⟩,
             ⟨some 15, .loadN 3 (.tmp 14), none, []⟩,
             ⟨some 16, .call (.tmp 11) [(.tmp 15)], none, []⟩] [11, 12, 13, 14, 15])
          (.cond (.tmp 16)
            (.seq
             (.region false [⟨some 17, .mv (.tmp 5), none, []⟩,
               ⟨some 4, .mv (.tmp 17), none, []⟩] [17])
            .ret)
            .skip))))
       (.region false [⟨some 18, .bin .add (.tmp 8) (.const (.int .i64 1)), none, []⟩,
         ⟨some 8, .mv (.tmp 18), none, []⟩] [18])))))))
  (.seq
   (.region false [⟨some 4, .mv (.const (.int .i64 (-1))), none, []⟩] [])
  .ret)))
set_option maxRecDepth 100000 in
theorem kslices_IndexFunc_L_L_Japi_Condition_Kapi_Condition_J : IsCode Try.prog 151 19 cslices_IndexFunc_L_L_Japi_Condition_Kapi_Condition_J [.tmp 4] :=
  ⟨Try.f151, _, [16, 9, 0, 8, 7, 1, 5, 4], Try.func151, rfl, by decide, rfl, by kernel_rfl, by kernel_rfl⟩
end Go.Proofs.Ytdcodicoclecnaa
