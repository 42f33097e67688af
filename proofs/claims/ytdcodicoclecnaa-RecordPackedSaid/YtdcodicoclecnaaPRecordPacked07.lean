/- Texts of the law RecordPacked, part 7. No conditions. -/
import Derived.Test.YtdcodicoclecnaaPRecordPacked06
import Derived.Test.YtdcodicoclecnaaRows
/- record: a field's samples, a tape that has fields. No conditions. -/
set_option linter.unusedSimpArgs false
set_option linter.unusedVariables false
namespace Go.Proofs.Ytdcodicoclecnaa
open Go.RowKit Lift

theorem fAt_ok {l : Lay} (h : LayOk l) {k : Nat} (hk : k < l.fl.length) : FOk l.words (fAt l k) := h.fo k hk
set_option maxRecDepth 100000 in
set_option maxHeartbeats 2000000 in
theorem samples_ac (l : Lay) (frs : List (List Int)) (k : Nat) (hk : k < l.fl.length) (hn : l.fl.length ≤ 1000) : AC Try.prog 67 [.ptr 96 0, dI k] [(96, tpC l frs)] [(96, some (tpC l frs)), (120, some [.ptr 96 0]), (121, some (flC (fAt l k)))] (.fn 113 [] [.ptr 120 0, .ptr 121 0]) := by
  refine kprecord_tape_samples.ac (n0 := 200) (by simp) ⟨.ptr _ _ (by omega), .val _, trivial⟩ ⟨⟨by omega, tpC_in _ _ _⟩, trivial⟩ rfl ?_
  unfold cprecord_tape_samples
  unfold tpC
  have g1 : (fls l.fl)[k]? = some (flC (fAt l k)) := fls_gd l.fl k hk
  unfold flC at g1 ⊢
  have ki : (k : Int) < (l.fl.length : Int) := by omega
  have fa := fls_all l.fl
  have fl := fls_len l.fl
  (have hg : (987654321 : Nat) - 987654321 = 0 := rfl; have hr := hg; repeat' (first | refine aw_seq ?_ | (refine aw_skip ?_; repeat' (first | with_reducible refine thenQ_n ?_ | with_reducible refine blockQ_n ?_ | with_reducible refine thenQ_e ?_ | with_reducible refine blockQ_t ?_ | with_reducible refine blockQ_f (by decide) ?_)) | (refine aw_exit ?_; repeat' (first | with_reducible refine thenQ_n ?_ | with_reducible refine blockQ_n ?_ | with_reducible refine thenQ_e ?_ | with_reducible refine blockQ_t ?_ | with_reducible refine blockQ_f (by decide) ?_)) | refine aw_ret ?_ | refine aw_block ?_ | refine aw_condT rfl ?_ | refine aw_condF rfl ?_ | ((first | refine aw_hide fun K hK => aw_region ?_ | refine ago_if (by omega) ?_ | skip); simp (config := {maxSteps := 10000000}) (disch := first | exact okYes (by kernel_rfl) | omega) only [List.length, Nat.zero_add, Nat.reduceAdd, Nat.reduceMul, envOf, dI, ARun_none, AOpRun, aexec, D.isBot, FSt.ev, St.F, ↓eget_h, Bool.false_eq_true, Option.isSome, hget_c, Nat.reduceBEq, hget_n, cond_false, or_self, ↓reduceIte, D.cells, AGo_ok, St.app, putO, eput_c, eput_n, hups, hput_c, hput_n, List.map, ARun_nil, dropE_c, inL_n, dropE_n, Option.map, run1, eget_c, ↓hget_h, List.getElem?_cons_zero, beq_self_eq_true, cond_true, List.getElem?_cons_succ, Int.natCast_nonneg, fa, and_self, opt1, Int.toNat_natCast, g1, dB, Nat.reduceLeDiff, List.take, fillD, ne_eq, not_true_eq_false, Nat.reduceGT, splice, List.nil_append, List.drop, List.append_nil, List.all, D.leaf, Bool.and_true, inL_c]) | (subst hK; repeat' (first | with_reducible refine thenQ_n ?_ | with_reducible refine blockQ_n ?_ | with_reducible refine thenQ_e ?_ | with_reducible refine blockQ_t ?_ | with_reducible refine blockQ_f (by decide) ?_))))
  refine end_to [] [(96, 96), (120, 200), (121, 288)] (by first | exact .inl rfl | exact .inr rfl) rfl (by kernel_rfl) (by kernel_rfl) (by kernel_rfl) ?_ ?_ <;> repeat' (first | exact trivial | exact vr_val _ | exact vr_list _ | exact vr_ptr _ _ _ rfl | apply vr_fn | refine And.intro ⟨_, rfl, _, rfl, by decide, ?_⟩ ?_ | apply And.intro)
  all_goals first | exact tpC_in _ _ _ | exact flC_in _ _
set_option maxRecDepth 100000 in
set_option maxHeartbeats 2000000 in
theorem has_ac (l : Lay) (frs : List (List Int)) (x : Int) (hn : l.fl.length ≤ 1000) : AC Try.prog 112 [.ptr 96 0, dI x] [(96, tpC l frs)] [(96, some (tpC l frs))] (dB (wI x 0 ((l.fl.length : Int) - 1))) := by
  refine kprecord_tape_has.ac (n0 := 200) (by simp) ⟨.ptr _ _ (by omega), .val _, trivial⟩ ⟨⟨by omega, tpC_in _ _ _⟩, trivial⟩ rfl ?_
  unfold cprecord_tape_has
  unfold tpC
  have fl := fls_len l.fl
  (have hg : (987654321 : Nat) - 987654321 = 0 := rfl; have hr := hg; repeat' (first | refine aw_seq ?_ | (refine aw_skip ?_; repeat' (first | with_reducible refine thenQ_n ?_ | with_reducible refine blockQ_n ?_ | with_reducible refine thenQ_e ?_ | with_reducible refine blockQ_t ?_ | with_reducible refine blockQ_f (by decide) ?_)) | (refine aw_exit ?_; repeat' (first | with_reducible refine thenQ_n ?_ | with_reducible refine blockQ_n ?_ | with_reducible refine thenQ_e ?_ | with_reducible refine blockQ_t ?_ | with_reducible refine blockQ_f (by decide) ?_)) | refine aw_ret ?_ | refine aw_block ?_ | refine aw_condT rfl ?_ | refine aw_condF rfl ?_ | ((first | refine aw_hide fun K hK => aw_region ?_ | refine acall0 (within_ac _ _ _) ?_ | refine ago_if (by omega) ?_ | skip); simp (config := {maxSteps := 10000000}) (disch := first | exact okYes (by kernel_rfl) | omega) only [List.length, Nat.zero_add, Nat.reduceMul, Nat.reduceAdd, envOf, dI, ARun_none, AOpRun, aexec, FSt.ev, AGo_ok, St.app, putO, eput_c, Nat.reduceBEq, eput_n, cond_false, hups, List.map, ARun_nil, dropE_c, inL_n, dropE_n, St.F, eget_c, ↓eget_h, Option.map, run1, hget_c, beq_self_eq_true, hget_n, cond_true, List.getElem?_cons_succ, List.getElem?_cons_zero, fl, isSh, Bool.false_eq_true, ↓reduceIte, abin, fits, dB, inL_c]) | (subst hK; repeat' (first | with_reducible refine thenQ_n ?_ | with_reducible refine blockQ_n ?_ | with_reducible refine thenQ_e ?_ | with_reducible refine blockQ_t ?_ | with_reducible refine blockQ_f (by decide) ?_))))
  all_goals (refine end_to [] [(96, 96)] (by first | exact .inl rfl | exact .inr rfl) rfl (by kernel_rfl) (by kernel_rfl) (by kernel_rfl) ?_ ?_ <;> repeat' (first | exact trivial | exact vr_val _ | exact vr_list _ | refine And.intro ⟨_, rfl, _, rfl, by decide, ?_⟩ ?_ | apply And.intro))
  all_goals exact tpC_in _ _ _
set_option maxRecDepth 100000 in
set_option maxHeartbeats 2000000 in
theorem hasF_ac (l : Lay) (frs : List (List Int)) (x : Int) (hn : l.fl.length ≤ 1000) : AC Try.prog 111 [dI x, .ptr 152 0] [(96, tpC l frs), (152, [.ptr 96 0])] [(96, some (tpC l frs)), (152, some [.ptr 96 0])] (dB (!wI x 0 ((l.fl.length : Int) - 1))) := by
  refine krecord_withField_S1.ac (n0 := 200) (by simp) ⟨.val _, .ptr _ _ (by omega), trivial⟩ ⟨⟨by omega, tpC_in _ _ _⟩, ⟨by omega, by intro d hd; simp at hd; subst hd; exact .ptr _ _ (by omega)⟩, trivial⟩ rfl ?_
  unfold crecord_withField_S1
  (have hg : (987654321 : Nat) - 987654321 = 0 := rfl; have hr := hg; repeat' (first | refine aw_seq ?_ | (refine aw_skip ?_; repeat' (first | with_reducible refine thenQ_n ?_ | with_reducible refine blockQ_n ?_ | with_reducible refine thenQ_e ?_ | with_reducible refine blockQ_t ?_ | with_reducible refine blockQ_f (by decide) ?_)) | (refine aw_exit ?_; repeat' (first | with_reducible refine thenQ_n ?_ | with_reducible refine blockQ_n ?_ | with_reducible refine thenQ_e ?_ | with_reducible refine blockQ_t ?_ | with_reducible refine blockQ_f (by decide) ?_)) | refine aw_ret ?_ | refine aw_block ?_ | refine aw_condT rfl ?_ | refine aw_condF rfl ?_ | ((first | refine aw_hide fun K hK => aw_region ?_ | refine acallB (has_ac l frs _ hn) (by repeat' (first | exact trivial | exact rfl | refine And.intro ?_ ?_)) (by kernel_rfl) (by kernel_rfl) (by kernel_rfl) ?_ | refine ago_if (by omega) ?_ | skip); simp (config := {maxSteps := 10000000}) (disch := first | exact okYes (by kernel_rfl) | omega) only [List.length, Nat.zero_add, Nat.reduceMul, Nat.reduceAdd, envOf, dI, ARun_none, AOpRun, aexec, FSt.ev, AGo_ok, St.app, putO, eput_c, Nat.reduceBEq, eput_n, cond_false, hups, List.map, ARun_nil, dropE_c, inL_n, dropE_n, Option.map, run1, St.F, eget_c, ↓eget_h, hget_c, ↓hget_h, List.getElem?_cons_zero, dB, hput_c, beq_self_eq_true, hput_n, cond_true, List.append_nil, inL_c]) | (subst hK; repeat' (first | with_reducible refine thenQ_n ?_ | with_reducible refine blockQ_n ?_ | with_reducible refine thenQ_e ?_ | with_reducible refine blockQ_t ?_ | with_reducible refine blockQ_f (by decide) ?_))))
  all_goals (refine end_to [] [(96, 96), (152, 152)] (by first | exact .inl rfl | exact .inr rfl) rfl (by kernel_rfl) (by kernel_rfl) (by kernel_rfl) ?_ ?_ <;> repeat' (first | exact trivial | exact vr_val _ | exact vr_list _ | exact vr_ptr _ _ _ rfl | refine And.intro ⟨_, rfl, _, rfl, by decide, ?_⟩ ?_ | apply And.intro))
  all_goals exact tpC_in _ _ _
/-- all fields are there -/
def hasA (l : Lay) (fs : List Int) : Bool := fs.all fun x => wI x 0 ((l.fl.length : Int) - 1)
set_option maxRecDepth 100000 in
set_option maxHeartbeats 4000000 in
theorem ihas_ac (l : Lay) (frs : List (List Int)) (fs : List Int) (hl : fs.length ≤ 1000000) (hn : l.fl.length ≤ 1000) : AC Try.prog 144 [.list (ints fs), .fn 111 [] [.ptr 152 0]] [(96, tpC l frs), (152, [.ptr 96 0])] [(96, some (tpC l frs)), (152, some [.ptr 96 0])] (dI (match fs.findIdx? (fun x => !wI x 0 ((l.fl.length : Int) - 1)) with
    | some k => (k : Int)
    | none => -1)) := by
  refine kslices_IndexFunc_L_L_Jint_Kint_J.ac (n0 := 200) (by simp) ⟨.list _, .fn _ _ _ (by simp) (by intro d hd; simp at hd; subst hd; exact .ptr _ _ (by omega)), trivial⟩ ⟨⟨by omega, tpC_in _ _ _⟩, ⟨by omega, by intro d hd; simp at hd; subst hd; exact .ptr _ _ (by omega)⟩, trivial⟩ rfl ?_
  unfold cslices_IndexFunc_L_L_Jint_Kint_J
  (have hg : (987654321 : Nat) - 987654321 = 0 := rfl; have hr := hg; repeat' (first | refine aw_seq ?_ | (refine aw_skip ?_; repeat' (first | with_reducible refine thenQ_n ?_ | with_reducible refine blockQ_n ?_ | with_reducible refine thenQ_e ?_ | with_reducible refine blockQ_t ?_ | with_reducible refine blockQ_f (by decide) ?_)) | (refine aw_exit ?_; repeat' (first | with_reducible refine thenQ_n ?_ | with_reducible refine blockQ_n ?_ | with_reducible refine thenQ_e ?_ | with_reducible refine blockQ_t ?_ | with_reducible refine blockQ_f (by decide) ?_)) | refine aw_ret ?_ | refine aw_block ?_ | refine aw_condT rfl ?_ | refine aw_condF rfl ?_ | ((first | refine aw_hide fun K hK => aw_region ?_ | refine ago_if (by omega) ?_ | skip); simp (config := {maxSteps := 10000000}) (disch := first | exact okYes (by kernel_rfl) | omega) only [List.length, Nat.zero_add, Nat.reduceMul, Nat.reduceAdd, envOf, ARun_none, AOpRun, aexec, FSt.ev, AGo_ok, St.app, putO, eput_c, Nat.reduceBEq, eput_n, cond_false, hups, List.map, ARun_nil, dropE_c, inL_n, dropE_n, St.F, ↓eget_h, eget_c, ints_len, inL_c, beq_self_eq_true, cond_true, Int.reduceNeg, dI]) | (subst hK; repeat' (first | with_reducible refine thenQ_n ?_ | with_reducible refine blockQ_n ?_ | with_reducible refine thenQ_e ?_ | with_reducible refine blockQ_t ?_ | with_reducible refine blockQ_f (by decide) ?_))))
  refine aw_loop (fun k : Nat => ⟨[(0, .list (ints fs)), (1, .fn 111 [] [.ptr 152 0]), (7, dI fs.length), (8, dI k)], [(96, tpC l frs), (152, [.ptr 96 0])], 400⟩) (fun k => k ≤ fs.length ∧ ∀ j, j < k → wI (fs[j]?.getD 0) 0 ((l.fl.length : Int) - 1) = true) (fun k => fs.length - k) ⟨0, ⟨by omega, fun j hj => by omega⟩, ?_⟩ ?_
  · refine wk_to [] [(96, 96), (152, 152)] (by kernel_rfl) (by kernel_rfl) (by kernel_rfl) (by kernel_rfl) (by kernel_rfl) ?_ ?_ <;> repeat' (first | exact trivial | exact vr_val _ | exact vr_list _ | exact vr_ptr _ _ _ rfl | apply vr_fn | refine And.intro ⟨_, rfl, .inl ⟨_, rfl, by decide, ?_⟩⟩ ?_ | apply And.intro)
    all_goals exact tpC_in _ _ _
  rintro k ⟨hk, hin⟩
  by_cases hk2 : k < fs.length
  · have g1 := ints_gd fs k hk2
    cases he : wI (fs[k]?.getD 0) 0 ((l.fl.length : Int) - 1) with
    | false =>
      have q : fs.findIdx? (fun x => !wI x 0 ((l.fl.length : Int) - 1)) = some k := by
        rw [List.findIdx?_eq_some_iff_getElem]
        refine ⟨hk2, by have := he; simp [hk2] at this; simp [this], fun j hj => ?_⟩
        have := hin j hj
        simpa [show j < fs.length by omega] using this
      rw [q]
      (have hg : (987654321 : Nat) - 987654321 = 0 := rfl; have hr := hg; repeat' (first | refine aw_seq ?_ | (refine aw_skip ?_; repeat' (first | with_reducible refine thenQ_n ?_ | with_reducible refine blockQ_n ?_ | with_reducible refine thenQ_e ?_ | with_reducible refine blockQ_t ?_ | with_reducible refine blockQ_f (by decide) ?_)) | (refine aw_exit ?_; repeat' (first | with_reducible refine thenQ_n ?_ | with_reducible refine blockQ_n ?_ | with_reducible refine thenQ_e ?_ | with_reducible refine blockQ_t ?_ | with_reducible refine blockQ_f (by decide) ?_)) | refine aw_ret ?_ | refine aw_block ?_ | refine aw_condT rfl ?_ | refine aw_condF rfl ?_ | (refine aw_cond rfl (fun hg => ?_) (fun hg => ?_) <;> (try (have hq := hg; simp only [Bool.not_eq_true', Bool.not_eq_false', Bool.and_eq_true, Bool.and_eq_false_iff, Bool.or_eq_true, Bool.or_eq_false_iff, decide_eq_true_eq, decide_eq_false_iff_not, bne_iff_ne, beq_iff_eq, beq_eq_false_iff_ne, bne_eq_false_iff_eq, ne_eq, Int.not_lt, Int.not_le, Decidable.not_not] at hq)) <;> (try (have hr := hg; simp only [decide_eq_true_eq, decide_eq_false_iff_not] at hr)) <;> (try (exfalso; omega))) | ((first | refine aw_hide fun K hK => aw_region ?_ | refine acallB (hasF_ac l frs _ hn) (by repeat' (first | exact trivial | exact rfl | refine And.intro ?_ ?_)) (by kernel_rfl) (by kernel_rfl) (by kernel_rfl) ?_ | refine ago_if (by omega) ?_ | skip); simp (config := {maxSteps := 10000000}) (disch := first | exact okYes (by kernel_rfl) | omega) only [List.length, Nat.zero_add, Nat.reduceMul, Nat.reduceAdd, dI, ARun_none, AOpRun, aexec, FSt.ev, St.F, eget_c, Nat.reduceBEq, ↓eget_h, cond_false, isSh, Bool.false_eq_true, ↓reduceIte, Option.map, abin, AGo_ok, St.app, putO, eput_c, eput_n, hups, List.map, ARun_nil, dropE_c, inL_n, dropE_n, hr, decide_true, inL_c, beq_self_eq_true, cond_true, Int.natCast_nonneg, ints_all, and_self, opt1, Int.toNat_natCast, g1, run1, List.getElem?_cons_zero, dB, he, Bool.not_false, hput_c, hput_n, List.append_nil, blockQ, thenQ]) | (subst hK; repeat' (first | with_reducible refine thenQ_n ?_ | with_reducible refine blockQ_n ?_ | with_reducible refine thenQ_e ?_ | with_reducible refine blockQ_t ?_ | with_reducible refine blockQ_f (by decide) ?_))))
      all_goals (refine end_to [] [(96, 96), (152, 152)] (by first | exact .inl rfl | exact .inr rfl) rfl (by kernel_rfl) (by kernel_rfl) (by kernel_rfl) ?_ ?_ <;> repeat' (first | exact trivial | exact vr_val _ | exact vr_list _ | exact vr_ptr _ _ _ rfl | refine And.intro ⟨_, rfl, _, rfl, by decide, ?_⟩ ?_ | apply And.intro))
      all_goals exact tpC_in _ _ _
    | true =>
      (have hg : (987654321 : Nat) - 987654321 = 0 := rfl; have hr := hg; repeat' (first | refine aw_seq ?_ | (refine aw_skip ?_; repeat' (first | with_reducible refine thenQ_n ?_ | with_reducible refine blockQ_n ?_ | with_reducible refine thenQ_e ?_ | with_reducible refine blockQ_t ?_ | with_reducible refine blockQ_f (by decide) ?_)) | (refine aw_exit ?_; repeat' (first | with_reducible refine thenQ_n ?_ | with_reducible refine blockQ_n ?_ | with_reducible refine thenQ_e ?_ | with_reducible refine blockQ_t ?_ | with_reducible refine blockQ_f (by decide) ?_)) | refine aw_ret ?_ | refine aw_block ?_ | refine aw_condT rfl ?_ | refine aw_condF rfl ?_ | (refine aw_cond rfl (fun hg => ?_) (fun hg => ?_) <;> (try (have hq := hg; simp only [Bool.not_eq_true', Bool.not_eq_false', Bool.and_eq_true, Bool.and_eq_false_iff, Bool.or_eq_true, Bool.or_eq_false_iff, decide_eq_true_eq, decide_eq_false_iff_not, bne_iff_ne, beq_iff_eq, beq_eq_false_iff_ne, bne_eq_false_iff_eq, ne_eq, Int.not_lt, Int.not_le, Decidable.not_not] at hq)) <;> (try (have hr := hg; simp only [decide_eq_true_eq, decide_eq_false_iff_not] at hr)) <;> (try (exfalso; omega))) | ((first | refine aw_hide fun K hK => aw_region ?_ | refine acallB (hasF_ac l frs _ hn) (by repeat' (first | exact trivial | exact rfl | refine And.intro ?_ ?_)) (by kernel_rfl) (by kernel_rfl) (by kernel_rfl) ?_ | refine ago_if (by omega) ?_ | skip); simp (config := {maxSteps := 10000000}) (disch := first | exact okYes (by kernel_rfl) | omega) only [List.length, Nat.zero_add, Nat.reduceMul, Nat.reduceAdd, dI, ARun_none, AOpRun, aexec, FSt.ev, St.F, eget_c, Nat.reduceBEq, ↓eget_h, cond_false, isSh, Bool.false_eq_true, ↓reduceIte, Option.map, abin, AGo_ok, St.app, putO, eput_c, eput_n, hups, List.map, ARun_nil, dropE_c, inL_n, dropE_n, hr, decide_true, inL_c, beq_self_eq_true, cond_true, Int.natCast_nonneg, ints_all, and_self, opt1, Int.toNat_natCast, g1, run1, List.getElem?_cons_zero, dB, he, Bool.not_true, hput_c, hput_n, List.append_nil, fits]) | (subst hK; repeat' (first | with_reducible refine thenQ_n ?_ | with_reducible refine blockQ_n ?_ | with_reducible refine thenQ_e ?_ | with_reducible refine blockQ_t ?_ | with_reducible refine blockQ_f (by decide) ?_))))
      refine ⟨k + 1, ⟨by omega, fun j hj => ?_⟩, by omega, ?_⟩
      · rcases (by omega : j < k ∨ j = k) with h | rfl
        · exact hin j h
        · exact he
      · refine wk_to [] [(96, 96), (152, 152)] (by kernel_rfl) (by kernel_rfl) (by kernel_rfl) (by kernel_rfl) (by kernel_rfl) ?_ ?_ <;> repeat' (first | exact trivial | exact vr_val _ | exact vr_list _ | exact vr_ptr _ _ _ rfl | apply vr_fn | refine And.intro ⟨_, rfl, .inl ⟨_, rfl, by decide, ?_⟩⟩ ?_ | apply And.intro)
        all_goals exact tpC_in _ _ _
  · obtain rfl : k = fs.length := by omega
    have q : fs.findIdx? (fun x => !wI x 0 ((l.fl.length : Int) - 1)) = none := by
      rw [List.findIdx?_eq_none_iff]
      intro y hy
      obtain ⟨j, hj, rfl⟩ := List.getElem_of_mem hy
      have := hin j hj
      simp [hj] at this
      simp [this]
    rw [q]
    (have hg : (987654321 : Nat) - 987654321 = 0 := rfl; have hr := hg; repeat' (first | refine aw_seq ?_ | (refine aw_skip ?_; repeat' (first | with_reducible refine thenQ_n ?_ | with_reducible refine blockQ_n ?_ | with_reducible refine thenQ_e ?_ | with_reducible refine blockQ_t ?_ | with_reducible refine blockQ_f (by decide) ?_)) | (refine aw_exit ?_; repeat' (first | with_reducible refine thenQ_n ?_ | with_reducible refine blockQ_n ?_ | with_reducible refine thenQ_e ?_ | with_reducible refine blockQ_t ?_ | with_reducible refine blockQ_f (by decide) ?_)) | refine aw_ret ?_ | refine aw_block ?_ | refine aw_condT rfl ?_ | refine aw_condF rfl ?_ | (refine aw_cond rfl (fun hg => ?_) (fun hg => ?_) <;> (try (have hq := hg; simp only [Bool.not_eq_true', Bool.not_eq_false', Bool.and_eq_true, Bool.and_eq_false_iff, Bool.or_eq_true, Bool.or_eq_false_iff, decide_eq_true_eq, decide_eq_false_iff_not, bne_iff_ne, beq_iff_eq, beq_eq_false_iff_ne, bne_eq_false_iff_eq, ne_eq, Int.not_lt, Int.not_le, Decidable.not_not] at hq)) <;> (try (have hr := hg; simp only [decide_eq_true_eq, decide_eq_false_iff_not] at hr)) <;> (try (exfalso; omega))) | ((first | refine aw_hide fun K hK => aw_region ?_ | refine ago_if (by omega) ?_ | skip); simp (config := {maxSteps := 10000000}) (disch := first | exact okYes (by kernel_rfl) | omega) only [List.length, Nat.zero_add, Nat.reduceMul, Nat.reduceAdd, dI, ARun_none, AOpRun, aexec, FSt.ev, St.F, eget_c, Nat.reduceBEq, ↓eget_h, cond_false, isSh, Bool.false_eq_true, ↓reduceIte, Option.map, abin, AGo_ok, St.app, putO, eput_c, eput_n, hups, List.map, ARun_nil, dropE_c, inL_n, dropE_n, Int.reduceNeg, hr, decide_false]) | (subst hK; repeat' (first | with_reducible refine thenQ_n ?_ | with_reducible refine blockQ_n ?_ | with_reducible refine thenQ_e ?_ | with_reducible refine blockQ_t ?_ | with_reducible refine blockQ_f (by decide) ?_))))
    all_goals (refine end_to [] [(96, 96), (152, 152)] (by first | exact .inl rfl | exact .inr rfl) rfl (by kernel_rfl) (by kernel_rfl) (by kernel_rfl) ?_ ?_ <;> repeat' (first | exact trivial | exact vr_val _ | exact vr_list _ | exact vr_ptr _ _ _ rfl | refine And.intro ⟨_, rfl, _, rfl, by decide, ?_⟩ ?_ | apply And.intro))
    all_goals exact tpC_in _ _ _
set_option maxRecDepth 100000 in
set_option maxHeartbeats 2000000 in
theorem chas_ac (l : Lay) (frs : List (List Int)) (fs : List Int) (hl : fs.length ≤ 1000000) (hn : l.fl.length ≤ 1000) : AC Try.prog 110 [.list (ints fs), .fn 111 [] [.ptr 152 0]] [(96, tpC l frs), (152, [.ptr 96 0])] [(96, some (tpC l frs)), (152, some [.ptr 96 0])] (dB (!hasA l fs)) := by
  refine kslices_ContainsFunc_L_L_Jint_Kint_J.ac (n0 := 200) (by simp) ⟨.list _, .fn _ _ _ (by simp) (by intro d hd; simp at hd; subst hd; exact .ptr _ _ (by omega)), trivial⟩ ⟨⟨by omega, tpC_in _ _ _⟩, ⟨by omega, by intro d hd; simp at hd; subst hd; exact .ptr _ _ (by omega)⟩, trivial⟩ rfl ?_
  unfold cslices_ContainsFunc_L_L_Jint_Kint_J
  have hf := ihas_ac l frs fs hl hn
  cases h : fs.findIdx? (fun x => !wI x 0 ((l.fl.length : Int) - 1)) with
  | none =>
    have ha : hasA l fs = true := by
      rw [List.findIdx?_eq_none_iff] at h
      refine List.all_eq_true.2 fun x hx => ?_
      have := h x hx
      simpa using this
    rw [h] at hf
    rw [ha]
    (have hg : (987654321 : Nat) - 987654321 = 0 := rfl; have hr := hg; repeat' (first | refine aw_seq ?_ | (refine aw_skip ?_; repeat' (first | with_reducible refine thenQ_n ?_ | with_reducible refine blockQ_n ?_ | with_reducible refine thenQ_e ?_ | with_reducible refine blockQ_t ?_ | with_reducible refine blockQ_f (by decide) ?_)) | (refine aw_exit ?_; repeat' (first | with_reducible refine thenQ_n ?_ | with_reducible refine blockQ_n ?_ | with_reducible refine thenQ_e ?_ | with_reducible refine blockQ_t ?_ | with_reducible refine blockQ_f (by decide) ?_)) | refine aw_ret ?_ | refine aw_block ?_ | refine aw_condT rfl ?_ | refine aw_condF rfl ?_ | ((first | refine aw_hide fun K hK => aw_region ?_ | refine acallB (hf) (by repeat' (first | exact trivial | exact rfl | refine And.intro ?_ ?_)) (by kernel_rfl) (by kernel_rfl) (by kernel_rfl) ?_ | refine ago_if (by omega) ?_ | skip); simp (config := {maxSteps := 10000000}) (disch := first | exact okYes (by kernel_rfl) | omega) only [List.length, Nat.zero_add, Nat.reduceMul, Nat.reduceAdd, envOf, ARun_none, AOpRun, aexec, FSt.ev, AGo_ok, St.app, putO, eput_c, Nat.reduceBEq, eput_n, cond_false, hups, List.map, ARun_nil, dropE_c, inL_n, dropE_n, St.F, ↓eget_h, eget_c, dI, Int.reduceNeg, hput_c, beq_self_eq_true, hput_n, cond_true, List.append_nil, isSh, Bool.false_eq_true, ↓reduceIte, Option.map, abin, inL_c, dB, Bool.not_true]) | (subst hK; repeat' (first | with_reducible refine thenQ_n ?_ | with_reducible refine blockQ_n ?_ | with_reducible refine thenQ_e ?_ | with_reducible refine blockQ_t ?_ | with_reducible refine blockQ_f (by decide) ?_))))
    all_goals (refine end_to [] [(96, 96), (152, 152)] (by first | exact .inl rfl | exact .inr rfl) rfl (by kernel_rfl) (by kernel_rfl) (by kernel_rfl) ?_ ?_ <;> repeat' (first | exact trivial | exact vr_val _ | exact vr_list _ | exact vr_ptr _ _ _ rfl | refine And.intro ⟨_, rfl, _, rfl, by decide, ?_⟩ ?_ | apply And.intro))
    all_goals exact tpC_in _ _ _
  | some k =>
    have ha : hasA l fs = false := by
      rw [List.findIdx?_eq_some_iff_getElem] at h
      obtain ⟨hk, he, _⟩ := h
      refine List.all_eq_false.2 ⟨fs[k], List.getElem_mem hk, by simpa using he⟩
    rw [h] at hf
    rw [ha]
    have q : decide ((k : Int) ≥ 0) = true := decide_eq_true (by omega)
    (have hg : (987654321 : Nat) - 987654321 = 0 := rfl; have hr := hg; repeat' (first | refine aw_seq ?_ | (refine aw_skip ?_; repeat' (first | with_reducible refine thenQ_n ?_ | with_reducible refine blockQ_n ?_ | with_reducible refine thenQ_e ?_ | with_reducible refine blockQ_t ?_ | with_reducible refine blockQ_f (by decide) ?_)) | (refine aw_exit ?_; repeat' (first | with_reducible refine thenQ_n ?_ | with_reducible refine blockQ_n ?_ | with_reducible refine thenQ_e ?_ | with_reducible refine blockQ_t ?_ | with_reducible refine blockQ_f (by decide) ?_)) | refine aw_ret ?_ | refine aw_block ?_ | refine aw_condT rfl ?_ | refine aw_condF rfl ?_ | ((first | refine aw_hide fun K hK => aw_region ?_ | refine acallB (hf) (by repeat' (first | exact trivial | exact rfl | refine And.intro ?_ ?_)) (by kernel_rfl) (by kernel_rfl) (by kernel_rfl) ?_ | refine ago_if (by omega) ?_ | skip); simp (config := {maxSteps := 10000000}) (disch := first | exact okYes (by kernel_rfl) | omega) only [List.length, Nat.zero_add, Nat.reduceMul, Nat.reduceAdd, envOf, ARun_none, AOpRun, aexec, FSt.ev, AGo_ok, St.app, putO, eput_c, Nat.reduceBEq, eput_n, cond_false, hups, List.map, ARun_nil, dropE_c, inL_n, dropE_n, St.F, ↓eget_h, eget_c, dI, hput_c, beq_self_eq_true, hput_n, cond_true, List.append_nil, isSh, Bool.false_eq_true, ↓reduceIte, Option.map, abin, Int.natCast_nonneg, decide_true, inL_c, dB, Bool.not_false]) | (subst hK; repeat' (first | with_reducible refine thenQ_n ?_ | with_reducible refine blockQ_n ?_ | with_reducible refine thenQ_e ?_ | with_reducible refine blockQ_t ?_ | with_reducible refine blockQ_f (by decide) ?_))))
    all_goals (refine end_to [] [(96, 96), (152, 152)] (by first | exact .inl rfl | exact .inr rfl) rfl (by kernel_rfl) (by kernel_rfl) (by kernel_rfl) ?_ ?_ <;> repeat' (first | exact trivial | exact vr_val _ | exact vr_list _ | exact vr_ptr _ _ _ rfl | refine And.intro ⟨_, rfl, _, rfl, by decide, ?_⟩ ?_ | apply And.intro))
    all_goals exact tpC_in _ _ _
/-- the error of a layout, frames and fields -/
noncomputable def wfE (l : Lay) (frs : List (List Int)) (fs : List Int) : Int := if tpE l frs = 0 then (if hasA l fs = true then 0 else 1) else tpE l frs
set_option maxRecDepth 100000 in
set_option maxHeartbeats 4000000 in
theorem withField_ok (l : Lay) (frs : List (List Int)) (fs : List Int) (hl : LayIn l) (h1 : LayOk l) (h2 : frs.length ≤ 200) (hf : FrIn frs) (hfs : fs.length ≤ 1000) (hh : hasA l fs = true) : AC Try.prog 66 [layD l, .list (rows frs), .list (ints fs)] [] [(96, some (tpC l frs))] (.tup [.ptr 96 0, dI 0]) := by
  refine krecord_withField.ac (n0 := 0) (by simp) ⟨in_layD _ _, .list _, .list _, trivial⟩ trivial rfl ?_
  unfold crecord_withField layD layC
  have nt := newTape_ok l frs hl h1 h2 hf
  have ch := chas_ac l frs fs (by omega) (by have := h1.nf; omega)
  rw [hh] at ch
  refine aw_seq (aw_region ?_)
  simp (config := {maxSteps := 10000000}) (disch := first | exact okYes (by kernel_rfl) | omega) only [thenQ, List.map, dI, List.length, Nat.zero_add, Nat.reduceAdd, Nat.reduceMul, envOf, ARun_none, AOpRun, aexec, D.isBot, FSt.ev, St.F, ↓eget_h, Bool.false_eq_true, Option.isSome, hget_n, or_self, ↓reduceIte, D.cells, AGo_ok, St.app, putO, eput_c, Nat.reduceBEq, eput_n, cond_false, hups, hput_n, ARun_nil, dropE_c, inL_n, dropE_n]
  refine aw_wk (s' := ⟨[(1, .list (rows frs)), (2, .list (ints fs)), (3, .ptr 0 0)], [(0, [dI l.words, dI l.s0, dI l.s1, dI l.s2, dI l.s3, .list (fls l.fl)])], 80⟩) ?_ ?_
  · unfold dI
    refine wk_to [] [(0, 0)] (by kernel_rfl) (by kernel_rfl) (by kernel_rfl) (by kernel_rfl) (by kernel_rfl) ?_ ?_ <;> repeat' (first | exact trivial | exact vr_val _ | exact vr_list _ | exact vr_ptr _ _ _ rfl | refine And.intro ⟨_, rfl, .inl ⟨_, rfl, by decide, ?_⟩⟩ ?_ | apply And.intro)
  refine aw_seq (aw_region ?_)
  simp (config := {maxSteps := 10000000}) (disch := first | exact okYes (by kernel_rfl) | omega) only [thenQ, List.length, Nat.zero_add, Nat.reduceAdd, Nat.reduceMul, dI, ARun_none, AOpRun, aexec, FSt.ev, St.F, eget_c, Nat.reduceBEq, ↓eget_h, cond_false, hget_c, beq_self_eq_true, hget_n, cond_true, Nat.reduceLeDiff, ↓reduceIte, List.drop, List.take, AGo_ok, St.app, putO, eput_c, eput_n, hups, List.map]
  refine acallB nt (by repeat' (first | exact trivial | exact rfl | refine And.intro ?_ ?_)) (by kernel_rfl) (by kernel_rfl) (by kernel_rfl) ?_
  simp (config := {maxSteps := 10000000}) (disch := first | exact okYes (by kernel_rfl) | omega) only [Nat.reduceAdd, St.app, putO, dI, eput_c, Nat.reduceBEq, eput_n, cond_false, hups, hput_c, hput_n, List.map, List.append_nil, ARun_none, AOpRun, aexec, FSt.ev, St.F, eget_c, ↓eget_h, AGo_ok, opt1, Option.map, List.getElem?_cons_zero, List.getElem?_cons_succ, Option.isSome, Nat.reduceMul, hget_c, hget_n, Bool.false_eq_true, ↓reduceIte, ↓hget_h, D.isBot, D.cells, List.length, Nat.zero_add, Nat.reduceLeDiff, List.all, D.leaf, Bool.and_true, and_self, splice, List.take, List.nil_append, List.drop, beq_self_eq_true, cond_true, ARun_nil, dropE_c, inL_c, inL_n, dropE_n]
  (have hg : (987654321 : Nat) - 987654321 = 0 := rfl; have hr := hg; iterate 7 (try (first | refine aw_seq ?_ | (refine aw_skip ?_; repeat' (first | with_reducible refine thenQ_n ?_ | with_reducible refine blockQ_n ?_ | with_reducible refine thenQ_e ?_ | with_reducible refine blockQ_t ?_ | with_reducible refine blockQ_f (by decide) ?_)) | (refine aw_exit ?_; repeat' (first | with_reducible refine thenQ_n ?_ | with_reducible refine blockQ_n ?_ | with_reducible refine thenQ_e ?_ | with_reducible refine blockQ_t ?_ | with_reducible refine blockQ_f (by decide) ?_)) | refine aw_ret ?_ | refine aw_block ?_ | refine aw_condT rfl ?_ | refine aw_condF rfl ?_ | ((first | refine aw_hide fun K hK => aw_region ?_ | refine ago_if (by omega) ?_ | skip); simp (config := {maxSteps := 10000000}) (disch := first | exact okYes (by kernel_rfl) | omega) only [List.length, Nat.zero_add, Nat.reduceAdd, Nat.reduceMul, ARun_none, AOpRun, aexec, FSt.ev, St.F, eget_c, Nat.reduceBEq, ↓eget_h, cond_false, AGo_ok, St.app, putO, eput_c, eput_n, hups, List.map, isSh, Bool.false_eq_true, ↓reduceIte, Option.map, abin, bne_self_eq_false, ARun_nil, dropE_c, inL_c, inL_n, beq_self_eq_true, cond_true, dropE_n]) | (subst hK; repeat' (first | with_reducible refine thenQ_n ?_ | with_reducible refine blockQ_n ?_ | with_reducible refine thenQ_e ?_ | with_reducible refine blockQ_t ?_ | with_reducible refine blockQ_f (by decide) ?_)))))
  refine aw_wk (s' := ⟨[(2, .list (ints fs)), (8, .ptr 152 0)], [(96, tpC l frs), (152, [.ptr 96 0])], 200⟩) ?_ ?_
  · refine wk_to [] [(96, 96), (152, 128)] (by kernel_rfl) (by kernel_rfl) (by kernel_rfl) (by kernel_rfl) (by kernel_rfl) ?_ ?_ <;> repeat' (first | exact trivial | exact vr_val _ | exact vr_list _ | exact vr_ptr _ _ _ rfl | refine And.intro ⟨_, rfl, .inl ⟨_, rfl, by decide, ?_⟩⟩ ?_ | apply And.intro)
    all_goals exact tpC_in _ _ _
  (have hg : (987654321 : Nat) - 987654321 = 0 := rfl; have hr := hg; repeat' (first | refine aw_seq ?_ | (refine aw_skip ?_; repeat' (first | with_reducible refine thenQ_n ?_ | with_reducible refine blockQ_n ?_ | with_reducible refine thenQ_e ?_ | with_reducible refine blockQ_t ?_ | with_reducible refine blockQ_f (by decide) ?_)) | (refine aw_exit ?_; repeat' (first | with_reducible refine thenQ_n ?_ | with_reducible refine blockQ_n ?_ | with_reducible refine thenQ_e ?_ | with_reducible refine blockQ_t ?_ | with_reducible refine blockQ_f (by decide) ?_)) | refine aw_ret ?_ | refine aw_block ?_ | refine aw_condT rfl ?_ | refine aw_condF rfl ?_ | ((first | refine aw_hide fun K hK => aw_region ?_ | refine acallB (ch) (by repeat' (first | exact trivial | exact rfl | refine And.intro ?_ ?_)) (by kernel_rfl) (by kernel_rfl) (by kernel_rfl) ?_ | refine ago_if (by omega) ?_ | skip); simp (config := {maxSteps := 10000000}) (disch := first | exact okYes (by kernel_rfl) | omega) only [List.length, Nat.zero_add, Nat.reduceAdd, Nat.reduceMul, ARun_none, AOpRun, aexec, FSt.ev, St.F, ↓eget_h, AGo_ok, St.app, putO, eput_c, Nat.reduceBEq, eput_n, cond_false, hups, List.map, eget_c, dB, Bool.not_true, hput_c, beq_self_eq_true, hput_n, cond_true, List.append_nil, ARun_nil, dropE_c, inL_c, inL_n, dropE_n, Option.map, run1, hget_c, ↓hget_h, List.getElem?_cons_zero]) | (subst hK; repeat' (first | with_reducible refine thenQ_n ?_ | with_reducible refine blockQ_n ?_ | with_reducible refine thenQ_e ?_ | with_reducible refine blockQ_t ?_ | with_reducible refine blockQ_f (by decide) ?_))))
  refine end_to [] [(96, 96)] (by first | exact .inl rfl | exact .inr rfl) rfl (by kernel_rfl) (by kernel_rfl) (by kernel_rfl) ?_ ?_ <;> repeat' (first | exact trivial | exact vr_val _ | exact vr_list _ | exact vr_ptr _ _ _ rfl | apply vr_tup | refine And.intro ⟨_, rfl, _, rfl, by decide, ?_⟩ ?_ | apply And.intro)
  all_goals exact tpC_in _ _ _
set_option maxRecDepth 100000 in
set_option maxHeartbeats 4000000 in
theorem withField_err (l : Lay) (frs : List (List Int)) (fs : List Int) (hl : LayIn l) (hf : FrIn frs) (hfs : fs.length ≤ 1000) (he : wfE l frs fs ≠ 0) : AC Try.prog 66 [layD l, .list (rows frs), .list (ints fs)] [] [] (.tup [.val (.pointer none), dI (wfE l frs fs)]) := by
  refine krecord_withField.ac (n0 := 0) (by simp) ⟨in_layD _ _, .list _, .list _, trivial⟩ trivial rfl ?_
  unfold crecord_withField layD layC
  rcases tpE_cases l frs with ⟨h0, h1, h2⟩ | ⟨h0, h1⟩
  · have hh : hasA l fs = false := by
      cases h : hasA l fs with
      | false => rfl
      | true => exact absurd (by unfold wfE; rw [if_pos h0, if_pos h]) he
    have e : wfE l frs fs = 1 := by unfold wfE; rw [if_pos h0, hh]; rfl
    rw [e]
    have nt := newTape_ok l frs hl h1 h2 hf
    have ch := chas_ac l frs fs (by omega) (by have := h1.nf; omega)
    rw [hh] at ch
    refine aw_seq (aw_region ?_)
    simp (config := {maxSteps := 10000000}) (disch := first | exact okYes (by kernel_rfl) | omega) only [thenQ, List.map, dI, List.length, Nat.zero_add, Nat.reduceAdd, Nat.reduceMul, envOf, ARun_none, AOpRun, aexec, D.isBot, FSt.ev, St.F, ↓eget_h, Bool.false_eq_true, Option.isSome, hget_n, or_self, ↓reduceIte, D.cells, AGo_ok, St.app, putO, eput_c, Nat.reduceBEq, eput_n, cond_false, hups, hput_n, ARun_nil, dropE_c, inL_n, dropE_n]
    refine aw_wk (s' := ⟨[(1, .list (rows frs)), (2, .list (ints fs)), (3, .ptr 0 0)], [(0, [dI l.words, dI l.s0, dI l.s1, dI l.s2, dI l.s3, .list (fls l.fl)])], 80⟩) ?_ ?_
    · unfold dI
      refine wk_to [] [(0, 0)] (by kernel_rfl) (by kernel_rfl) (by kernel_rfl) (by kernel_rfl) (by kernel_rfl) ?_ ?_ <;> repeat' (first | exact trivial | exact vr_val _ | exact vr_list _ | exact vr_ptr _ _ _ rfl | refine And.intro ⟨_, rfl, .inl ⟨_, rfl, by decide, ?_⟩⟩ ?_ | apply And.intro)
    refine aw_seq (aw_region ?_)
    simp (config := {maxSteps := 10000000}) (disch := first | exact okYes (by kernel_rfl) | omega) only [thenQ, List.length, Nat.zero_add, Nat.reduceAdd, Nat.reduceMul, dI, ARun_none, AOpRun, aexec, FSt.ev, St.F, eget_c, Nat.reduceBEq, ↓eget_h, cond_false, hget_c, beq_self_eq_true, hget_n, cond_true, Nat.reduceLeDiff, ↓reduceIte, List.drop, List.take, AGo_ok, St.app, putO, eput_c, eput_n, hups, List.map]
    refine acallB nt (by repeat' (first | exact trivial | exact rfl | refine And.intro ?_ ?_)) (by kernel_rfl) (by kernel_rfl) (by kernel_rfl) ?_
    simp (config := {maxSteps := 10000000}) (disch := first | exact okYes (by kernel_rfl) | omega) only [Nat.reduceAdd, St.app, putO, dI, eput_c, Nat.reduceBEq, eput_n, cond_false, hups, hput_c, hput_n, List.map, List.append_nil, ARun_none, AOpRun, aexec, FSt.ev, St.F, eget_c, ↓eget_h, AGo_ok, opt1, Option.map, List.getElem?_cons_zero, List.getElem?_cons_succ, Option.isSome, Nat.reduceMul, hget_c, hget_n, Bool.false_eq_true, ↓reduceIte, ↓hget_h, D.isBot, D.cells, List.length, Nat.zero_add, Nat.reduceLeDiff, List.all, D.leaf, Bool.and_true, and_self, splice, List.take, List.nil_append, List.drop, beq_self_eq_true, cond_true, ARun_nil, dropE_c, inL_c, inL_n, dropE_n]
    (have hg : (987654321 : Nat) - 987654321 = 0 := rfl; have hr := hg; iterate 7 (try (first | refine aw_seq ?_ | (refine aw_skip ?_; repeat' (first | with_reducible refine thenQ_n ?_ | with_reducible refine blockQ_n ?_ | with_reducible refine thenQ_e ?_ | with_reducible refine blockQ_t ?_ | with_reducible refine blockQ_f (by decide) ?_)) | (refine aw_exit ?_; repeat' (first | with_reducible refine thenQ_n ?_ | with_reducible refine blockQ_n ?_ | with_reducible refine thenQ_e ?_ | with_reducible refine blockQ_t ?_ | with_reducible refine blockQ_f (by decide) ?_)) | refine aw_ret ?_ | refine aw_block ?_ | refine aw_condT rfl ?_ | refine aw_condF rfl ?_ | ((first | refine aw_hide fun K hK => aw_region ?_ | refine ago_if (by omega) ?_ | skip); simp (config := {maxSteps := 10000000}) (disch := first | exact okYes (by kernel_rfl) | omega) only [List.length, Nat.zero_add, Nat.reduceAdd, Nat.reduceMul, ARun_none, AOpRun, aexec, FSt.ev, St.F, eget_c, Nat.reduceBEq, ↓eget_h, cond_false, AGo_ok, St.app, putO, eput_c, eput_n, hups, List.map, isSh, Bool.false_eq_true, ↓reduceIte, Option.map, abin, bne_self_eq_false, ARun_nil, dropE_c, inL_c, inL_n, beq_self_eq_true, cond_true, dropE_n]) | (subst hK; repeat' (first | with_reducible refine thenQ_n ?_ | with_reducible refine blockQ_n ?_ | with_reducible refine thenQ_e ?_ | with_reducible refine blockQ_t ?_ | with_reducible refine blockQ_f (by decide) ?_)))))
    refine aw_wk (s' := ⟨[(2, .list (ints fs)), (8, .ptr 152 0)], [(96, tpC l frs), (152, [.ptr 96 0])], 200⟩) ?_ ?_
    · refine wk_to [] [(96, 96), (152, 128)] (by kernel_rfl) (by kernel_rfl) (by kernel_rfl) (by kernel_rfl) (by kernel_rfl) ?_ ?_ <;> repeat' (first | exact trivial | exact vr_val _ | exact vr_list _ | exact vr_ptr _ _ _ rfl | refine And.intro ⟨_, rfl, .inl ⟨_, rfl, by decide, ?_⟩⟩ ?_ | apply And.intro)
      all_goals exact tpC_in _ _ _
    (have hg : (987654321 : Nat) - 987654321 = 0 := rfl; have hr := hg; repeat' (first | refine aw_seq ?_ | (refine aw_skip ?_; repeat' (first | with_reducible refine thenQ_n ?_ | with_reducible refine blockQ_n ?_ | with_reducible refine thenQ_e ?_ | with_reducible refine blockQ_t ?_ | with_reducible refine blockQ_f (by decide) ?_)) | (refine aw_exit ?_; repeat' (first | with_reducible refine thenQ_n ?_ | with_reducible refine blockQ_n ?_ | with_reducible refine thenQ_e ?_ | with_reducible refine blockQ_t ?_ | with_reducible refine blockQ_f (by decide) ?_)) | refine aw_ret ?_ | refine aw_block ?_ | refine aw_condT rfl ?_ | refine aw_condF rfl ?_ | ((first | refine aw_hide fun K hK => aw_region ?_ | refine acallB (ch) (by repeat' (first | exact trivial | exact rfl | refine And.intro ?_ ?_)) (by kernel_rfl) (by kernel_rfl) (by kernel_rfl) ?_ | refine ago_if (by omega) ?_ | skip); simp (config := {maxSteps := 10000000}) (disch := first | exact okYes (by kernel_rfl) | omega) only [List.length, Nat.zero_add, Nat.reduceAdd, Nat.reduceMul, ARun_none, AOpRun, aexec, FSt.ev, St.F, ↓eget_h, AGo_ok, St.app, putO, eput_c, Nat.reduceBEq, eput_n, cond_false, hups, List.map, eget_c, dB, Bool.not_false, hput_c, beq_self_eq_true, hput_n, cond_true, List.append_nil, ARun_nil, dropE_c, inL_c, inL_n, dropE_n, thenQ]) | (subst hK; repeat' (first | with_reducible refine thenQ_n ?_ | with_reducible refine blockQ_n ?_ | with_reducible refine thenQ_e ?_ | with_reducible refine blockQ_t ?_ | with_reducible refine blockQ_f (by decide) ?_))))
    (refine end_to [] [] (by first | exact .inl rfl | exact .inr rfl) rfl (by kernel_rfl) (by kernel_rfl) (by kernel_rfl) ?_ ?_ <;> repeat' (first | exact trivial | exact vr_val _ | apply vr_tup | apply And.intro))
  · have e : wfE l frs fs = tpE l frs := if_neg h0
    rw [e]
    have nt := newTape_err l frs hl (fun h => h0 (tpE_ok h.1 h.2)) hf
    generalize tpE l frs = E at *
    (have hg : (987654321 : Nat) - 987654321 = 0 := rfl; have hr := hg; repeat' (first | refine aw_seq ?_ | (refine aw_skip ?_; repeat' (first | with_reducible refine thenQ_n ?_ | with_reducible refine blockQ_n ?_ | with_reducible refine thenQ_e ?_ | with_reducible refine blockQ_t ?_ | with_reducible refine blockQ_f (by decide) ?_)) | (refine aw_exit ?_; repeat' (first | with_reducible refine thenQ_n ?_ | with_reducible refine blockQ_n ?_ | with_reducible refine thenQ_e ?_ | with_reducible refine blockQ_t ?_ | with_reducible refine blockQ_f (by decide) ?_)) | refine aw_ret ?_ | refine aw_block ?_ | refine aw_condT rfl ?_ | refine aw_condF rfl ?_ | ((first | refine aw_hide fun K hK => aw_region ?_ | refine acall0 (nt) ?_ | refine ago_if (by omega) ?_ | skip); simp (config := {maxSteps := 10000000}) (disch := first | exact okYes (by kernel_rfl) | omega) only [List.length, Nat.zero_add, Nat.reduceAdd, Nat.reduceMul, envOf, dI, ARun_none, AOpRun, aexec, D.isBot, FSt.ev, St.F, ↓eget_h, Bool.false_eq_true, Option.isSome, hget_n, or_self, ↓reduceIte, D.cells, AGo_ok, St.app, putO, eput_c, Nat.reduceBEq, eput_n, cond_false, hups, hput_n, List.map, ARun_nil, dropE_c, inL_n, dropE_n, eget_c, hget_c, beq_self_eq_true, cond_true, Nat.reduceLeDiff, List.drop, List.take, opt1, Option.map, List.getElem?_cons_zero, List.getElem?_cons_succ, hput_c, ↓hget_h, List.all, D.leaf, Bool.and_true, and_self, splice, List.nil_append, List.append_nil, inL_c, isSh, abin, h1, thenQ]) | (subst hK; repeat' (first | with_reducible refine thenQ_n ?_ | with_reducible refine blockQ_n ?_ | with_reducible refine thenQ_e ?_ | with_reducible refine blockQ_t ?_ | with_reducible refine blockQ_f (by decide) ?_))))
    (refine end_to [] [] (by first | exact .inl rfl | exact .inr rfl) rfl (by kernel_rfl) (by kernel_rfl) (by kernel_rfl) ?_ ?_ <;> repeat' (first | exact trivial | exact vr_val _ | apply vr_tup | apply And.intro))
end Go.Proofs.Ytdcodicoclecnaa
/- The functions' bodies, translated. Written by a program; no conditions. -/
namespace Go.Proofs.Ytdcodicoclecnaa
open Go.RowKit Lift

/-- record_Good -/
def crecord_Good_B19 : ACode :=
  (.block 1
    (.region false [⟨some 21, .load1 (.tmp 4), none, []⟩,
      ⟨some 22, .mv (.tmp 7), none, []⟩,
      ⟨some 23, .buildSl 1 1 [(.val (.int .i64 0))] [(0, 1, (.tmp 22))], none, []⟩,
      ⟨some 24, .app 1 8 (.tmp 21) (.tmp 23), none, []⟩,
      ⟨none, .store 1 (.tmp 4) (.tmp 24), none, []⟩] [21, 22, 23, 24]))
def crecord_Good : ACode :=
  (.seq
   (.region false [⟨some 2, .box (.tmp 0), none, []⟩,
     ⟨some 4, .mem [(.val (.slice none 0 0))], none, []⟩,
     ⟨some 5, .mv (.const (.int .i64 0)), none, []⟩] [])
  (.seq
   (.region false [⟨some 9, .loadN 6 (.tmp 2), none, []⟩,
     ⟨some 10, .mv (.tmp 1), none, []⟩,
     ⟨some 11, .call (.func 71) [(.tmp 9), (.tmp 10)], none, []⟩,
     ⟨some 8, .mv (.tmp 11), none, []⟩,
     ⟨some 12, .ext (.tmp 8) 0, none, []⟩,
     ⟨some 13, .ext (.tmp 8) 1, none, []⟩,
     ⟨some 6, .mv (.tmp 12), none, []⟩,
     ⟨some 5, .mv (.tmp 13), none, []⟩] [9, 10, 11, 8, 12, 13])
  (.seq
   (.seq
    (.region false [⟨some 14, .mv (.tmp 5), none, []⟩,
      ⟨some 15, .bin .neq (.tmp 14) (.const (.int .i64 0)), none, []⟩] [14])
   (.cond (.tmp 15)
     (.seq
      (.region false [⟨some 16, .mv (.tmp 5), none, []⟩,
        ⟨none, .store 1 (.tmp 4) (.const (.slice none 0 0)), none, []⟩,
        ⟨some 5, .mv (.tmp 16), none, []⟩] [16])
     .ret)
     .skip))
  (.seq
   (.seq
    (.region false [⟨some 17, .mv (.tmp 6), none, []⟩,
      ⟨some 18, .mkfn 72 [(.tmp 17)] [], none, []⟩] [17])
   (.block 0
     (.rangeFunc (.tmp 18) [19, 20] [(7, 19)] crecord_Good_B19)))
  (.seq
   (.region false [⟨some 25, .load1 (.tmp 4), none, []⟩,
     ⟨none, .store 1 (.tmp 4) (.tmp 25), none, []⟩,
     ⟨some 5, .mv (.const (.int .i64 0)), none, []⟩] [25])
  .ret)))))
set_option maxRecDepth 100000 in
theorem krecord_Good : IsCode Try.prog 23 26 crecord_Good [.cell1 4, .tmp 5] :=
  ⟨Try.f23, _, [19, 20, 18, 15, 0, 2, 1, 5, 4, 6, 7], Try.func23, rfl, by decide, rfl, by kernel_rfl, by kernel_rfl⟩
/-- record_Read -/
def crecord_Read_B25 : ACode :=
  (.block 1
    (.region false [⟨some 27, .load1 (.tmp 6), none, []⟩,
      ⟨some 28, .mv (.tmp 9), none, []⟩,
      ⟨some 29, .mv (.tmp 10), none, []⟩,
      ⟨some 30, .build [(.val (.int .i64 0)), (.val (.int .i64 0))] [(0, 1, (.tmp 28)), (1, 1, (.tmp 29))], none, []⟩,
      ⟨some 31, .buildSl 2 1 [(.val (.int .i64 0)), (.val (.int .i64 0))] [(0, 2, (.tmp 30))], none, []⟩,
      ⟨some 32, .app 2 16 (.tmp 27) (.tmp 31), none, []⟩,
      ⟨none, .store 1 (.tmp 6) (.tmp 32), none, []⟩] [27, 28, 29, 30, 31, 32]))
def crecord_Read : ACode :=
  (.seq
   (.region false [⟨some 3, .box (.tmp 0), none, []⟩,
     ⟨some 6, .mem [(.val (.slice none 0 0))], none, []⟩,
     ⟨some 7, .mv (.const (.int .i64 0)), none, []⟩] [])
  (.seq
   (.region false [⟨some 12, .loadN 6 (.tmp 3), none, []⟩,
     ⟨some 13, .mv (.tmp 1), none, []⟩,
     ⟨some 14, .mv (.tmp 2), none, []⟩,
     ⟨some 15, .buildSl 1 1 [(.val (.int .i64 0))] [(0, 1, (.tmp 14))], none, []⟩,
     ⟨some 16, .call (.func 66) [(.tmp 12), (.tmp 13), (.tmp 15)], none, []⟩,
     ⟨some 11, .mv (.tmp 16), none, []⟩,
     ⟨some 17, .ext (.tmp 11) 0, none, []⟩,
     ⟨some 18, .ext (.tmp 11) 1, none, []⟩,
     ⟨some 8, .mv (.tmp 17), none, []⟩,
     ⟨some 7, .mv (.tmp 18), none, []⟩] [12, 13, 14, 15, 16, 11, 17, 18])
  (.seq
   (.seq
    (.region false [⟨some 19, .mv (.tmp 7), none, []⟩,
      ⟨some 20, .bin .neq (.tmp 19) (.const (.int .i64 0)), none, []⟩] [19])
   (.cond (.tmp 20)
     (.seq
      (.region false [⟨some 21, .mv (.tmp 7), none, []⟩,
        ⟨none, .store 1 (.tmp 6) (.const (.slice none 0 0)), none, []⟩,
        ⟨some 7, .mv (.tmp 21), none, []⟩] [21])
     .ret)
     .skip))
  (.seq
   (.seq
    (.region false [⟨some 22, .mv (.tmp 8), none, []⟩,
      ⟨some 23, .mv (.tmp 2), none, []⟩,
      ⟨some 24, .call (.func 67) [(.tmp 22), (.tmp 23)], none, []⟩] [22, 23])
   (.block 0
     (.rangeFunc (.tmp 24) [25, 26] [(9, 25), (10, 26)] crecord_Read_B25)))
  (.seq
   (.region false [⟨some 33, .load1 (.tmp 6), none, []⟩,
     ⟨none, .store 1 (.tmp 6) (.tmp 33), none, []⟩,
     ⟨some 7, .mv (.const (.int .i64 0)), none, []⟩] [33])
  .ret)))))
set_option maxRecDepth 100000 in
theorem krecord_Read : IsCode Try.prog 18 34 crecord_Read [.cell1 6, .tmp 7] :=
  ⟨Try.f18, _, [25, 26, 24, 20, 0, 3, 1, 2, 7, 6, 8, 9, 10], Try.func18, rfl, by decide, rfl, by kernel_rfl, by kernel_rfl⟩
/-- record_Peak -/
def crecord_Peak_B26 : ACode :=
  (.block 1
    (.seq
     (.region false [⟨some 28, .load1 (.tmp 6), none, []⟩,
       ⟨some 29, .bin .lss (.tmp 28) (.const (.int .i64 0)), none, []⟩,
       ⟨some 30, .mv (.tmp 29), none, []⟩,
       ⟨some 31, .mv (.tmp 11), (some (some 30, false)), []⟩,
       ⟨some 32, .load1 (.tmp 7), (some (some 30, false)), []⟩,
       ⟨some 33, .bin .gtr (.tmp 31) (.tmp 32), (some (some 30, false)), []⟩,
       ⟨some 34, .pick (.tmp 30) (.const (.bool true)) (.tmp 33), none, []⟩] [28, 29, 30, 31, 32, 33])
    (.cond (.tmp 34)
      (.region false [⟨some 35, .mv (.tmp 10), none, []⟩,
        ⟨some 36, .mv (.tmp 11), none, []⟩,
        ⟨none, .store 1 (.tmp 6) (.tmp 35), none, []⟩,
        ⟨none, .store 1 (.tmp 7) (.tmp 36), none, []⟩] [35, 36])
      .skip)))
def crecord_Peak : ACode :=
  (.seq
   (.region false [⟨some 3, .box (.tmp 0), none, []⟩,
     ⟨some 6, .mem [(.val (.int .i64 0))], none, []⟩,
     ⟨some 7, .mem [(.val (.int .i64 0))], none, []⟩,
     ⟨some 8, .mv (.const (.int .i64 0)), none, []⟩] [])
  (.seq
   (.region false [⟨some 13, .loadN 6 (.tmp 3), none, []⟩,
     ⟨some 14, .mv (.tmp 1), none, []⟩,
     ⟨some 15, .mv (.tmp 2), none, []⟩,
     ⟨some 16, .buildSl 1 1 [(.val (.int .i64 0))] [(0, 1, (.tmp 15))], none, []⟩,
     ⟨some 17, .call (.func 66) [(.tmp 13), (.tmp 14), (.tmp 16)], none, []⟩,
     ⟨some 12, .mv (.tmp 17), none, []⟩,
     ⟨some 18, .ext (.tmp 12) 0, none, []⟩,
     ⟨some 19, .ext (.tmp 12) 1, none, []⟩,
     ⟨some 9, .mv (.tmp 18), none, []⟩,
     ⟨some 8, .mv (.tmp 19), none, []⟩] [13, 14, 15, 16, 17, 12, 18, 19])
  (.seq
   (.seq
    (.region false [⟨some 20, .mv (.tmp 8), none, []⟩,
      ⟨some 21, .bin .neq (.tmp 20) (.const (.int .i64 0)), none, []⟩] [20])
   (.cond (.tmp 21)
     (.seq
      (.region false [⟨some 22, .mv (.tmp 8), none, []⟩,
        ⟨none, .store 1 (.tmp 6) (.const (.int .i64 0)), none, []⟩,
        ⟨none, .store 1 (.tmp 7) (.const (.int .i64 0)), none, []⟩,
        ⟨some 8, .mv (.tmp 22), none, []⟩] [22])
     .ret)
     .skip))
  (.seq
   (.region false [⟨none, .store 1 (.tmp 6) (.const (.int .i64 (-1))), none, []⟩] [])
  (.seq
   (.seq
    (.region false [⟨some 23, .mv (.tmp 9), none, []⟩,
      ⟨some 24, .mv (.tmp 2), none, []⟩,
      ⟨some 25, .call (.func 67) [(.tmp 23), (.tmp 24)], none, []⟩] [23, 24])
   (.block 0
     (.rangeFunc (.tmp 25) [26, 27] [(10, 26), (11, 27)] crecord_Peak_B26)))
  (.seq
   (.seq
    (.region false [⟨some 37, .load1 (.tmp 6), none, []⟩,
      ⟨some 38, .bin .lss (.tmp 37) (.const (.int .i64 0)), none, []⟩] [37])
   (.cond (.tmp 38)
     (.seq
      (.region false [⟨none, .store 1 (.tmp 6) (.const (.int .i64 0)), none, []⟩,
        ⟨none, .store 1 (.tmp 7) (.const (.int .i64 0)), none, []⟩,
        ⟨some 8, .mv (.const (.int .i64 3)), none, []⟩] [])
     .ret)
     .skip))
  (.seq
   (.region true [⟨some 39, .load1 (.tmp 6), none, []⟩,
     ⟨some 40, .load1 (.tmp 7), none, []⟩,
     ⟨none, .store 1 (.tmp 6) (.tmp 39), none, [0]⟩,
     ⟨none, .store 1 (.tmp 7) (.tmp 40), none, [1, 2, 0]⟩,
     ⟨some 8, .mv (.const (.int .i64 0)), none, [3, 1, 2, 0]⟩] [39, 40])
  .ret)))))))
set_option maxRecDepth 100000 in
theorem krecord_Peak : IsCode Try.prog 20 41 crecord_Peak [.cell1 6, .cell1 7, .tmp 8] :=
  ⟨Try.f20, _, [38, 34, 26, 27, 25, 21, 0, 3, 1, 2, 8, 6, 7, 9, 11, 10], Try.func20, rfl, by decide, rfl, by kernel_rfl, by kernel_rfl⟩
/-- ref12_CopyLayout -/
def cref12_CopyLayout : ACode :=
  (.seq
   (.region false [⟨some 1, .box (.tmp 0), none, []⟩,
     ⟨some 2, .mem [(.val (.int .i64 0)), (.val (.int .i64 0)), (.val (.int .i64 0)), (.val (.int .i64 0)), (.val (.int .i64 0)), (.val (.slice none 0 0))], none, []⟩] [])
  (.seq
   (.region false [⟨some 4, .loadN 6 (.tmp 1), none, []⟩,
     ⟨some 3, .mem [(.val (.int .i64 0)), (.val (.int .i64 0)), (.val (.int .i64 0)), (.val (.int .i64 0)), (.val (.int .i64 0)), (.val (.slice none 0 0))], none, []⟩,
     ⟨none, .store 6 (.tmp 3) (.tmp 4), none, []⟩] [4])
  (.seq
   (.region false [⟨some 5, .buildSl 9 0 [] [], none, []⟩,
     ⟨some 6, .fad 5 (.tmp 1), none, []⟩,
     ⟨some 7, .load1 (.tmp 6), none, []⟩,
     ⟨some 8, .app 9 72 (.tmp 5) (.tmp 7), none, []⟩,
     ⟨some 9, .fad 5 (.tmp 3), none, []⟩,
     ⟨none, .store 1 (.tmp 9) (.tmp 8), none, []⟩] [5, 6, 7, 8, 9])
  (.seq
   (.region false [⟨some 10, .loadN 6 (.tmp 3), none, []⟩,
     ⟨none, .store 6 (.tmp 2) (.tmp 10), none, []⟩] [10])
  .ret))))
set_option maxRecDepth 100000 in
theorem kref12_CopyLayout : IsCode Try.prog 31 11 cref12_CopyLayout [.cellN 2 6] :=
  ⟨Try.f31, _, [0, 1, 3, 2], Try.func31, rfl, by decide, rfl, by kernel_rfl, by kernel_rfl⟩
/-- law12_sameInts -/
def claw12_sameInts : ACode :=
  (.seq
   (.region false [⟨some 4, .mv (.const (.bool false)), none, []⟩] [])
  (.seq
   (.seq
    (.region false [⟨some 6, .mv (.tmp 0), none, []⟩,
      ⟨some 7, .len_ (.tmp 6), none, []⟩,
      ⟨some 8, .mv (.tmp 1), none, []⟩,
      ⟨some 9, .len_ (.tmp 8), none, []⟩,
      ⟨some 10, .bin .neq (.tmp 7) (.tmp 9), none, []⟩] [6, 7, 8, 9])
   (.cond (.tmp 10)
     (.seq
      (.region false [⟨some 4, .mv (.const (.bool false)), none, []⟩] [])
     .ret)
     .skip))
  (.seq
   (.seq
    (.region false [⟨some 5, .mv (.const (.int .i64 0)), none, []⟩] [])
   (.block 0
     (.loop
       (.seq
        (.seq
         (.region false [⟨some 11, .mv (.tmp 5), none, []⟩,
           ⟨some 12, .mv (.tmp 0), none, []⟩,
           ⟨some 13, .len_ (.tmp 12), none, []⟩,
           ⟨some 14, .bin .lss (.tmp 11) (.tmp 13), none, []⟩] [11, 12, 13])
        (.cond (.tmp 14)
          .skip
          (.exit 0)))
       (.seq
        (.block 1
          (.seq
           (.region true [⟨some 17, .mv (.tmp 0), none, []⟩,
             ⟨some 18, .mv (.tmp 5), none, []⟩,
             ⟨some 19, .iadS 1 (.tmp 17) (.tmp 18), none, [0, 1]⟩,
             ⟨some 20, .load1 (.tmp 19), none, [2, 0, 1]⟩,
             ⟨some 21, .mv (.tmp 1), none, []⟩,
             ⟨some 22, .mv (.tmp 5), none, []⟩,
             ⟨some 23, .iadS 1 (.tmp 21) (.tmp 22), none, [4, 5]⟩,
             ⟨some 24, .load1 (.tmp 23), none, [6, 4, 5]⟩,
             ⟨some 25, .bin .neq (.tmp 20) (.tmp 24), none, [3, 2, 0, 1, 7, 6, 4, 5]⟩] [17, 18, 19, 20, 21, 22, 23, 24])
          (.cond (.tmp 25)
            (.seq
             (.region false [⟨some 4, .mv (.const (.bool false)), none, []⟩] [])
            .ret)
            .skip)))
       (.region false [⟨some 15, .mv (.tmp 5), none, []⟩,
         ⟨some 16, .bin .add (.tmp 15) (.const (.int .i64 1)), none, []⟩,
         ⟨some 5, .mv (.tmp 16), none, []⟩] [15, 16]))))))
  (.seq
   (.region false [⟨some 4, .mv (.const (.bool true)), none, []⟩] [])
  .ret))))
set_option maxRecDepth 100000 in
theorem klaw12_sameInts : IsCode Try.prog 29 26 claw12_sameInts [.tmp 4] :=
  ⟨Try.f29, _, [25, 14, 10, 0, 1, 5, 4], Try.func29, rfl, by decide, rfl, by kernel_rfl, by kernel_rfl⟩
end Go.Proofs.Ytdcodicoclecnaa
/- record: Good, Slips. No conditions. -/
set_option linter.unusedSimpArgs false
set_option linter.unusedVariables false
namespace Go.Proofs.Ytdcodicoclecnaa
open Go.RowKit Lift

def gdI (l : Lay) (frs : List (List Int)) (k : Nat) : List Int := (gds l frs k).map (·.1)
theorem gdI_len (l : Lay) (frs : List (List Int)) (k : Nat) : (gdI l frs k).length ≤ k := by unfold gdI; rw [List.length_map]; exact gds_len _ _ _
theorem gdI_in (l : Lay) (frs : List (List Int)) (k : Nat) (h : 0 ≤ subF l (frm frs k)) : gdI l frs (k + 1) = gdI l frs k ++ [(k : Int)] := by unfold gdI; rw [gds_succ, if_pos h]; simp
theorem gdI_no (l : Lay) (frs : List (List Int)) (k : Nat) (h : ¬ 0 ≤ subF l (frm frs k)) : gdI l frs (k + 1) = gdI l frs k := by unfold gdI; rw [gds_succ, if_neg h]; simp
theorem icV_low (n g v : Nat) (L : List Int) (m : Nat) (hg : g < n) (hv : v < n) {h : Hp} (h1 : LowH n h) : LowH n ((g, [.vec v m 1]) :: (v, icells L) :: h) :=
  .cons hg (by intro d hd; simp at hd; subst hd; exact .vec _ _ _ hv) rfl (.cons hv (fun d hd => (icells_in L d hd).mono fun _ h => h.elim) (ic_noY _ _) h1)
noncomputable def goodR (l : Lay) (frs : List (List Int)) : List Int := if tpE l frs = 0 then gdI l frs frs.length else []
set_option maxRecDepth 100000 in
set_option maxHeartbeats 4000000 in
theorem good_ok (l : Lay) (frs : List (List Int)) (hl : LayIn l) (h1 : LayOk l) (h2 : frs.length ≤ 200) (hf : FrIn frs) : AC Try.prog 23 [layD l, .list (rows frs)] [] [] (.tup [.list (ints (gdI l frs frs.length)), dI 0]) := by
  refine krecord_Good.ac (n0 := 0) (by simp) ⟨in_layD _ _, .list _, trivial⟩ trivial rfl ?_
  unfold crecord_Good layD layC
  have nt := newTape_ok l frs hl h1 h2 hf
  refine aw_seq (aw_region ?_)
  simp (config := {maxSteps := 10000000}) (disch := first | exact okYes (by kernel_rfl) | omega) only [thenQ, List.map, dI, List.length, Nat.zero_add, Nat.reduceAdd, Nat.reduceMul, envOf, ARun_none, AOpRun, aexec, D.isBot, FSt.ev, St.F, ↓eget_h, Bool.false_eq_true, Option.isSome, hget_n, or_self, ↓reduceIte, D.cells, AGo_ok, St.app, putO, eput_c, Nat.reduceBEq, eput_n, cond_false, hups, hput_n, hget_c, hput_c, ARun_nil, dropE_c, inL_n, dropE_n]
  refine aw_wk (s' := ⟨[(1, .list (rows frs)), (2, .ptr 0 0), (4, .ptr 8 0)], [(0, [dI l.words, dI l.s0, dI l.s1, dI l.s2, dI l.s3, .list (fls l.fl)]), (8, [.vec 24 0 1]), (24, icells [])], 80⟩) ?_ ?_
  · unfold dI
    refine wk_to [] [(0, 0), (8, 8), (24, 900)] (by kernel_rfl) (by kernel_rfl) (by kernel_rfl) (by kernel_rfl) (by kernel_rfl) ?_ ?_ <;> repeat' (first | exact trivial | exact vr_val _ | exact vr_list _ | exact vr_ptr _ _ _ rfl | exact vr_nilv _ _ _ rfl | refine And.intro ⟨_, rfl, .inl ⟨_, rfl, by decide, ?_⟩⟩ ?_ | refine And.intro ⟨_, rfl, .inr ⟨rfl, rfl, of_decide_eq_true (by kernel_rfl)⟩⟩ ?_ | apply And.intro)
  refine aw_seq (aw_region ?_)
  simp (config := {maxSteps := 10000000}) (disch := first | exact okYes (by kernel_rfl) | omega) only [thenQ, List.length, Nat.zero_add, Nat.reduceAdd, Nat.reduceMul, dI, ARun_none, AOpRun, aexec, FSt.ev, St.F, eget_c, Nat.reduceBEq, ↓eget_h, cond_false, hget_c, beq_self_eq_true, hget_n, cond_true, Nat.reduceLeDiff, ↓reduceIte, List.drop, List.take, AGo_ok, St.app, putO, eput_c, eput_n, hups, List.map]
  refine acallB nt (by repeat' (first | exact trivial | exact rfl | refine And.intro ?_ ?_)) (by kernel_rfl) (by kernel_rfl) (by kernel_rfl) ?_
  simp (config := {maxSteps := 10000000}) (disch := first | exact okYes (by kernel_rfl) | omega) only [Nat.reduceAdd, St.app, putO, dI, eput_c, Nat.reduceBEq, eput_n, cond_false, hups, hput_c, hput_n, List.map, List.append_nil, ARun_none, AOpRun, aexec, FSt.ev, St.F, eget_c, ↓eget_h, AGo_ok, opt1, Option.map, List.getElem?_cons_zero, List.getElem?_cons_succ, ARun_nil, dropE_c, inL_c, inL_n, beq_self_eq_true, cond_true, dropE_n]
  refine aw_seq (aw_seq (aw_region ?_))
  simp (config := {maxSteps := 10000000}) (disch := first | exact okYes (by kernel_rfl) | omega) only [thenQ, List.length, Nat.zero_add, Nat.reduceAdd, Nat.reduceMul, ARun_none, AOpRun, aexec, FSt.ev, St.F, eget_c, Nat.reduceBEq, ↓eget_h, cond_false, AGo_ok, St.app, putO, eput_c, eput_n, hups, List.map, isSh, Bool.false_eq_true, ↓reduceIte, Option.map, abin, bne_self_eq_false, ARun_nil, dropE_c, inL_c, inL_n, beq_self_eq_true, cond_true, dropE_n]
  refine aw_condF rfl (aw_skip ?_)
  refine aw_seq (aw_seq (aw_region ?_))
  simp (config := {maxSteps := 10000000}) (disch := first | exact okYes (by kernel_rfl) | omega) only [thenQ, List.length, Nat.zero_add, Nat.reduceAdd, Nat.reduceMul, ARun_none, AOpRun, aexec, FSt.ev, St.F, eget_c, Nat.reduceBEq, ↓eget_h, cond_false, AGo_ok, St.app, putO, eput_c, eput_n, hups, List.map, ARun_nil, dropE_c, inL_c, inL_n, beq_self_eq_true, cond_true, dropE_n]
  refine aw_wk (s' := ⟨[(4, .ptr 8 0), (18, .fn 72 [.ptr 96 0] [])], [(96, tpC l frs), (8, [.vec 24 0 1]), (24, icells [])], 1000⟩) ?_ ?_
  · refine wk_to [] [(8, 8), (24, 24), (96, 96)] (by kernel_rfl) (by kernel_rfl) (by kernel_rfl) (by kernel_rfl) (by kernel_rfl) ?_ ?_ <;> repeat' (first | exact trivial | exact vr_val _ | exact vr_list _ | exact vr_vec _ _ _ _ rfl | exact vr_ptr _ _ _ rfl | apply vr_fn | refine And.intro ⟨_, rfl, .inl ⟨_, rfl, by decide, ?_⟩⟩ ?_ | apply And.intro)
    all_goals exact tpC_in _ _ _
  refine aw_block (aw_range [8, 96] [(4, .ptr 8 0)] [.bot, .bot, .bot, .bot, .ptr 8 0] kprecord_tape_good rfl (by simp) ⟨.inl rfl, .inl rfl, .inl rfl, .inl rfl, .inr rfl, trivial⟩ rfl rfl (by simp) ⟨.inr ⟨rfl, .ptr _ _ (by simp)⟩, trivial⟩ (fun r hr => ?_))
  refine good_hit hr rfl l frs h2 [8, 96] (by decide) [.bot, .bot, .bot, .bot, .ptr 8 0] rfl (by intro d hd; simp at hd; rcases hd with rfl | rfl; exact .bot; exact .ptr _ _ (by simp)) (by simp) (fun i => [(8, [.vec 24 (gdI l frs i).length 1]), (24, icells (gdI l frs i))]) (fun i => icV_low 1000 8 24 _ _ (by decide) (by decide) .nil) (fun i hi hs => ?_) (fun i hi hs => ?_) ?_
  · simp only [gdI_no l frs i hs]
  · have hgl := gdI_len l frs i
    rw [gdI_in l frs i hs, ← ic_app]
    generalize gdI l frs i = L at *
    have hic : (icells L).length = L.length := icells_len _
    have hit : (icells L).take L.length = icells L := ic_take _ _ rfl
    have hcin : ∀ y ∈ icells L ++ [.val (.int .i64 (i : Int))], In (fun _ => False) y := by rw [ic_app]; exact icells_in _
    have hlen : (L ++ [(i : Int)]).length = L.length + 1 := by simp
    rw [hlen]
    unfold crecord_Good_B19
    refine aw_block (aw_region ?_)
    simp (config := {maxSteps := 10000000}) (disch := first | exact okYes (by kernel_rfl) | omega) only [blockQ, List.length, Nat.zero_add, Nat.reduceAdd, Nat.reduceMul, true_and, bodyE, asgE, parE, envOf, dI, eput_c, Nat.reduceBEq, eput_n, cond_false, eget_c, ↓eget_h, ARun_none, AOpRun, aexec, Option.map, run1, FSt.ev, St.F, hget_c, ↓hget_h, List.getElem?_cons_zero, AGo_ok, St.app, putO, hups, List.map, Option.isSome, hget_n, Bool.false_eq_true, ↓reduceIte, fillD, D.isBot, D.cells, ne_eq, not_true_eq_false, Nat.reduceGT, or_self, splice, List.take, List.nil_append, List.drop, List.append_nil, hput_c, hput_n, base, Nat.mul_one, hic, Nat.le_refl, and_self, hit, elems, List.all, D.leaf, Bool.and_true, and_true, ups, List.cons_append]
    refine ago_if (by omega) ?_
    simp (config := {maxSteps := 10000000}) (disch := first | exact okYes (by kernel_rfl) | omega) only [AGo_ok, Nat.reduceAdd, St.app, putO, eput_c, Nat.reduceBEq, eput_n, cond_false, hups, hput_c, hput_n, hdel_c, beq_self_eq_true, hdel_n, cond_true, List.map, ARun_none, AOpRun, aexec, FSt.ev, St.F, eget_c, ↓eget_h, hget_c, ↓hget_h, D.isBot, D.cells, List.length, Nat.zero_add, Nat.reduceLeDiff, List.all, D.leaf, Bool.and_true, and_self, ↓reduceIte, splice, List.take, List.nil_append, List.drop, List.append_nil, ARun_nil, dropE_c, inL_c, inL_n, dropE_n]
    try refine ⟨rfl, ?_⟩
    refine wk_to [] [(8, 8), (24, 1324), (96, 96), (1000, 1000)] (by kernel_rfl) (by kernel_rfl) (by kernel_rfl) (by kernel_rfl) (by kernel_rfl) ?_ ?_ <;> repeat' (first | exact trivial | exact vr_val _ | exact vr_list _ | exact vr_vec _ _ _ _ rfl | refine And.intro ⟨_, rfl, .inl ⟨_, rfl, by decide, ?_⟩⟩ ?_ | apply And.intro | exact vrl_flat _ (by first | exact icells_in _ | exact rcells_in _ | exact scells_in _ | exact bcells_in _ | assumption))
    all_goals first | exact tpC_in _ _ _ | assumption
  · have hgl := gdI_len l frs frs.length
    generalize gdI l frs frs.length = L at *
    simp only [blockQ, thenQ]
    (have hg : (987654321 : Nat) - 987654321 = 0 := rfl; have hr := hg; repeat' (first | refine aw_seq ?_ | (refine aw_skip ?_; repeat' (first | with_reducible refine thenQ_n ?_ | with_reducible refine blockQ_n ?_ | with_reducible refine thenQ_e ?_ | with_reducible refine blockQ_t ?_ | with_reducible refine blockQ_f (by decide) ?_)) | (refine aw_exit ?_; repeat' (first | with_reducible refine thenQ_n ?_ | with_reducible refine blockQ_n ?_ | with_reducible refine thenQ_e ?_ | with_reducible refine blockQ_t ?_ | with_reducible refine blockQ_f (by decide) ?_)) | refine aw_ret ?_ | refine aw_block ?_ | refine aw_condT rfl ?_ | refine aw_condF rfl ?_ | ((first | refine aw_hide fun K hK => aw_region ?_ | refine ago_if (by omega) ?_ | skip); simp (config := {maxSteps := 10000000}) (disch := first | exact okYes (by kernel_rfl) | omega) only [List.length, Nat.zero_add, Nat.reduceAdd, Nat.reduceMul, ARun_none, AOpRun, aexec, Option.map, run1, FSt.ev, St.F, ↓eget_h, hget_c, Nat.reduceBEq, ↓hget_h, cond_false, List.getElem?_cons_zero, AGo_ok, St.app, putO, eput_c, eput_n, hups, List.map, D.isBot, eget_c, D.cells, Nat.reduceLeDiff, List.all, D.leaf, Bool.and_true, and_self, ↓reduceIte, splice, List.take, List.nil_append, List.drop, List.append_nil, hput_c, beq_self_eq_true, hput_n, cond_true, ARun_nil, dropE_c, inL_c, inL_n, dropE_n]) | (subst hK; repeat' (first | with_reducible refine thenQ_n ?_ | with_reducible refine blockQ_n ?_ | with_reducible refine thenQ_e ?_ | with_reducible refine blockQ_t ?_ | with_reducible refine blockQ_f (by decide) ?_))))
    refine end_to [24] [] (by first | exact .inl rfl | exact .inr rfl) rfl (by kernel_rfl) (by kernel_rfl) (by kernel_rfl) ?_ ?_ <;> repeat' (first | exact trivial | exact vr_val _ | apply vr_tup | refine vr_fl _ _ _ _ _ (by decide) rfl ?_ ?_ ?_ ?_ | apply And.intro)
    all_goals first | exact ints_one _ | exact ints_len _ | exact ints_flat _ | exact icells_in _
set_option maxRecDepth 100000 in
set_option maxHeartbeats 1000000 in
theorem good_err (l : Lay) (frs : List (List Int)) (hl : LayIn l) (he : tpE l frs ≠ 0) (hf : FrIn frs) : AC Try.prog 23 [layD l, .list (rows frs)] [] [] (.tup [.list (ints []), dI (tpE l frs)]) := by
  refine krecord_Good.ac (n0 := 0) (by simp) ⟨in_layD _ _, .list _, trivial⟩ trivial rfl ?_
  unfold crecord_Good layD layC
  have nt := newTape_err l frs hl (fun h => he (tpE_ok h.1 h.2)) hf
  have h1 : (tpE l frs != 0) = true := by simpa using he
  generalize tpE l frs = E at *
  (have hg : (987654321 : Nat) - 987654321 = 0 := rfl; have hr := hg; repeat' (first | refine aw_seq ?_ | (refine aw_skip ?_; repeat' (first | with_reducible refine thenQ_n ?_ | with_reducible refine blockQ_n ?_ | with_reducible refine thenQ_e ?_ | with_reducible refine blockQ_t ?_ | with_reducible refine blockQ_f (by decide) ?_)) | (refine aw_exit ?_; repeat' (first | with_reducible refine thenQ_n ?_ | with_reducible refine blockQ_n ?_ | with_reducible refine thenQ_e ?_ | with_reducible refine blockQ_t ?_ | with_reducible refine blockQ_f (by decide) ?_)) | refine aw_ret ?_ | refine aw_block ?_ | refine aw_condT rfl ?_ | refine aw_condF rfl ?_ | ((first | refine aw_hide fun K hK => aw_region ?_ | refine acall0 (nt) ?_ | refine ago_if (by omega) ?_ | skip); simp (config := {maxSteps := 10000000}) (disch := first | exact okYes (by kernel_rfl) | omega) only [List.length, Nat.zero_add, Nat.reduceAdd, Nat.reduceMul, envOf, dI, ARun_none, AOpRun, aexec, D.isBot, FSt.ev, St.F, ↓eget_h, Bool.false_eq_true, Option.isSome, hget_n, or_self, ↓reduceIte, D.cells, AGo_ok, St.app, putO, eput_c, Nat.reduceBEq, eput_n, cond_false, hups, hput_n, List.map, hget_c, hput_c, ARun_nil, dropE_c, inL_n, dropE_n, eget_c, beq_self_eq_true, cond_true, Nat.reduceLeDiff, List.drop, List.take, opt1, Option.map, List.getElem?_cons_zero, List.getElem?_cons_succ, inL_c, isSh, abin, h1, ↓hget_h, List.all, D.leaf, Bool.and_true, and_self, splice, List.nil_append, List.append_nil, thenQ]) | (subst hK; repeat' (first | with_reducible refine thenQ_n ?_ | with_reducible refine blockQ_n ?_ | with_reducible refine thenQ_e ?_ | with_reducible refine blockQ_t ?_ | with_reducible refine blockQ_f (by decide) ?_))))
  (refine end_to [] [] (by first | exact .inl rfl | exact .inr rfl) rfl (by kernel_rfl) (by kernel_rfl) (by kernel_rfl) ?_ ?_ <;> repeat' (first | exact trivial | exact vr_val _ | exact vr_nil | apply vr_tup | apply And.intro))
theorem good_ac (l : Lay) (frs : List (List Int)) (hl : LayIn l) (hf : FrIn frs) : AC Try.prog 23 [layD l, .list (rows frs)] [] [] (.tup [.list (ints (goodR l frs)), dI (tpE l frs)]) := by
  unfold goodR
  rcases tpE_cases l frs with ⟨h0, h1, h2⟩ | ⟨h0, _⟩
  · rw [if_pos h0, h0]; exact good_ok l frs hl h1 h2 hf
  · rw [if_neg h0]; exact good_err l frs hl h0 hf
end Go.Proofs.Ytdcodicoclecnaa
/- Boxes as abstract values; what is left of a box without another one. No conditions. -/
namespace Go.Proofs.Ytdcodicoclecnaa
open Go.RowKit Lift

abbrev Bx := List (Int × Int)
def sps (b : Bx) : List (List D) := b.map fun x => [.val (.int .i64 x.1), .val (.int .i64 x.2)]
def scells : Bx → List D
  | [] => []
  | x :: b => .val (.int .i64 x.1) :: .val (.int .i64 x.2) :: scells b
def bcells (l : List Bx) : List D := l.map fun b => .list (sps b)
def lo (b : Bx) (k : Nat) : Int := (b[k]?.getD (0, 0)).1
def hi (b : Bx) (k : Nat) : Int := (b[k]?.getD (0, 0)).2
theorem sps_len (b : Bx) : (sps b).length = b.length := by simp [sps]
theorem sps_all (b : Bx) : (sps b).all (fun x => x.length == 2) = true := by simp [sps]
theorem sps_two (b : Bx) : ∀ e ∈ sps b, e.length = 2 := by intro e he; obtain ⟨x, _, rfl⟩ := List.mem_map.1 he; rfl
theorem sps_flat (b : Bx) : (sps b).flatten = scells b := by
  induction b with
  | nil => rfl
  | cons x b ih => simp [sps, scells] at ih ⊢; exact ih
theorem scells_len (b : Bx) : (scells b).length = b.length * 2 := by
  induction b with
  | nil => rfl
  | cons x b ih => simp [scells, ih]; omega
theorem scells_mem {b : Bx} : ∀ {d : D}, d ∈ scells b → ∃ n, d = .val (.int .i64 n) := by
  induction b with
  | nil => intro d h; simp [scells] at h
  | cons x b ih =>
    intro d h
    simp only [scells, List.mem_cons] at h
    rcases h with rfl | rfl | h
    · exact ⟨_, rfl⟩
    · exact ⟨_, rfl⟩
    · exact ih h
theorem scells_in (b : Bx) : ∀ d ∈ scells b, In (fun _ => False) d := fun d hd => by obtain ⟨n, rfl⟩ := scells_mem hd; exact .val _
theorem bcells_in (l : List Bx) : ∀ d ∈ bcells l, In (fun _ => False) d := by
  intro d hd; obtain ⟨x, _, rfl⟩ := List.mem_map.1 hd; exact .list _
theorem scells_noY (b : Bx) : (scells b).all (noY 9) = true := List.all_eq_true.2 fun d hd => by obtain ⟨n, rfl⟩ := scells_mem hd; rfl
/-! ### what the functions compute -/
structure OkB (b : Bx) : Prop where
  pos : 1 ≤ b.length
  len : b.length ≤ 3
  low : ∀ k, k < b.length → -1000000 ≤ lo b k
  le : ∀ k, k < b.length → lo b k ≤ hi b k
  high : ∀ k, k < b.length → hi b k ≤ 1000000
end Go.Proofs.Ytdcodicoclecnaa
